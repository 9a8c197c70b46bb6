/-
  impl.singleText, pointText, pointsText, intsText, kindNames.
  impl.pointText, pointsText, intsText, kindNames.
  impl.kindNames, FormatModule.
  math.Ldexp at whole numbers.
  math.Ldexp at whole numbers, math.NaN, math.Inf, strings.CutPrefix at one byte: the walks.
  strings.CutPrefix at one byte; impl.ParseSingle, singleOf.
  Draws whose words are below 2^32: l1Odd, l1Some, FromSteps, l1Any, l2Any, l5Turn, MakeFloat, MakePoint.
  No condition.
-/
import Derived.Test.YtfmpjhjnpeheeaaGreatDoorPkH
set_option linter.unusedVariables false
set_option linter.unusedSimpArgs false
namespace Go.SX
open Go Go.Proofs Ieee
theorem max_read : double.read 9218868437227405311 = .number false 9007199254740991 971 := by decide +kernel
theorem gtr_max {y : Nat} {s : Bool} {m : Nat} {e : Int} (h : double.read y = .number s m e) (hm : m < 9007199254740992) (he : e ≤ 900) : fcmp .gtr .f64 y 9218868437227405311 = false := by
 show (double.order y 9218868437227405311 == some .gt) = false
 unfold Format.order
 rw [h, max_read]
 simp only [Datum.order]
 have hb : min e 971 = e := by omega
 rw [hb]
 have e1 : (e - e).toNat = 0 := by omega
 rw [e1]
 have hpow : 2 ≤ 2 ^ (971 - e).toNat := by
   calc 2 = 2 ^ 1 := rfl
     _ ≤ _ := Nat.pow_le_pow_right (by omega) (by omega)
 have h2 : signed false 9007199254740991 (971 - e).toNat = ((9007199254740991 * 2 ^ (971 - e).toNat : Nat) : Int) := by simp [signed, zEc]
 have h3 : (9007199254740991 * 2 : Nat) ≤ 9007199254740991 * 2 ^ (971 - e).toNat := Nat.mul_le_mul_left _ hpow
 have h1 : signed s m 0 ≤ (m : Int) := by cases s <;> simp [signed] <;> omega
 have hlt : signed s m 0 < signed false 9007199254740991 (971 - e).toNat := by rw [h2]; omega
 have : compare (signed s m 0) (signed false 9007199254740991 (971 - e).toNat) = .lt := by
   simp [compare, compareOfLessAndEq, hlt]
 rw [this]; rfl
theorem xor_sign {R : Nat} (h : R < 2 ^ 63) : R ^^^ 2 ^ 63 = 2 ^ 63 + R ∧ (2 ^ 63 + R) ^^^ 2 ^ 63 = R := by
 have h1 : 2 ^ 63 ||| R = 2 ^ 63 + R := by
   have := Nat.two_pow_add_eq_or_of_lt (i := 63) (b := R) h 1
   rw [Nat.mul_one] at this
   exact this.symm
 have hb : R.testBit 63 = false := Nat.testBit_lt_two_pow h
 have hx : R ^^^ 2 ^ 63 = 2 ^ 63 + R := by
   rw [← h1]
   apply Nat.eq_of_testBit_eq
   intro i
   rw [Nat.testBit_xor, Nat.testBit_or, Nat.testBit_two_pow]
   by_cases e : 63 = i
   · subst e; simp [hb]
   · simp [e]
 refine ⟨hx, ?_⟩
 rw [← hx, Nat.xor_assoc, Nat.xor_self, Nat.xor_zero]
theorem neg_word {s : Bool} {R : Nat} (h : R < 2 ^ 63) : Op.negFloat .f64 (double.word s R) = double.word (!s) R := by
 obtain ⟨h1, h2⟩ := xor_sign h
 have e : double.signWeight = 2 ^ 63 := by decide
 have hx : ∀ x, Op.negFloat .f64 x = x ^^^ 2 ^ 63 := fun x => rfl
 rw [hx]
 cases s
 · simp only [Format.word, e, Bool.false_eq_true, if_false, Bool.not_false, if_true]; exact h1
 · simp only [Format.word, e, if_true, Bool.not_true, Bool.false_eq_true, if_false]; exact h2
theorem w64_fin {w : Nat} (hw : w < 4294967296) (hf : w % 2147483648 < 2139095040) :
   ∃ (R m : Nat) (e : Int), w64 w = double.word (decide (2147483648 ≤ w)) R ∧ R < double.infRung ∧ (∀ s, double.read (double.word s R) = .number s m e) ∧ m < 9007199254740992 ∧ e ≤ 900 := by
 obtain ⟨r, hr⟩ : ∃ r, w % 2147483648 = r := ⟨_, rfl⟩
 rw [hr] at hf
 have hword : w = single.word (decide (2147483648 ≤ w)) r := by
   unfold Format.word
   rw [sw1]
   by_cases h : 2147483648 ≤ w
   · simp [h]; omega
   · simp [h]; omega
 have hd : FloatKind.f32.decode w = .number (decide (2147483648 ≤ w)) (rgM single r) (rgE single r) := by
   have := zEn (f := single) (by decide) (r := r) (by rw [ir1]; exact hf) (decide (2147483648 ≤ w))
   rw [← hword] at this
   exact this
 by_cases h0 : r = 0
 · subst h0
   have hread : ∀ s, double.read (double.word s 0) = .number s 0 (-1074) := fun s => by cases s <;> decide +kernel
   have he : ∀ s, FloatKind.f64.encode (.number s (rgM single 0) (rgE single 0)) = double.word s 0 := fun s => by cases s <;> decide +kernel
   refine ⟨0, 0, -1074, ?_, by decide, hread, by omega, by omega⟩
   unfold w64 fconv
   rw [if_neg (by decide), hd]
   simp only [he]
   have hdd : FloatKind.f64.decode (double.word (decide (2147483648 ≤ w)) 0) = .number (decide (2147483648 ≤ w)) 0 (-1074) := hread _
   rw [hdd]; rfl
 · have h0' := Nat.pos_of_ne_zero h0
   obtain ⟨M, last, a, b, c, d, g⟩ := dr_can (dr_rung h0' hf)
   have hlt : M < 9007199254740992 := a.lt
   have hR : (last - double.leastPlace).toNat * double.binade + M < double.infRung := by
     rw [ep2, bn2, ir2]
     omega
   obtain ⟨k1, k2⟩ := can_back a
   have hread : ∀ s, double.read (double.word s ((last - double.leastPlace).toNat * double.binade + M)) = .number s M last := fun s => by
     rw [zEn (by decide) hR, k1, k2]
   have he : ∀ s, FloatKind.f64.encode (.number s (rgM single r) (rgE single r)) = double.word s ((last - double.leastPlace).toNat * double.binade + M) := fun s => by
     show double.nearest s _ _ = _
     rw [zDn a b, Nat.min_eq_left (by omega)]
   refine ⟨_, M, last, ?_, hR, hread, hlt, c⟩
   unfold w64 fconv
   rw [if_neg (by decide), hd]
   simp only [he]
   have hdd : FloatKind.f64.decode (double.word (decide (2147483648 ≤ w)) ((last - double.leastPlace).toNat * double.binade + M)) = .number (decide (2147483648 ≤ w)) M last := hread _
   rw [hdd]; rfl
theorem inf_lt63 : double.infRung < 2 ^ 63 := by decide
theorem isInf_fin {w : Nat} (hw : w < 4294967296) (hf : w % 2147483648 < 2139095040) : fcmp .gtr .f64 (w64 w) 9218868437227405311 = false ∧ fcmp .gtr .f64 (Op.negFloat .f64 (w64 w)) 9218868437227405311 = false := by
 obtain ⟨R, m, e, h1, h2, h3, h4, h5⟩ := w64_fin hw hf
 have hlt := inf_lt63
 refine ⟨gtr_max (by rw [h1]; exact h3 _) h4 h5, gtr_max (s := !decide (2147483648 ≤ w)) ?_ h4 h5⟩
 rw [h1, neg_word (by omega)]; exact h3 _
theorem isInf_pos : fcmp .gtr .f64 (w64 2139095040) 9218868437227405311 = true := by decide +kernel
theorem isInf_neg : fcmp .gtr .f64 (w64 4286578688) 9218868437227405311 = false ∧ fcmp .gtr .f64 (Op.negFloat .f64 (w64 4286578688)) 9218868437227405311 = true := by
 constructor <;> decide +kernel
theorem neq_nan {w : Nat} (h : 2139095040 < w % 2147483648) : fcmp .neq .f32 w w = true := by
 have hr : ∃ s t, single.read w = .nan s t := by
   unfold Format.read
   simp only [sw1, bn1, ir1]
   rw [if_neg (by omega), if_neg (by omega), if_neg (by omega)]
   exact ⟨_, _, rfl⟩
 obtain ⟨s, t, hr⟩ := hr
 show (single.order w w != some .eq) = true
 unfold Format.order
 rw [hr]; rfl
theorem cmp_self (x : Int) : compare x x = .eq := by simp [compare, compareOfLessAndEq]
theorem neq_num {w : Nat} (h : ¬ 2139095040 < w % 2147483648) : fcmp .neq .f32 w w = false := by
 show (single.order w w != some .eq) = false
 unfold Format.order Format.read
 simp only [sw1, bn1, ir1]
 split
 · simp only [Datum.order, Int.min_self, cmp_self]; rfl
 · split
   · simp only [Datum.order, Int.min_self, cmp_self]; rfl
   · split
     · simp only [Datum.order]
       cases (w / 2147483648 % 2 == 1) <;> rfl
     · omega
def infC (x : Nat × Bool) : Bool := fcmp .gtr .f64 (if x.2 then x.1 else Op.negFloat .f64 x.1) 9218868437227405311
noncomputable def ct_IsInf : Ct := fam true (fun x : Nat × Bool => ([.c (.im (.flt .f64 x.1)), .c (.im (.int .i64 (if x.2 then 1 else -1)))], [])) (fun x => .one { val := .c (.im (.bool (infC x))) })
theorem isInf_inj : ∀ x y : Nat × Bool, ([D.c (.im (.flt .f64 x.1)), .c (.im (.int .i64 (if x.2 then 1 else -1)))], ([] : List (List B))) = ([D.c (.im (.flt .f64 y.1)), .c (.im (.int .i64 (if y.2 then 1 else -1)))], []) → x = y := by
 rintro ⟨a, b⟩ ⟨a', b'⟩ h
 simp only [Prod.mk.injEq, List.cons.injEq, D.c.injEq, C.im.injEq, I.flt.injEq, I.int.injEq, true_and, and_true] at h
 obtain ⟨rfl, h⟩ := h
 cases b <;> cases b' <;> simp at h ⊢
theorem run_IsInf1 (y : Nat) : ct_IsInf.run [.c (.im (.flt .f64 y)), .c (.im (.int .i64 1))] [] = some (.one { val := .c (.im (.bool (fcmp .gtr .f64 y 9218868437227405311))) }) :=
 zAd (args := fun x : Nat × Bool => ([D.c (.im (.flt .f64 x.1)), .c (.im (.int .i64 (if x.2 then 1 else -1)))], [])) isInf_inj (y, true)
theorem run_IsInf2 (y : Nat) : ct_IsInf.run [.c (.im (.flt .f64 y)), .c (.im (.int .i64 (-1)))] [] = some (.one { val := .c (.im (.bool (fcmp .gtr .f64 (Op.negFloat .f64 y) 9218868437227405311))) }) :=
 zAd (args := fun x : Nat × Bool => ([D.c (.im (.flt .f64 x.1)), .c (.im (.int .i64 (if x.2 then 1 else -1)))], [])) isInf_inj (y, false)
set_option maxRecDepth 100000 in
theorem law_IsInf : Law Tryz.prog 144 ct_IsInf := by
 refine zAf zAe hmixA Tryz.func144 rfl rfl (fun ⟨y, b⟩ => ⟨zAv rfl, by simp [Tryz.f144], ?_⟩)
 cases b with
 | true =>
   simp only [infC, if_true]
   try simp -dsimp (maxSteps := 1000000) only [go_sem, List.forall_mem_nil, ↓reduceIte, Nat.reduceEqDiff, Nat.reduceLT, Nat.reduceLeDiff, Nat.reduceAdd, Nat.reduceMul, reduceCtorEq, Tryz.f144, Int.reduceEq, Int.reduceLT]
 | false =>
   simp only [infC, Bool.false_eq_true, if_false]
   try simp -dsimp (maxSteps := 1000000) only [go_sem, List.forall_mem_nil, ↓reduceIte, Nat.reduceEqDiff, Nat.reduceLT, Nat.reduceLeDiff, Nat.reduceAdd, Nat.reduceMul, reduceCtorEq, Tryz.f144, Int.reduceEq, Int.reduceLT, Int.reduceNeg]
noncomputable def ct_singleText : Ct := fam true (fun w : W32a => ([.c (.im (.flt .f32 w.1))], [])) (fun w => .one { val := .c (.im (.str ⟨(sglT w.1).toArray⟩)) })
theorem zEj {w : Nat} (h : w < 4294967296) : ct_singleText.run [.c (.im (.flt .f32 w))] [] = some (.one { val := .c (.im (.str ⟨(sglT w).toArray⟩)) }) := by
 refine zAd (args := fun w : W32a => ([D.c (.im (.flt .f32 w.1))], [])) ?_ ⟨w, h⟩
 rintro ⟨a, _⟩ ⟨b, _⟩ h
 simp only [Prod.mk.injEq, List.cons.injEq, D.c.injEq, C.im.injEq, I.flt.injEq, true_and, and_true] at h
 exact Subtype.ext h
set_option maxRecDepth 100000 in
set_option maxHeartbeats 4000000 in
theorem law_singleText : Law Tryz.prog 71 ct_singleText := by
 refine zAf (zAc law_IsInf (zAc zHe zAe)) hmixA Tryz.func71 rfl rfl (fun ⟨w, hw⟩ => ⟨zAv rfl, by simp [Tryz.f71], ?_⟩)
 simp only
 by_cases h1 : 2139095040 < w % 2147483648
 · have hT : sglT w = nanT := by unfold sglT; rw [if_pos h1]
   have hn := neq_nan h1
   rw [hT, nanT]
   try simp -dsimp (maxSteps := 1000000) only [go_sem, List.forall_mem_nil, ↓reduceIte, Nat.reduceEqDiff, Nat.reduceLT, Nat.reduceLeDiff, Nat.reduceAdd, Nat.reduceMul, reduceCtorEq, Tryz.f71, hn]
 have hn := neq_num h1
 by_cases h2 : w % 2147483648 = 2139095040
 · by_cases h3 : 2147483648 ≤ w
   · have : w = 4286578688 := by omega
     subst this
     have hT : sglT 4286578688 = ninfT := by decide
     obtain ⟨i1, i2⟩ := isInf_neg
     generalize hx : w64 4286578688 = y at *
     have hfc := fconv_w (x := 4286578688)
     rw [hx] at hfc
     generalize (4286578688 : Nat) = w at *
     rw [hT, ninfT]
     try simp -dsimp (maxSteps := 1000000) only [go_sem, List.forall_mem_nil, ↓reduceIte, Nat.reduceEqDiff, Nat.reduceLT, Nat.reduceLeDiff, Nat.reduceAdd, Nat.reduceMul, reduceCtorEq, Tryz.f71, hn, hfc, run_IsInf1, run_IsInf2, i1, i2]
   · have : w = 2139095040 := by omega
     subst this
     have hT : sglT 2139095040 = infT := by decide
     have i1 := isInf_pos
     generalize hx : w64 2139095040 = y at *
     have hfc := fconv_w (x := 2139095040)
     rw [hx] at hfc
     generalize (2139095040 : Nat) = w at *
     rw [hT, infT]
     try simp -dsimp (maxSteps := 1000000) only [go_sem, List.forall_mem_nil, ↓reduceIte, Nat.reduceEqDiff, Nat.reduceLT, Nat.reduceLeDiff, Nat.reduceAdd, Nat.reduceMul, reduceCtorEq, Tryz.f71, hn, hfc, run_IsInf1, i1]
 · have hf : isFin w = true := by simp only [isFin, decide_eq_true_eq]; omega
   have hT : sglT w = fsT w := by unfold sglT fsT; rw [if_neg h1, if_neg h2, if_pos hf]
   obtain ⟨i1, i2⟩ := isInf_fin hw (by omega)
   rw [hT]
   try simp -dsimp (maxSteps := 1000000) only [go_sem, List.forall_mem_nil, ↓reduceIte, Nat.reduceEqDiff, Nat.reduceLT, Nat.reduceLeDiff, Nat.reduceAdd, Nat.reduceMul, reduceCtorEq, Tryz.f71, hn, fconv_w, run_IsInf1, run_IsInf2, i1, i2, zAu hw]
end Go.SX
namespace Go.SX
open Go Go.Proofs Ieee
theorem fmtT_len {w : Nat} (h : Fin32 w) : (fmtT w).length ≤ 44 := by
 have hs : ∀ b, (sgnT b).length ≤ 1 := fun b => by cases b <;> simp [sgnT]
 have h1 := hs (decide (2147483648 ≤ w))
 unfold fmtT
 rw [List.length_append]
 unfold magT
 split
 · simp; omega
 · rename_i h0
   have hm := md_of (Nat.pos_of_ne_zero h0) h.fin
   have a := zBv (n := (mdM (w % 2147483648) : Int)) ⟨by omega, by have := hm.lt; omega⟩
   have b := zBv (n := mdE (w % 2147483648)) ⟨by have := hm.lo; omega, by have := hm.hi; omega⟩
   simp only [List.length_append, List.length_cons]
   omega
theorem zEh {w : Nat} (hw : w < 4294967296) : (sglT w).length ≤ 44 := by
 unfold sglT
 split
 · simp [nanT]
 · split
   · split
     · simp [ninfT]
     · simp [infT]
   · exact fmtT_len ⟨hw, by omega⟩
theorem take_snoc' {α : Type} {l : List α} {k : Nat} {p : α} (h : l[k]? = some p) : l.take (k + 1) = l.take k ++ [p] := by
 rw [List.take_add_one, h]; rfl
abbrev PtW := { p : Pt // p.1 < 4294967296 ∧ p.2 < 4294967296 }
def ptT (p : Pt) : Txt := sglT p.1 ++ 32 :: sglT p.2
noncomputable def ct_pointText : Ct := fam true (fun p : PtW => ([.c (.im (.cpx .f32 p.1.1 p.1.2))], [])) (fun p => .one { val := .c (.im (.str ⟨(ptT p.1).toArray⟩)) })
theorem run_pointText {u v : Nat} (h1 : u < 4294967296) (h2 : v < 4294967296) : ct_pointText.run [.c (.im (.cpx .f32 u v))] [] = some (.one { val := .c (.im (.str ⟨(ptT (u, v)).toArray⟩)) }) := by
 refine zAd (args := fun p : PtW => ([D.c (.im (.cpx .f32 p.1.1 p.1.2))], [])) ?_ ⟨(u, v), h1, h2⟩
 rintro ⟨⟨a, b⟩, _⟩ ⟨⟨a', b'⟩, _⟩ h
 simp only [Prod.mk.injEq, List.cons.injEq, D.c.injEq, C.im.injEq, I.cpx.injEq, true_and, and_true] at h
 exact Subtype.ext (Prod.ext h.1 h.2)
set_option maxRecDepth 100000 in
theorem law_pointText : Law Tryz.prog 143 ct_pointText := by
 refine zAf (zAc law_singleText zAe) hmixA Tryz.func143 rfl rfl (fun ⟨⟨u, v⟩, h1, h2⟩ => ⟨zAv rfl, by simp [Tryz.f143], ?_⟩)
 simp only [ptT]
 have r1 := zEj h1
 have r2 := zEj h2
 have la := zEh h1
 have lb := zEh h2
 simp only at la lb r1 r2
 generalize sglT u = A at *
 generalize sglT v = B at *
 have q5 : (A.length + 1 ≤ 4611686018427387904) = True := eq_true (by omega)
 have q6 : (A.length + 1 + B.length ≤ 4611686018427387904) = True := eq_true (by omega)
 have e : A ++ [32] ++ B = A ++ 32 :: B := by simp
 try simp -dsimp (maxSteps := 1000000) only [go_sem, List.forall_mem_nil, ↓reduceIte, Nat.reduceEqDiff, Nat.reduceLT, Nat.reduceLeDiff, Nat.reduceAdd, Nat.reduceMul, reduceCtorEq, Tryz.f143, r1, r2, q5, q6, zDd, e, List.size_toArray, List.length_append]
theorem ptT_len {p : Pt} (h : p.1 < 4294967296 ∧ p.2 < 4294967296) : (ptT p).length ≤ 89 := by
 have a := zEh h.1
 have b := zEh h.2
 simp only [ptT, List.length_append, List.length_cons]
 omega
theorem behind_app (a b : List Txt) : behind (a ++ b) = behind a ++ behind b := by simp [behind]
theorem behind_pt (p : Pt) : behind (ptW p) = 32 :: ptT p := by simp [behind, ptW, ptT]
theorem ptsW_app (a b : List Pt) : ptsW (a ++ b) = ptsW a ++ ptsW b := by simp [ptsW]
theorem zBj : ∀ (l : List Pt), (∀ p ∈ l, p.1 < 4294967296 ∧ p.2 < 4294967296) → (behind (ptsW l)).length ≤ 90 * l.length
 | [], _ => by simp [behind, ptsW]
 | p :: l, h => by
   have ih := zBj l (fun q hq => h q (List.mem_cons_of_mem _ hq))
   have e : ptsW (p :: l) = ptW p ++ ptsW l := by simp [ptsW]
   have := ptT_len (h p (by simp))
   rw [e, behind_app, behind_pt, List.length_append, List.length_cons, List.length_cons]
   omega
structure APtw where
 l : List Pt
 h : l.length ≤ sm
 w : ∀ p ∈ l, p.1 < 4294967296 ∧ p.2 < 4294967296
noncomputable def zCj : Ct := fam true (fun x : APtw => ([.c (.im (.sl 1 (rowsZ x.l)))], [])) (fun x => .one { val := .c (.im (.str ⟨(behind (ptsW x.l)).toArray⟩)) })
theorem zDa {l : List Pt} (h : l.length ≤ sm) (w : ∀ p ∈ l, p.1 < 4294967296 ∧ p.2 < 4294967296) : zCj.run [.c (.im (.sl 1 (rowsZ l)))] [] = some (.one { val := .c (.im (.str ⟨(behind (ptsW l)).toArray⟩)) }) := by
 refine zAd (args := fun x : APtw => ([D.c (.im (.sl 1 (rowsZ x.l)))], [])) ?_ ⟨l, h, w⟩
 rintro ⟨a, _, _⟩ ⟨b, _, _⟩ h
 simp only [Prod.mk.injEq, List.cons.injEq, D.c.injEq, C.im.injEq, I.sl.injEq, true_and, and_true, zAs] at h
 subst h; rfl
theorem zDr : (zCj.sc = true) = True := by simp [zCj, fam]
set_option maxRecDepth 100000 in
set_option maxHeartbeats 4000000 in
theorem law_pointsText : Law Tryz.prog 70 zCj := by
 refine zAf (zAc law_pointText zAe) hmixA Tryz.func70 rfl rfl (fun ⟨l, hl, hw⟩ => ⟨zAv rfl, by simp [Tryz.f70], ?_⟩)
 simp only
 have hsm : sm = 16777216 := rfl
 try simp -dsimp (maxSteps := 1000000) only [go_sem, List.forall_mem_nil, ↓reduceIte, Nat.reduceEqDiff, Nat.reduceLT, Nat.reduceLeDiff, Nat.reduceAdd, Nat.reduceMul, reduceCtorEq, Tryz.f70, zAa]
 refine zBh (ι := { k : Nat // k ≤ l.length }) (fun k => ⟨[(3, some (.c (.im (.str ⟨(behind (ptsW (l.take k.1))).toArray⟩)))), (6, some (.c (.im (.sl 1 (rowsZ l))))), (7, some (.c (.im (.int .i64 (l.length : Int))))), (8, some (.c (.im (.int .i64 (k.1 : Int)))))],
   [], 0⟩) (fun k => l.length - k.1) ⟨0, by simp⟩ ⟨[], [], by ((simp only [go_sem, eq_self, MvRb, MvRn, MvRt, List.nodup_cons, List.nodup_nil, ↓reduceIte, Nat.reduceEqDiff, Nat.reduceLT, Nat.reduceLeDiff, reduceCtorEq, List.forall_mem_nil, Nat.zero_le, false_implies, List.mem_singleton, List.take_zero, behind, ptsW, List.flatMap_nil]) <;> (try (simp -dsimp only [go_sem, eq_self, MvRb, MvRn, MvRt, List.nodup_cons, List.nodup_nil, ↓reduceIte, Nat.reduceEqDiff, Nat.reduceLT, Nat.reduceLeDiff, reduceCtorEq, List.forall_mem_nil, Nat.zero_le, false_implies, List.mem_singleton, List.take_zero, behind, ptsW, List.flatMap_nil]))) <;> simp⟩ (fun ⟨k, hk⟩ => ?_)
 simp only
 by_cases hlt : k < l.length
 · obtain ⟨⟨u, v⟩, hp⟩ : ∃ p, l[k]? = some p := ⟨_, List.getElem?_eq_getElem hlt⟩
   have hrow := zCf hp
   have hI : ((k : Int) < (l.length : Int)) = True := by simp; omega
   have h0 : (0 ≤ (k : Int)) = True := by simp
   have hwr := lt_sm hl hlt
   obtain ⟨w1, w2⟩ := hw _ (List.mem_of_getElem? hp)
   simp only at w1 w2
   have rp := run_pointText w1 w2
   have hsn : behind (ptsW (l.take (k + 1))) = behind (ptsW (l.take k)) ++ 32 :: ptT (u, v) := by
     rw [take_snoc' hp, ptsW_app, behind_app]
     simp [ptsW, behind_pt]
   have la := ptT_len (p := (u, v)) ⟨w1, w2⟩
   have lb := zBj (l.take k) (fun p hp => hw p (List.mem_of_mem_take hp))
   have lc : (l.take k).length ≤ l.length := by rw [List.length_take]; omega
   generalize ptT (u, v) = A at *
   generalize behind (ptsW (l.take k)) = X at *
   have q1 : (1 + A.length ≤ 4611686018427387904) = True := eq_true (by omega)
   have q2 : (X.length + (A.length + 1) ≤ 4611686018427387904) = True := eq_true (by omega)
   try simp -dsimp (maxSteps := 1000000) only [go_sem, List.forall_mem_nil, ↓reduceIte, Nat.reduceEqDiff, Nat.reduceLT, Nat.reduceLeDiff, Nat.reduceAdd, Nat.reduceMul, reduceCtorEq, Tryz.f70, hI, h0, Int.toNat_natCast, hrow, hwr, rp, q1, q2, zDd, List.size_toArray, List.length_append]
   exact ⟨⟨k + 1, by omega⟩, by simp only []; omega, [], [], by (simp only [go_sem, eq_self, MvRb, MvRn, MvRt, List.nodup_cons, List.nodup_nil, ↓reduceIte, Nat.reduceEqDiff, Nat.reduceLT, Nat.reduceLeDiff, reduceCtorEq, List.forall_mem_nil, Nat.zero_le, false_implies, List.mem_singleton, hsn]) <;> simp⟩
 · have hI : ((k : Int) < (l.length : Int)) = False := by simp; omega
   have hkl : l.take k = l := List.take_of_length_le (by omega)
   rw [hkl]
   try simp -dsimp (maxSteps := 1000000) only [go_sem, List.forall_mem_nil, ↓reduceIte, Nat.reduceEqDiff, Nat.reduceLT, Nat.reduceLeDiff, Nat.reduceAdd, Nat.reduceMul, reduceCtorEq, Tryz.f70, hI]
theorem zCr : ∀ (l : List Int), (∀ n ∈ l, i64B n) → (behind (l.map Lib.itoa)).length ≤ 22 * l.length
 | [], _ => by simp [behind]
 | n :: l, h => by
   have ih := zCr l (fun q hq => h q (List.mem_cons_of_mem _ hq))
   have e : behind ((n :: l).map Lib.itoa) = (32 :: Lib.itoa n) ++ behind (l.map Lib.itoa) := by simp [behind]
   have := zBv (h n (by simp))
   rw [e, List.length_append, List.length_cons, List.length_cons]
   omega
structure AInw where
 l : List Int
 h : l.length ≤ sm
 w : ∀ n ∈ l, i64B n
noncomputable def zCv : Ct := fam true (fun x : AInw => ([.c (.im (.sl 1 (rowsN x.l)))], [])) (fun x => .one { val := .c (.im (.str ⟨(behind (x.l.map Lib.itoa)).toArray⟩)) })
theorem zFu {l : List Int} (h : l.length ≤ sm) (w : ∀ n ∈ l, i64B n) : zCv.run [.c (.im (.sl 1 (rowsN l)))] [] = some (.one { val := .c (.im (.str ⟨(behind (l.map Lib.itoa)).toArray⟩)) }) := by
 refine zAd (args := fun x : AInw => ([D.c (.im (.sl 1 (rowsN x.l)))], [])) ?_ ⟨l, h, w⟩
 rintro ⟨a, _, _⟩ ⟨b, _, _⟩ h
 simp only [Prod.mk.injEq, List.cons.injEq, D.c.injEq, C.im.injEq, I.sl.injEq, true_and, and_true, zAw] at h
 subst h; rfl
theorem zGn : (zCv.sc = true) = True := by simp [zCv, fam]
set_option maxRecDepth 100000 in
set_option maxHeartbeats 4000000 in
theorem law_intsText : Law Tryz.prog 72 zCv := by
 refine zAf (zAc law_Itoa zAe) hmixA Tryz.func72 rfl rfl (fun ⟨l, hl, hw⟩ => ⟨zAv rfl, by simp [Tryz.f72], ?_⟩)
 simp only
 have hsm : sm = 16777216 := rfl
 try simp -dsimp (maxSteps := 1000000) only [go_sem, List.forall_mem_nil, ↓reduceIte, Nat.reduceEqDiff, Nat.reduceLT, Nat.reduceLeDiff, Nat.reduceAdd, Nat.reduceMul, reduceCtorEq, Tryz.f72, zAb]
 refine zBh (ι := { k : Nat // k ≤ l.length }) (fun k => ⟨[(3, some (.c (.im (.str ⟨(behind ((l.take k.1).map Lib.itoa)).toArray⟩)))), (6, some (.c (.im (.sl 1 (rowsN l))))), (7, some (.c (.im (.int .i64 (l.length : Int))))), (8, some (.c (.im (.int .i64 (k.1 : Int)))))],
   [], 0⟩) (fun k => l.length - k.1) ⟨0, by simp⟩ ⟨[], [], by ((simp only [go_sem, eq_self, MvRb, MvRn, MvRt, List.nodup_cons, List.nodup_nil, ↓reduceIte, Nat.reduceEqDiff, Nat.reduceLT, Nat.reduceLeDiff, reduceCtorEq, List.forall_mem_nil, Nat.zero_le, false_implies, List.mem_singleton, List.take_zero, List.map_nil, behind, List.flatMap_nil]) <;> (try (simp -dsimp only [go_sem, eq_self, MvRb, MvRn, MvRt, List.nodup_cons, List.nodup_nil, ↓reduceIte, Nat.reduceEqDiff, Nat.reduceLT, Nat.reduceLeDiff, reduceCtorEq, List.forall_mem_nil, Nat.zero_le, false_implies, List.mem_singleton, List.take_zero, List.map_nil, behind, List.flatMap_nil]))) <;> simp⟩ (fun ⟨k, hk⟩ => ?_)
 simp only
 by_cases hlt : k < l.length
 · obtain ⟨n, hp⟩ : ∃ p, l[k]? = some p := ⟨_, List.getElem?_eq_getElem hlt⟩
   have hrow := zGs hp
   have hI : ((k : Int) < (l.length : Int)) = True := by simp; omega
   have h0 : (0 ≤ (k : Int)) = True := by simp
   have hwr := lt_sm hl hlt
   have hn := hw _ (List.mem_of_getElem? hp)
   have rp := run_Itoa hn
   have hsn : behind ((l.take (k + 1)).map Lib.itoa) = behind ((l.take k).map Lib.itoa) ++ 32 :: Lib.itoa n := by
     rw [take_snoc' hp, List.map_append, behind_app]
     simp [behind]
   have la := zBv hn
   have lb := zCr (l.take k) (fun p hp => hw p (List.mem_of_mem_take hp))
   have lc : (l.take k).length ≤ l.length := by rw [List.length_take]; omega
   generalize Lib.itoa n = A at *
   generalize behind ((l.take k).map Lib.itoa) = X at *
   have q1 : (1 + A.length ≤ 4611686018427387904) = True := eq_true (by omega)
   have q2 : (X.length + (A.length + 1) ≤ 4611686018427387904) = True := eq_true (by omega)
   try simp -dsimp (maxSteps := 1000000) only [go_sem, List.forall_mem_nil, ↓reduceIte, Nat.reduceEqDiff, Nat.reduceLT, Nat.reduceLeDiff, Nat.reduceAdd, Nat.reduceMul, reduceCtorEq, Tryz.f72, hI, h0, Int.toNat_natCast, hrow, hwr, rp, q1, q2, zDd, List.size_toArray, List.length_append]
   exact ⟨⟨k + 1, by omega⟩, by simp only []; omega, [], [], by (simp only [go_sem, eq_self, MvRb, MvRn, MvRt, List.nodup_cons, List.nodup_nil, ↓reduceIte, Nat.reduceEqDiff, Nat.reduceLT, Nat.reduceLeDiff, reduceCtorEq, List.forall_mem_nil, Nat.zero_le, false_implies, List.mem_singleton, hsn]) <;> simp⟩
 · have hI : ((k : Int) < (l.length : Int)) = False := by simp; omega
   have hkl : l.take k = l := List.take_of_length_le (by omega)
   rw [hkl]
   try simp -dsimp (maxSteps := 1000000) only [go_sem, List.forall_mem_nil, ↓reduceIte, Nat.reduceEqDiff, Nat.reduceLT, Nat.reduceLeDiff, Nat.reduceAdd, Nat.reduceMul, reduceCtorEq, Tryz.f72, hI]
end Go.SX
namespace Go.SX
open Go Go.Proofs Ieee
def rNames : Res := { val := .c (.view 0 1 0 9), roots := [.arr 1 [[.im (.str ⟨#[]⟩)], [.im (.str ⟨#[115, 111, 117, 114, 99, 101]⟩)], [.im (.str ⟨#[109, 105, 120, 101, 114]⟩)], [.im (.str ⟨#[103, 97, 105, 110]⟩)], [.im (.str ⟨#[100, 101, 108, 97, 121]⟩)], [.im (.str ⟨#[115, 117, 109]⟩)], [.im (.str ⟨#[115, 108, 105, 99, 101, 114]⟩)], [.im (.str ⟨#[109, 101, 116, 101, 114]⟩)], [.im (.str ⟨#[104, 111, 108, 100]⟩)]]] }
theorem okR_names {sc : Bool} : OkR sc rNames := by
 refine ⟨.c _ (.view _ _ _ _ (by simp [rNames])), fun r hr => ?_, by simp [rNames]⟩
 simp only [rNames, List.mem_singleton] at hr
 subst hr
 intro row hrow t ht
 simp only [List.mem_cons, List.not_mem_nil, or_false] at hrow
 rcases hrow with rfl | rfl | rfl | rfl | rfl | rfl | rfl | rfl | rfl <;> (simp only [List.mem_singleton] at ht; subst ht; exact .im _ (.inr rfl))
noncomputable def ct_kindNames : Ct := fam true (fun _ : Unit => ([], [])) (fun _ => .one rNames)
theorem zBu : ct_kindNames.run [] [] = some (.one rNames) := zAd (args := fun _ : Unit => (([] : List D), [])) (fun _ _ _ => rfl) ()
set_option maxRecDepth 100000 in
theorem law_kindNames : Law Tryz.prog 41 ct_kindNames := by
 refine zAf zAe hmixA Tryz.func41 rfl rfl (fun _ => ⟨okO okR_names, by simp [Tryz.f41], ?_⟩)
 simp only [rNames]
 try simp -dsimp (maxSteps := 1000000) only [go_sem, List.forall_mem_nil, ↓reduceIte, Nat.reduceEqDiff, Nat.reduceLT, Nat.reduceLeDiff, Nat.reduceAdd, Nat.reduceMul, reduceCtorEq, Tryz.f41]
 exact ⟨[0], by simp, by simp, by simp [rtOk], by simp⟩
structure AFm where
 m : Mod
 ok : OkM m
 w : W32 m
 rat : i64B m.rat
 cnt : i64B m.count
 lft : i64B m.left
 lab : ∀ x ∈ m.lab, i64B x
noncomputable def zEa : Ct := fam true (fun x : AFm => ([.agg (modC x.m)], [])) (fun x => .one { val := .c (.im (.str ⟨(fmtM x.m).toArray⟩)) })
theorem zAx (x : AFm) : zEa.run [.agg (modC x.m)] [] = some (.one { val := .c (.im (.str ⟨(fmtM x.m).toArray⟩)) }) := by
 refine zAd (args := fun x : AFm => ([D.agg (modC x.m)], [])) ?_ x
 rintro ⟨a, _, _, _, _, _, _⟩ ⟨b, _, _, _, _, _, _⟩ h
 simp only [Prod.mk.injEq, List.cons.injEq, D.agg.injEq, and_true] at h
 have := zDg h
 subst this; rfl
theorem zAn : (zEa.sc = true) = True := by simp [zEa, fam]
theorem tabW_snoc {pts : List Pt} {lab : List Int} (hl : pts.length = lab.length) {k : Nat} {p : Pt} {n : Int} (hp : pts[k]? = some p) (hn : lab[k]? = some n) : tabW (pts.take (k + 1)) (lab.take (k + 1)) = tabW (pts.take k) (lab.take k) ++ [sglT p.1, sglT p.2, Lib.itoa n] := by
 induction k generalizing pts lab with
 | zero =>
   cases pts with
   | nil => simp at hp
   | cons a pts => cases lab with
     | nil => simp at hn
     | cons b lab =>
       simp at hp hn
       subst hp hn
       simp [tabW]
 | succ k ih =>
   cases pts with
   | nil => simp at hp
   | cons a pts => cases lab with
     | nil => simp at hn
     | cons b lab =>
       have := ih (pts := pts) (lab := lab) (by simpa using hl) (by simpa using hp) (by simpa using hn)
       simp only [List.take_succ_cons, tabW, this, List.cons_append]
theorem tabW_len : ∀ (pts : List Pt) (lab : List Int), (∀ p ∈ pts, p.1 < 4294967296 ∧ p.2 < 4294967296) → (∀ x ∈ lab, i64B x) → (behind (tabW pts lab)).length ≤ 120 * pts.length
 | [], _, _, _ => by simp [tabW, behind]
 | _ :: _, [], _, _ => by simp [tabW, behind]
 | p :: pts, n :: lab, h1, h2 => by
   have ih := tabW_len pts lab (fun q hq => h1 q (List.mem_cons_of_mem _ hq)) (fun q hq => h2 q (List.mem_cons_of_mem _ hq))
   have a := zEh (h1 p (by simp)).1
   have b := zEh (h1 p (by simp)).2
   have c := zBv (h2 n (by simp))
   have e : behind (tabW (p :: pts) (n :: lab)) = 32 :: sglT p.1 ++ (32 :: sglT p.2 ++ (32 :: Lib.itoa n ++ behind (tabW pts lab))) := by simp [tabW, behind]
   rw [e]
   simp only [List.length_append, List.length_cons]
   omega
set_option maxRecDepth 100000 in
set_option maxHeartbeats 16000000 in
theorem zHf : Law Tryz.prog 23 zEa := by
 refine zAf (zAc zDp (zAc law_kindNames (zAc law_pointsText (zAc law_singleText (zAc law_intsText zAe))))) hmixA Tryz.func23 rfl rfl (fun ⟨m, ok, hw, hrat, hcnt, hlft, hlab⟩ => ⟨zAv rfl, by simp [Tryz.f23], ?_⟩)
 simp only
 have hsm : sm = 16777216 := rfl
 have c9 : ((9 : Nat) : Int) = 9 := rfl
 cases hv : isModuleF m with
 | false =>
   have hT : fmtM m = [] := by simp [fmtM, hv]
   rw [hT]
   obtain ⟨k, ⟨t1, t2⟩, ⟨s1, s2⟩, lv, st, ra, rc, pts, lab, c, lf⟩ := m
   have ri := zBf (k := k) (t1 := t1) (t2 := t2) (s1 := s1) (s2 := s2) (lv := lv) (ra := ra) (rc := rc) (c := c) (l := lf) ok.store ok.pts ok.lab
   rw [hv] at ri
   simp only [modC]
   try simp -dsimp (maxSteps := 1000000) only [go_sem, List.forall_mem_nil, ↓reduceIte, Nat.reduceEqDiff, Nat.reduceLT, Nat.reduceLeDiff, Nat.reduceAdd, Nat.reduceMul, reduceCtorEq, Tryz.f23, ri, Bool.not_false]
 | true =>
   have hT : fmtM m = nameT m.kind ++ behind (restW m) := by simp [fmtM, hv]
   rw [hT]
   have ri := fun (k : Int) (t1 t2 s1 s2 lv : Nat) (st : List Pt) (ra rc : Int) (pts : List Pt) (lab : List Int) (c lf : Int) (e : m = ⟨k, (t1, t2), (s1, s2), lv, st, ra, rc, pts, lab, c, lf⟩) => zBf (k := k) (t1 := t1) (t2 := t2) (s1 := s1) (s2 := s2) (lv := lv) (st := st) (ra := ra) (rc := rc) (pts := pts) (lab := lab) (c := c) (l := lf) (by have := ok.store; rw [e] at this; exact this) (by have := ok.pts; rw [e] at this; exact this) (by have := ok.lab; rw [e] at this; exact this)
   rcases zDi hv with ⟨⟨t1, t2⟩, ⟨s1, s2⟩, e⟩ | ⟨⟨t1, t2⟩, ⟨s1, s2⟩, e⟩ | ⟨l, e⟩ | ⟨st, a, e, hr⟩ | e | ⟨pts, lab, c, e, ht⟩ | ⟨l, e, hl⟩ | ⟨⟨s1, s2⟩, c, l, e, h1, h2, h3, h4⟩
   · replace ri := ri _ _ _ _ _ _ _ _ _ _ _ _ _ e
     subst e
     rw [hv] at ri
     have rp : zCj.run [.c (.im (.sl 1 [[.cpx .f32 t1 t2], [.cpx .f32 s1 s2]]))] [] = some (.one { val := .c (.im (.str ⟨(behind (ptsW [(t1, t2), (s1, s2)])).toArray⟩)) }) := zDa (l := [(t1, t2), (s1, s2)]) (by simp [sm]) (by simp; exact ⟨hw.turn, hw.state⟩)
     have lb := zBj [(t1, t2), (s1, s2)] (by simp; exact ⟨hw.turn, hw.state⟩)
     have hfin : nameT 1 ++ behind (restW ⟨1, (t1, t2), (s1, s2), 0, [], 0, 0, [], [], 0, 0⟩) = [115, 111, 117, 114, 99, 101] ++ behind (ptsW [(t1, t2), (s1, s2)]) := by simp [restW, nameT, sourceT, ptsW]
     simp only [modC]
     generalize behind (ptsW [(t1, t2), (s1, s2)]) = X at *
     have q : (6 + X.length ≤ 4611686018427387904) = True := eq_true (by simp at lb; omega)
     try simp -dsimp (maxSteps := 1000000) only [go_sem, List.forall_mem_nil, ↓reduceIte, Nat.reduceEqDiff, Nat.reduceLT, Nat.reduceLeDiff, Nat.reduceAdd, Nat.reduceMul, reduceCtorEq, Tryz.f23, ri, zBu, rNames, c9, hfin, rp, zDr, q, zDd, List.size_toArray, List.length_append, List.take_succ_cons, List.take_zero, Nat.reduceAdd, Int.reduceEq, Int.reduceLE, Int.reduceLT, Int.reduceToNat, Bool.not_true]
     repeat' (first
       | ((with_reducible refine sl_i ?_ ?_); focus kernel_rfl)
       | ((with_reducible refine ro_e ?_); kernel_rfl))
   · replace ri := ri _ _ _ _ _ _ _ _ _ _ _ _ _ e
     subst e
     rw [hv] at ri
     have rp : zCj.run [.c (.im (.sl 1 [[.cpx .f32 t1 t2], [.cpx .f32 s1 s2]]))] [] = some (.one { val := .c (.im (.str ⟨(behind (ptsW [(t1, t2), (s1, s2)])).toArray⟩)) }) := zDa (l := [(t1, t2), (s1, s2)]) (by simp [sm]) (by simp; exact ⟨hw.turn, hw.state⟩)
     have lb := zBj [(t1, t2), (s1, s2)] (by simp; exact ⟨hw.turn, hw.state⟩)
     have hfin : nameT 2 ++ behind (restW ⟨2, (t1, t2), (s1, s2), 0, [], 0, 0, [], [], 0, 0⟩) = [109, 105, 120, 101, 114] ++ behind (ptsW [(t1, t2), (s1, s2)]) := by simp [restW, nameT, mixerT, ptsW]
     simp only [modC]
     generalize behind (ptsW [(t1, t2), (s1, s2)]) = X at *
     have q : (5 + X.length ≤ 4611686018427387904) = True := eq_true (by simp at lb; omega)
     try simp -dsimp (maxSteps := 1000000) only [go_sem, List.forall_mem_nil, ↓reduceIte, Nat.reduceEqDiff, Nat.reduceLT, Nat.reduceLeDiff, Nat.reduceAdd, Nat.reduceMul, reduceCtorEq, Tryz.f23, ri, zBu, rNames, c9, hfin, rp, zDr, q, zDd, List.size_toArray, List.length_append, List.take_succ_cons, List.take_zero, Nat.reduceAdd, Int.reduceEq, Int.reduceLE, Int.reduceLT, Int.reduceToNat, Bool.not_true]
     repeat' (first
       | ((with_reducible refine sl_i ?_ ?_); focus kernel_rfl)
       | ((with_reducible refine ro_e ?_); kernel_rfl))
   · replace ri := ri _ _ _ _ _ _ _ _ _ _ _ _ _ e
     subst e
     rw [hv] at ri
     have rp := zEj hw.level
     have lb := zEh hw.level
     simp only at rp lb
     have hfin : nameT 3 ++ behind (restW ⟨3, (0, 0), (0, 0), l, [], 0, 0, [], [], 0, 0⟩) = [103, 97, 105, 110] ++ 32 :: sglT l := by simp [restW, nameT, gainT, behind]
     simp only [modC]
     generalize sglT l = X at *
     have q0 : (1 + X.length ≤ 4611686018427387904) = True := eq_true (by omega)
     have q : (4 + (X.length + 1) ≤ 4611686018427387904) = True := eq_true (by omega)
     try simp -dsimp (maxSteps := 1000000) only [go_sem, List.forall_mem_nil, ↓reduceIte, Nat.reduceEqDiff, Nat.reduceLT, Nat.reduceLeDiff, Nat.reduceAdd, Nat.reduceMul, reduceCtorEq, Tryz.f23, ri, zBu, rNames, c9, hfin, rp, q0, q, zDd, List.size_toArray, List.length_append, List.take_succ_cons, List.take_zero, Nat.reduceAdd, Int.reduceEq, Int.reduceLE, Int.reduceLT, Int.reduceToNat, Bool.not_true]
     repeat' (first
       | ((with_reducible refine sl_i ?_ ?_); focus kernel_rfl)
       | ((with_reducible refine ro_e ?_); kernel_rfl))
   · replace ri := ri _ _ _ _ _ _ _ _ _ _ _ _ _ e
     subst e
     rw [hv] at ri
     have hst := ok.store
     simp only at hst
     have ra : zCv.run [.c (.im (.sl 1 [[.int .i64 a]]))] [] = some (.one { val := .c (.im (.str ⟨(behind [Lib.itoa a]).toArray⟩)) }) := zFu (l := [a]) (by simp [sm]) (by simp; exact hrat)
     have rp := zDa hst hw.store
     have la := zCr [a] (by simp; exact hrat)
     have lb := zBj st hw.store
     simp only [List.map_cons, List.map_nil] at la
     have hfin : nameT 4 ++ behind (restW ⟨4, (0, 0), (0, 0), 0, st, a, (st.length : Int), [], [], 0, 0⟩) = [100, 101, 108, 97, 121] ++ (behind [Lib.itoa a] ++ behind (ptsW st)) := by simp [restW, nameT, delayT, behind]
     simp only [modC]
     generalize behind [Lib.itoa a] = A at *
     generalize behind (ptsW st) = X at *
     have q0 : (A.length + X.length ≤ 4611686018427387904) = True := eq_true (by simp at la; omega)
     have q : (5 + (A.length + X.length) ≤ 4611686018427387904) = True := eq_true (by simp at la; omega)
     try simp -dsimp (maxSteps := 1000000) only [go_sem, List.forall_mem_nil, ↓reduceIte, Nat.reduceEqDiff, Nat.reduceLT, Nat.reduceLeDiff, Nat.reduceAdd, Nat.reduceMul, reduceCtorEq, Tryz.f23, ri, zBu, rNames, c9, hfin, ra, rp, zGn, zDr, q0, q, zDd, List.size_toArray, List.length_append, List.take_succ_cons, List.take_zero, Nat.reduceAdd, Int.reduceEq, Int.reduceLE, Int.reduceLT, Int.reduceToNat, Bool.not_true]
     repeat' (first
       | ((with_reducible refine sl_i ?_ ?_); focus kernel_rfl)
       | ((with_reducible refine ro_i ?_ ?_); focus kernel_rfl)
       | ((with_reducible refine ro_e ?_); kernel_rfl))
   · replace ri := ri _ _ _ _ _ _ _ _ _ _ _ _ _ e
     subst e
     rw [hv] at ri
     have hfin : nameT 5 ++ behind (restW ⟨5, (0, 0), (0, 0), 0, [], 0, 0, [], [], 0, 0⟩) = [115, 117, 109] := by simp [restW, nameT, sumT, behind]
     simp only [modC]
     try simp -dsimp (maxSteps := 1000000) only [go_sem, List.forall_mem_nil, ↓reduceIte, Nat.reduceEqDiff, Nat.reduceLT, Nat.reduceLeDiff, Nat.reduceAdd, Nat.reduceMul, reduceCtorEq, Tryz.f23, ri, zBu, rNames, c9, hfin, c9, zDd, List.size_toArray, List.length_append, List.take_succ_cons, List.take_zero, Nat.reduceAdd, Int.reduceEq, Int.reduceLE, Int.reduceLT, Int.reduceToNat, Bool.not_true]
     repeat' (first
       | ((with_reducible refine sl_i ?_ ?_); focus kernel_rfl)
       | ((with_reducible refine ro_e ?_); kernel_rfl))
   · replace ri := ri _ _ _ _ _ _ _ _ _ _ _ _ _ e
     subst e
     rw [hv] at ri
     have hpl := ok.pts
     have hll := ok.lab
     simp only at hpl hll
     simp only [isTableF, Bool.and_eq_true, decide_eq_true_eq] at ht
     have hpeq := ht.1
     have hw2 := hw.pts
     simp only at hw2 hlab hcnt
     have ra : zCv.run [.c (.im (.sl 1 [[.int .i64 c]]))] [] = some (.one { val := .c (.im (.str ⟨(behind [Lib.itoa c]).toArray⟩)) }) := zFu (l := [c]) (by simp [sm]) (by simp; exact hcnt)
     have la := zCr [c] (by simp; exact hcnt)
     simp only [List.map_cons, List.map_nil] at la
     have hfin : nameT 6 ++ behind (restW ⟨6, (0, 0), (0, 0), 0, [], 0, 0, pts, lab, c, 0⟩) = [115, 108, 105, 99, 101, 114] ++ behind [Lib.itoa c] ++ behind (tabW pts lab) := by simp [restW, nameT, slicerT, behind]
     simp only [modC]
     clear ht hv hT
     have hT2 : behind (tabW (pts.take pts.length) (lab.take pts.length)) = behind (tabW pts lab) := by rw [List.take_length, hpeq, List.take_length]
     generalize behind [Lib.itoa c] = A at *
     have q : (6 + A.length ≤ 4611686018427387904) = True := eq_true (by simp at la; omega)
     try simp -dsimp (maxSteps := 1000000) only [go_sem, List.forall_mem_nil, ↓reduceIte, Nat.reduceEqDiff, Nat.reduceLT, Nat.reduceLeDiff, Nat.reduceAdd, Nat.reduceMul, reduceCtorEq, Tryz.f23, ri, zBu, rNames, c9, ra, zGn, q, zAa, zDd, List.size_toArray, List.length_append, List.take_succ_cons, List.take_zero, Nat.reduceAdd, Int.reduceEq, Int.reduceLE, Int.reduceLT, Int.reduceToNat, Bool.not_true]
     repeat' (first
       | ((with_reducible refine sl_i ?_ ?_); focus kernel_rfl)
       | ((with_reducible refine ro_i ?_ ?_); focus kernel_rfl))
     refine zBh (ι := { k : Nat // k ≤ pts.length }) (fun k => ⟨[(1, some (.c (.ptr 0 0 0 0))), (3, some (.c (.im (.str ⟨([115, 108, 105, 99, 101, 114] ++ A ++ behind (tabW (pts.take k.1) (lab.take k.1))).toArray⟩)))), (60, some (.c (.im (.sl 1 (rowsZ pts))))), (61, some (.c (.im (.int .i64 (pts.length : Int))))), (62, some (.c (.im (.int .i64 (k.1 : Int)))))],
       [(0, some (.box [.t (.im (.int .i64 6)), .t (.im (.cpx .f32 0 0)), .t (.im (.cpx .f32 0 0)), .t (.im (.flt .f32 0)), .t (.im (.sl 1 (rowsZ []))), .t (.im (.int .i64 0)), .t (.im (.int .i64 0)), .t (.im (.sl 1 (rowsZ pts))), .t (.im (.sl 1 (rowsN lab))), .t (.im (.int .i64 c)), .t (.im (.int .i64 0))]))], 1⟩) (fun k => pts.length - k.1) ⟨0, by simp⟩ ⟨[], [0], by ((simp only [go_sem, eq_self, MvRb, MvRn, MvRt, List.nodup_cons, List.nodup_nil, ↓reduceIte, Nat.reduceEqDiff, Nat.reduceLT, Nat.reduceLeDiff, reduceCtorEq, List.forall_mem_nil, Nat.zero_le, false_implies, List.mem_singleton, List.take_zero, tabW, behind, List.flatMap_nil, List.append_nil]) <;> (try (simp -dsimp only [go_sem, eq_self, MvRb, MvRn, MvRt, List.nodup_cons, List.nodup_nil, ↓reduceIte, Nat.reduceEqDiff, Nat.reduceLT, Nat.reduceLeDiff, reduceCtorEq, List.forall_mem_nil, Nat.zero_le, false_implies, List.mem_singleton, List.take_zero, tabW, behind, List.flatMap_nil, List.append_nil]))) <;> simp [lk, zBg]⟩ (fun ⟨k, hk⟩ => ?_)
     simp only
     by_cases hlt : k < pts.length
     · obtain ⟨⟨u, v⟩, hp⟩ : ∃ p, pts[k]? = some p := ⟨_, List.getElem?_eq_getElem hlt⟩
       obtain ⟨n, hn⟩ : ∃ p, lab[k]? = some p := ⟨lab[k]'(by omega), List.getElem?_eq_getElem (by omega)⟩
       have hrow := zCf hp
       have hrow2 := zGs hn
       have hI : ((k : Int) < (pts.length : Int)) = True := eq_true (by omega)
       have hI2 : ((k : Int) < (lab.length : Int)) = True := eq_true (by omega)
       have h0 : (0 ≤ (k : Int)) = True := eq_true (by omega)
       have hwr := lt_sm hpl hlt
       have w1 := hw2 _ (List.mem_of_getElem? hp)
       have i1 := hlab n (List.mem_of_getElem? hn)
       have rp : zCj.run [.c (.im (.sl 1 [[.cpx .f32 u v]]))] [] = some (.one { val := .c (.im (.str ⟨(behind (ptsW [(u, v)])).toArray⟩)) }) := zDa (l := [(u, v)]) (by simp [sm]) (by simp; exact w1)
       have rn : zCv.run [.c (.im (.sl 1 [[.int .i64 n]]))] [] = some (.one { val := .c (.im (.str ⟨(behind [Lib.itoa n]).toArray⟩)) }) := zFu (l := [n]) (by simp [sm]) (by simp; exact i1)
       have l1 := zBj [(u, v)] (by simp; exact w1)
       have l2 := zCr [n] (by simp; exact i1)
       simp only [List.map_cons, List.map_nil] at l2
       have l3 := tabW_len (pts.take k) (lab.take k) (fun p hp => hw2 p (List.mem_of_mem_take hp)) (fun p hp => hlab p (List.mem_of_mem_take hp))
       have l4 : (pts.take k).length ≤ pts.length := by rw [List.length_take]; omega
       have hsn : [115, 108, 105, 99, 101, 114] ++ A ++ behind (tabW (pts.take (k + 1)) (lab.take (k + 1))) = [115, 108, 105, 99, 101, 114] ++ A ++ behind (tabW (pts.take k) (lab.take k)) ++ (behind (ptsW [(u, v)]) ++ behind [Lib.itoa n]) := by
         rw [tabW_snoc hpeq hp hn, behind_app]
         simp [behind, ptsW, ptW]
       generalize behind (ptsW [(u, v)]) = X at *
       generalize behind [Lib.itoa n] = Y at *
       generalize hO : [115, 108, 105, 99, 101, 114] ++ A ++ behind (tabW (pts.take k) (lab.take k)) = O at *
       have lO : O.length ≤ 6 + A.length + 120 * pts.length := by rw [← hO]; simp only [List.length_append, List.length_cons, List.length_nil]; omega
       have q0 : (X.length + Y.length ≤ 4611686018427387904) = True := eq_true (by simp at l1 l2; omega)
       have q1 : (O.length + (X.length + Y.length) ≤ 4611686018427387904) = True := eq_true (by simp at l1 l2 la; omega)
       try simp -dsimp (maxSteps := 1000000) only [go_sem, List.forall_mem_nil, ↓reduceIte, Nat.reduceEqDiff, Nat.reduceLT, Nat.reduceLeDiff, Nat.reduceAdd, Nat.reduceMul, reduceCtorEq, Tryz.f23, hI, hI2, h0, Int.toNat_natCast, hrow, hrow2, hwr, rp, rn, zDr, zGn, q0, q1, zAa, zAb, zDd, List.size_toArray, List.length_append, List.take_succ_cons, List.take_zero, Nat.reduceAdd]
       repeat' (first
         | ((with_reducible refine sl_i ?_ ?_); focus kernel_rfl)
         | ((with_reducible refine ro_i ?_ ?_); focus kernel_rfl))
       refine ⟨⟨k + 1, by omega⟩, by simp only []; omega, [], [0], ?_⟩
       ((simp only [go_sem, eq_self, MvRb, MvRn, MvRt, List.nodup_cons, List.nodup_nil, ↓reduceIte, Nat.reduceEqDiff, Nat.reduceLT, Nat.reduceLeDiff, reduceCtorEq, List.forall_mem_nil, Nat.zero_le, false_implies, List.mem_singleton]) <;> (try (simp -dsimp only [go_sem, eq_self, MvRb, MvRn, MvRt, List.nodup_cons, List.nodup_nil, ↓reduceIte, Nat.reduceEqDiff, Nat.reduceLT, Nat.reduceLeDiff, reduceCtorEq, List.forall_mem_nil, Nat.zero_le, false_implies, List.mem_singleton])))
       all_goals simp [lk, zBg]
       simpa using hsn.symm
     · have hI : ((k : Int) < (pts.length : Int)) = False := eq_false (by omega)
       have hke : k = pts.length := by omega
       subst hke
       rw [hT2]
       try simp -dsimp (maxSteps := 1000000) only [go_sem, List.forall_mem_nil, ↓reduceIte, Nat.reduceEqDiff, Nat.reduceLT, Nat.reduceLeDiff, Nat.reduceAdd, Nat.reduceMul, reduceCtorEq, Tryz.f23, hI, hfin]
   · replace ri := ri _ _ _ _ _ _ _ _ _ _ _ _ _ e
     subst e
     rw [hv] at ri
     have rp := zEj hw.level
     have lb := zEh hw.level
     simp only at rp lb
     have hfin : nameT 7 ++ behind (restW ⟨7, (0, 0), (0, 0), l, [], 0, 0, [], [], 0, 0⟩) = [109, 101, 116, 101, 114] ++ 32 :: sglT l := by simp [restW, nameT, meterT, behind]
     simp only [modC]
     generalize sglT l = X at *
     have q0 : (1 + X.length ≤ 4611686018427387904) = True := eq_true (by omega)
     have q : (5 + (X.length + 1) ≤ 4611686018427387904) = True := eq_true (by omega)
     try simp -dsimp (maxSteps := 1000000) only [go_sem, List.forall_mem_nil, ↓reduceIte, Nat.reduceEqDiff, Nat.reduceLT, Nat.reduceLeDiff, Nat.reduceAdd, Nat.reduceMul, reduceCtorEq, Tryz.f23, ri, zBu, rNames, c9, hfin, rp, q0, q, zDd, List.size_toArray, List.length_append, List.take_succ_cons, List.take_zero, Nat.reduceAdd, Int.reduceEq, Int.reduceLE, Int.reduceLT, Int.reduceToNat, Bool.not_true]
     repeat' (first
       | ((with_reducible refine sl_i ?_ ?_); focus kernel_rfl)
       | ((with_reducible refine ro_e ?_); kernel_rfl))
   · replace ri := ri _ _ _ _ _ _ _ _ _ _ _ _ _ e
     subst e
     rw [hv] at ri
     have ra : zCv.run [.c (.im (.sl 1 [[.int .i64 c], [.int .i64 l]]))] [] = some (.one { val := .c (.im (.str ⟨(behind [Lib.itoa c, Lib.itoa l]).toArray⟩)) }) := zFu (l := [c, l]) (by simp [sm]) (by simp; exact ⟨hcnt, hlft⟩)
     have rp : zCj.run [.c (.im (.sl 1 [[.cpx .f32 s1 s2]]))] [] = some (.one { val := .c (.im (.str ⟨(behind (ptsW [(s1, s2)])).toArray⟩)) }) := zDa (l := [(s1, s2)]) (by simp [sm]) (by simp; exact hw.state)
     have la := zCr [c, l] (by simp; exact ⟨hcnt, hlft⟩)
     have lb := zBj [(s1, s2)] (by simp; exact hw.state)
     simp only [List.map_cons, List.map_nil] at la
     have hfin : nameT 8 ++ behind (restW ⟨8, (0, 0), (s1, s2), 0, [], 0, 0, [], [], c, l⟩) = [104, 111, 108, 100] ++ (behind [Lib.itoa c, Lib.itoa l] ++ behind (ptsW [(s1, s2)])) := by simp [restW, nameT, holdT, behind, ptsW]
     simp only [modC]
     generalize behind [Lib.itoa c, Lib.itoa l] = A at *
     generalize behind (ptsW [(s1, s2)]) = X at *
     have q0 : (A.length + X.length ≤ 4611686018427387904) = True := eq_true (by simp at la lb; omega)
     have q : (4 + (A.length + X.length) ≤ 4611686018427387904) = True := eq_true (by simp at la lb; omega)
     try simp -dsimp (maxSteps := 1000000) only [go_sem, List.forall_mem_nil, ↓reduceIte, Nat.reduceEqDiff, Nat.reduceLT, Nat.reduceLeDiff, Nat.reduceAdd, Nat.reduceMul, reduceCtorEq, Tryz.f23, ri, zBu, rNames, c9, hfin, ra, rp, zGn, zDr, q0, q, zDd, List.size_toArray, List.length_append, List.take_succ_cons, List.take_zero, Nat.reduceAdd, Int.reduceEq, Int.reduceLE, Int.reduceLT, Int.reduceToNat, Bool.not_true]
     repeat' (first
       | ((with_reducible refine sl_i ?_ ?_); focus kernel_rfl)
       | ((with_reducible refine ro_i ?_ ?_); focus kernel_rfl)
       | ((with_reducible refine ro_e ?_); kernel_rfl))
end Go.SX
namespace Go.SX
open Go Go.Proofs Ieee
theorem zCp {m : Nat} {e : Int} (h : Dr m e) : dW m e = ((m.log2 : Int) + e + 1022).toNat * 4503599627370496 + m * 2 ^ (52 - m.log2) ∧ 4503599627370496 ≤ m * 2 ^ (52 - m.log2) ∧ m * 2 ^ (52 - m.log2) < 9007199254740992 ∧ m.log2 ≤ 52 := by
 have h0 := h.pos
 have hl : m.log2 ≤ 52 := zCh h0 (show m < 2 ^ (52 + 1) from h.lt)
 have hlo := h.lo
 have hhi := h.hi
 have g1 : 4503599627370496 ≤ m * 2 ^ (52 - m.log2) := by
   calc 4503599627370496 = 2 ^ m.log2 * 2 ^ (52 - m.log2) := by rw [← Nat.pow_add, show m.log2 + (52 - m.log2) = 52 by omega]
     _ ≤ _ := Nat.mul_le_mul_right _ (Nat.log2_self_le (Nat.ne_of_gt h0))
 have g2 : m * 2 ^ (52 - m.log2) < 9007199254740992 := by
   calc m * 2 ^ (52 - m.log2) < 2 ^ (m.log2 + 1) * 2 ^ (52 - m.log2) := Nat.mul_lt_mul_of_pos_right (Nat.lt_log2_self) (Nat.two_pow_pos _)
     _ = 9007199254740992 := by rw [← Nat.pow_add, show m.log2 + 1 + (52 - m.log2) = 53 by omega]
 have hc : Can double (m * 2 ^ (52 - m.log2)) (e - (52 - m.log2 : Nat)) := ⟨by omega, g2, by rw [ep2]; omega, .inr g1⟩
 have hsv := SV.shl m e (52 - m.log2)
 refine ⟨?_, g1, g2, hl⟩
 have hr : (e - ((52 - m.log2 : Nat) : Int) - double.leastPlace).toNat = ((m.log2 : Int) + e + 1022).toNat := by rw [ep2]; omega
 rw [dW, zDn hc hsv, hr, bn2, Nat.min_eq_left]
 · rfl
 · rw [ir2]; omega
theorem rd_dW' {m : Nat} {e : Int} (h : Dr m e) : double.read (dW m e) = .number false (m * 2 ^ (52 - m.log2)) (e - (52 - m.log2 : Nat)) := by
 obtain ⟨e1, g1, g2, hl⟩ := zCp h
 have hlo := h.lo
 have hhi := h.hi
 have hc : Can double (m * 2 ^ (52 - m.log2)) (e - (52 - m.log2 : Nat)) := ⟨by omega, g2, by rw [ep2]; omega, .inr g1⟩
 obtain ⟨k1, k2⟩ := can_back hc
 have hr : (e - ((52 - m.log2 : Nat) : Int) - double.leastPlace).toNat = ((m.log2 : Int) + e + 1022).toNat := by rw [ep2]; omega
 rw [hr, bn2, ← e1] at k1 k2
 have hlt : dW m e < double.infRung := by rw [e1, ir2]; omega
 have := zEn (f := double) (by decide) hlt false
 have hw : double.word false (dW m e) = dW m e := by simp [Format.word]
 rw [k1, k2, hw] at this
 exact this
theorem dW_lt {m : Nat} {e : Int} (h : Dr m e) : dW m e < 9223372036854775808 := by
 obtain ⟨e1, g1, g2, hl⟩ := zCp h
 have hlo := h.lo
 have hhi := h.hi
 rw [e1]; omega
theorem dW_nan {m : Nat} {e : Int} (h : Dr m e) : isNaNb .f64 (dW m e) = false := by
 unfold isNaNb
 have : FloatKind.f64.format.read (dW m e) = .number false (m * 2 ^ (52 - m.log2)) (e - (52 - m.log2 : Nat)) := rd_dW' h
 rw [this]; rfl
theorem dW_order0 {m : Nat} {e : Int} (h : Dr m e) : double.order (dW m e) 0 = some .gt := by
 have h0 : double.read 0 = .number false 0 (-1074) := by decide
 unfold Format.order
 rw [rd_dW' h, h0]
 simp only [Datum.order]
 obtain ⟨e1, g1, g2, hl⟩ := zCp h
 have hp : 0 < (m * 2 ^ (52 - m.log2)) * 2 ^ (e - ((52 - m.log2 : Nat) : Int) - min (e - ((52 - m.log2 : Nat) : Int)) (-1074)).toNat := Nat.mul_pos (by omega) (Nat.two_pow_pos _)
 have h1 : signed false (m * 2 ^ (52 - m.log2)) (e - ((52 - m.log2 : Nat) : Int) - min (e - ((52 - m.log2 : Nat) : Int)) (-1074)).toNat = (((m * 2 ^ (52 - m.log2)) * 2 ^ (e - ((52 - m.log2 : Nat) : Int) - min (e - ((52 - m.log2 : Nat) : Int)) (-1074)).toNat : Nat) : Int) := by simp [signed, zEc]
 have h2 : ∀ k, signed false 0 k = 0 := fun k => by simp [signed]
 rw [h1, h2]
 generalize (m * 2 ^ (52 - m.log2)) * 2 ^ (e - ((52 - m.log2 : Nat) : Int) - min (e - ((52 - m.log2 : Nat) : Int)) (-1074)).toNat = X at hp
 have : compare ((X : Nat) : Int) 0 = .gt := by
   have a : ¬ ((X : Int) < 0) := by omega
   have b : ¬ ((X : Int) = 0) := by omega
   have b' : ¬ (X = 0) := by omega
   simp [compare, compareOfLessAndEq, b']
 rw [this]
theorem dW_eq0 {m : Nat} {e : Int} (h : Dr m e) : fcmp .eql .f64 (dW m e) 0 = false := by
 show (double.order (dW m e) 0 == some .eq) = false
 rw [dW_order0 h]; rfl
theorem dW_neq {m : Nat} {e : Int} (h : Dr m e) : fcmp .neq .f64 (dW m e) (dW m e) = false := by
 show (double.order (dW m e) (dW m e) != some .eq) = false
 unfold Format.order
 rw [rd_dW' h]
 simp only [Datum.order, Int.min_self, cmp_self]; rfl
theorem dW_max {m : Nat} {e : Int} (h : Dr m e) : fcmp .gtr .f64 (dW m e) 9218868437227405311 = false := by
 obtain ⟨e1, g1, g2, hl⟩ := zCp h
 exact gtr_max (rd_dW' h) g2 (by have := h.hi; omega)
theorem dW_small {m : Nat} {e : Int} (h : Dr m e) : fcmp .lss .f64 (dW m e) 4503599627370496 = false := by
 have hc : double.read 4503599627370496 = .number false 4503599627370496 (-1074) := by decide +kernel
 show (double.order (dW m e) 4503599627370496 == some .lt) = false
 unfold Format.order
 rw [rd_dW' h, hc]
 simp only [Datum.order]
 obtain ⟨e1, g1, g2, hl⟩ := zCp h
 have hlo := h.lo
 have hb : min (e - ((52 - m.log2 : Nat) : Int)) (-1074) = -1074 := by omega
 rw [hb]
 have e0 : (-1074 - -1074 : Int).toNat = 0 := rfl
 rw [e0]
 obtain ⟨k, hk⟩ : ∃ k, (e - ((52 - m.log2 : Nat) : Int) - -1074).toNat = k := ⟨_, rfl⟩
 rw [hk]
 have h1 : signed false (m * 2 ^ (52 - m.log2)) k = ((m * 2 ^ (52 - m.log2) * 2 ^ k : Nat) : Int) := by simp [signed, zEc]
 have h2 : signed false 4503599627370496 0 = 4503599627370496 := rfl
 rw [h1, h2]
 have h3 : m * 2 ^ (52 - m.log2) * 1 ≤ m * 2 ^ (52 - m.log2) * 2 ^ k := Nat.mul_le_mul_left _ (Nat.two_pow_pos k)
 generalize m * 2 ^ (52 - m.log2) * 2 ^ k = X at h3
 have hn : ¬ ((X : Int) < 4503599627370496) := by omega
 have : compare ((X : Nat) : Int) 4503599627370496 ≠ .lt := by
   simp only [compare, compareOfLessAndEq, hn, if_false]
   split <;> simp
 cases hcmp : compare ((X : Nat) : Int) 4503599627370496 with
 | lt => exact absurd hcmp this
 | eq => rfl
 | gt => rfl
theorem one_mul64 {m : Nat} {e : Int} (h : Dr m e) : fop .mul .f64 4607182418800017408 (dW m e) = dW m e := by
 have h1 : double.read 4607182418800017408 = .number false 4503599627370496 (-52) := by decide +kernel
 have e2 : double.mul 4607182418800017408 (dW m e) = some (dW m e) := by
   unfold Format.mul
   rw [h1, rd_dW' h]
   simp only [Datum.product, Option.map_some, Format.write, Bool.false_xor]
   congr 1
   refine near_dW h ?_
   have a : SV m e (m * 2 ^ (52 - m.log2)) (e - (52 - m.log2 : Nat)) := SV.shl m e _
   have b : SV 1 0 4503599627370496 (-52) := SV.shl 1 0 52
   have := SV.mul b a
   rw [Nat.one_mul, Int.zero_add] at this
   exact this
 show (double.mul 4607182418800017408 (dW m e)).getD _ = _
 rw [e2]; rfl
theorem shr52 {m : Nat} {e : Int} (h : Dr m e) : ((dW m e : Nat) : Int).fdiv (2 ^ min (Int.toNat 52) 64) = (m.log2 : Int) + e + 1023 := by
 obtain ⟨e1, g1, g2, hl⟩ := zCp h
 have hlo := h.lo
 have h0 : (0 : Int) ≤ 2 ^ 52 := by decide
 show ((dW m e : Nat) : Int).fdiv (2 ^ 52) = _
 rw [Int.fdiv_eq_ediv_of_nonneg _ h0, e1]
 generalize m * 2 ^ (52 - m.log2) = M at g1 g2
 have : (2 : Int) ^ 52 = 4503599627370496 := by decide
 rw [this]
 omega
theorem andNot52 {x : Nat} (h : x < 9223372036854775808) : bitsI .andNot .u64 (x : Int) 9218868437227405312 = ((x % 4503599627370496 : Nat) : Int) := by
 have h1 : (BitVec.ofInt 64 (x : Int) &&& ~~~BitVec.ofInt 64 9218868437227405312).toNat = x % 4503599627370496 := by
   rw [BitVec.toNat_and]
   have e1 : (BitVec.ofInt 64 (x : Int)).toNat = x := by simp; omega
   have e2 : (~~~BitVec.ofInt 64 9218868437227405312).toNat = 2 ^ 63 ||| (2 ^ 52 - 1) := by decide
   rw [e1, e2, Nat.and_or_distrib_left, Nat.and_two_pow_sub_one_eq_mod]
   have hb : x.testBit 63 = false := Nat.testBit_lt_two_pow h
   have h0 : x &&& 2 ^ 63 = 0 := by
     apply Nat.eq_of_testBit_eq
     intro i
     rw [Nat.testBit_and, Nat.testBit_two_pow, Nat.zero_testBit]
     by_cases e : 63 = i
     · subst e; simp [hb]
     · simp [e]
   rw [h0, Nat.zero_or]
 show IntKind.u64.wrap _ = _
 rw [show (IntKind.u64.bits) = 64 from rfl, h1]
 show (((x % 4503599627370496 : Nat) : Int) % 18446744073709551616) = _
 omega
theorem or52 {a k : Nat} (ha : a < 4503599627370496) (hk : k < 2048) : bitsI .or .u64 (a : Int) ((k * 4503599627370496 : Nat) : Int) = ((k * 4503599627370496 + a : Nat) : Int) := by
 have h1 : (BitVec.ofInt 64 (a : Int) ||| BitVec.ofInt 64 ((k * 4503599627370496 : Nat) : Int)).toNat = k * 4503599627370496 + a := by
   rw [BitVec.toNat_or]
   have e1 : (BitVec.ofInt 64 (a : Int)).toNat = a := by simp; omega
   have e2 : (BitVec.ofInt 64 ((k * 4503599627370496 : Nat) : Int)).toNat = k * 4503599627370496 := by
     rw [BitVec.ofInt_natCast, BitVec.toNat_ofNat]; omega
   rw [e1, e2, Nat.or_comm]
   have := Nat.two_pow_add_eq_or_of_lt (i := 52) (b := a) ha k
   rw [Nat.mul_comm] at this
   exact this.symm
 show IntKind.u64.wrap _ = _
 rw [show (IntKind.u64.bits) = 64 from rfl, h1]
 show (((k * 4503599627370496 + a : Nat) : Int) % 18446744073709551616) = _
 omega
theorem and11 {a : Int} (h0 : 0 ≤ a) (h : a < 2048) : bitsI .and .i64 a 2047 = a := by
 obtain ⟨x, rfl⟩ : ∃ x : Nat, a = x := ⟨a.toNat, by omega⟩
 have h1 : (BitVec.ofInt 64 (x : Int) &&& BitVec.ofInt 64 2047).toNat = x := by
   rw [BitVec.toNat_and]
   have e1 : (BitVec.ofInt 64 (x : Int)).toNat = x := by simp; omega
   have e2 : (BitVec.ofInt 64 2047).toNat = 2 ^ 11 - 1 := by decide
   rw [e1, e2, Nat.and_two_pow_sub_one_eq_mod]
   omega
 show IntKind.i64.wrap _ = _
 rw [show (IntKind.i64.bits) = 64 from rfl, h1]
 exact zAi (by omega) (by omega)
abbrev N64 := { x : Nat // isNaNb .f64 x = false }
noncomputable def ct_bits64 : Ct := fam true (fun x : N64 => ([.c (.im (.flt .f64 x.1))], [])) (fun x => .one { val := .c (.im (.int .u64 x.1)) })
theorem run_bits64 {x : Nat} (h : isNaNb .f64 x = false) : ct_bits64.run [.c (.im (.flt .f64 x))] [] = some (.one { val := .c (.im (.int .u64 x)) }) := by
 refine zAd (args := fun x : N64 => ([D.c (.im (.flt .f64 x.1))], [])) ?_ ⟨x, h⟩
 rintro ⟨a, _⟩ ⟨b, _⟩ h
 simp only [Prod.mk.injEq, List.cons.injEq, D.c.injEq, C.im.injEq, I.flt.injEq, true_and, and_true] at h
 exact Subtype.ext h
theorem law_bits64 : ExtLaw Tryz.prog 252 ct_bits64 := by
 refine fam_ext (fun ⟨x, hx⟩ => ⟨rfl, by simp [scI], fun fz vs w hl hv => ?_⟩)
 match vs, hl with
 | [v], _ =>
   have h1 := hv 0 _ v rfl rfl
   obtain ⟨y, rfl, he⟩ := h1.flt_inv
   rcases he with rfl | ⟨h2, _⟩
   · refine ⟨.int .u64 x, .int .u64 x, ?_, rfl, .int _ _⟩
     rw [run_callFunc_extern (e := Extern.MathFloatBits.float64bits) Tryz.func252 (by kernel_rfl) (by kernel_rfl) (by kernel_rfl) (by kernel_rfl)]
     rfl
   · simp only at h2; rw [hx] at h2; cases h2
noncomputable def zDx : Ct := fam true (fun x : Nat => ([.c (.im (.int .u64 x))], [])) (fun x => .one { val := .c (.im (.flt .f64 x)) })
theorem zDb (x : Nat) : zDx.run [.c (.im (.int .u64 (x : Int)))] [] = some (.one { val := .c (.im (.flt .f64 x)) }) :=
 zAd (fun a b h => by simp only [Prod.mk.injEq, List.cons.injEq, D.c.injEq, C.im.injEq, I.int.injEq] at h; omega) x
theorem zEl : ExtLaw Tryz.prog 240 zDx := by
 refine fam_ext (fun x => ⟨rfl, by simp [scI], fun fz vs w hl hv => ?_⟩)
 match vs, hl with
 | [v], _ =>
   have h1 := hv 0 _ v rfl rfl
   cases h1.int_inv
   refine ⟨.float .f64 x, .flt .f64 x, ?_, rfl, .flt _ _ _ (.inl rfl)⟩
   rw [run_callFunc_extern (e := Extern.MathFloatBits.float64frombits) Tryz.func240 (by kernel_rfl) (by kernel_rfl) (by kernel_rfl) (by kernel_rfl)]
   rfl
end Go.SX
namespace Go.SX
open Go Go.Proofs Ieee
abbrev M24 := { m : Nat // 0 < m ∧ m < 16777216 }
theorem M24.dr (m : M24) : Dr m.1 0 := ⟨m.2.1, by have := m.2.2; omega, by omega, by omega⟩
theorem dW_inj {m n : Nat} (hm : Dr m 0) (hn : Dr n 0) (h : dW m 0 = dW n 0) : m = n := by
 have a := rd_dW' hm
 rw [h, rd_dW' hn] at a
 injection a with _ a1 a2
 have s1 := SV.shl m 0 (52 - m.log2)
 have s2 := SV.shl n 0 (52 - n.log2)
 rw [← a1, ← a2] at s1
 exact (s1.trans s2.symm).eq
noncomputable def ct_Abs : Ct := fam true (fun m : M24 => ([.c (.im (.flt .f64 (dW m.1 0)))], [])) (fun m => .one { val := .c (.im (.flt .f64 (dW m.1 0))) })
theorem run_Abs (m : M24) : ct_Abs.run [.c (.im (.flt .f64 (dW m.1 0)))] [] = some (.one { val := .c (.im (.flt .f64 (dW m.1 0))) }) := by
 refine zDw (args := fun m : M24 => ([D.c (.im (.flt .f64 (dW m.1 0)))], [])) ?_ m
 intro a b h
 simp only [Prod.mk.injEq, List.cons.injEq, D.c.injEq, C.im.injEq, I.flt.injEq, true_and, and_true] at h
 rw [h]
theorem andNot63 {x : Nat} (h : x < 9223372036854775808) : bitsI .andNot .u64 (x : Int) 9223372036854775808 = (x : Int) := by
 have h1 : (BitVec.ofInt 64 (x : Int) &&& ~~~BitVec.ofInt 64 9223372036854775808).toNat = x := by
   rw [BitVec.toNat_and]
   have e1 : (BitVec.ofInt 64 (x : Int)).toNat = x := by simp; omega
   have e2 : (~~~BitVec.ofInt 64 9223372036854775808).toNat = 2 ^ 63 - 1 := by decide
   rw [e1, e2, Nat.and_two_pow_sub_one_eq_mod]
   omega
 show IntKind.u64.wrap _ = _
 rw [show (IntKind.u64.bits) = 64 from rfl, h1]
 show ((x : Int) % 18446744073709551616) = _
 omega
set_option maxRecDepth 100000 in
theorem law_Abs : Law Tryz.prog 204 ct_Abs := by
 refine zAf (zCn law_bits64 (zCn zEl zAe)) hmixA Tryz.func204 rfl rfl (fun m => ⟨zAv rfl, by simp [Tryz.f204], ?_⟩)
 simp only
 have hn := dW_nan m.dr
 have hlt := dW_lt m.dr
 generalize dW m.1 0 = y at *
 try simp -dsimp (maxSteps := 1000000) only [go_sem, List.forall_mem_nil, ↓reduceIte, Nat.reduceEqDiff, Nat.reduceLT, Nat.reduceLeDiff, Nat.reduceAdd, Nat.reduceMul, reduceCtorEq, Tryz.f204, run_bits64 hn, andNot63 hlt, zDb]
noncomputable def ct_IsInf0 : Ct := fam true (fun m : M24 => ([.c (.im (.flt .f64 (dW m.1 0))), .c (.im (.int .i64 0))], [])) (fun m => .one { val := .c (.im (.bool false)) })
theorem run_IsInf0 (m : M24) : ct_IsInf0.run [.c (.im (.flt .f64 (dW m.1 0))), .c (.im (.int .i64 0))] [] = some (.one { val := .c (.im (.bool false)) }) :=
 zDw (args := fun m : M24 => ([D.c (.im (.flt .f64 (dW m.1 0))), .c (.im (.int .i64 0))], [])) (fun _ _ _ => rfl) m
set_option maxRecDepth 100000 in
theorem law_IsInf0 : Law Tryz.prog 144 ct_IsInf0 := by
 refine zAf (zAc law_Abs zAe) hmixA Tryz.func144 rfl rfl (fun m => ⟨zAv rfl, by simp [Tryz.f144], ?_⟩)
 simp only
 have hm := dW_max m.dr
 have ra := run_Abs m
 generalize dW m.1 0 = y at *
 try simp -dsimp (maxSteps := 1000000) only [go_sem, List.forall_mem_nil, ↓reduceIte, Nat.reduceEqDiff, Nat.reduceLT, Nat.reduceLeDiff, Nat.reduceAdd, Nat.reduceMul, reduceCtorEq, Tryz.f144, ra, hm]
noncomputable def ct_IsNaN0 : Ct := fam true (fun m : M24 => ([.c (.im (.flt .f64 (dW m.1 0)))], [])) (fun m => .one { val := .c (.im (.bool false)) })
theorem run_IsNaN0 (m : M24) : ct_IsNaN0.run [.c (.im (.flt .f64 (dW m.1 0)))] [] = some (.one { val := .c (.im (.bool false)) }) :=
 zDw (args := fun m : M24 => ([D.c (.im (.flt .f64 (dW m.1 0)))], [])) (fun _ _ _ => rfl) m
set_option maxRecDepth 100000 in
theorem law_IsNaN0 : Law Tryz.prog 301 ct_IsNaN0 := by
 refine zAf zAe hmixA Tryz.func301 rfl rfl (fun m => ⟨zAv rfl, by simp [Tryz.f301], ?_⟩)
 simp only
 have hm := dW_neq m.dr
 generalize dW m.1 0 = y at *
 try simp -dsimp (maxSteps := 1000000) only [go_sem, List.forall_mem_nil, ↓reduceIte, Nat.reduceEqDiff, Nat.reduceLT, Nat.reduceLeDiff, Nat.reduceAdd, Nat.reduceMul, reduceCtorEq, Tryz.f301, hm]
def oNorm (m : Nat) : Outs := .one { val := .tup [.c (.im (.flt .f64 (dW m 0))), .c (.im (.int .i64 0))] }
noncomputable def ct_normalize : Ct := fam true (fun m : M24 => ([.c (.im (.flt .f64 (dW m.1 0)))], [])) (fun m => oNorm m.1)
theorem run_normalize (m : M24) : ct_normalize.run [.c (.im (.flt .f64 (dW m.1 0)))] [] = some (.one { val := .tup [.c (.im (.flt .f64 (dW m.1 0))), .c (.im (.int .i64 0))] }) := by
 refine zDw (args := fun m : M24 => ([D.c (.im (.flt .f64 (dW m.1 0)))], [])) (out := fun m => oNorm m.1) ?_ m
 intro a b h
 simp only [Prod.mk.injEq, List.cons.injEq, D.c.injEq, C.im.injEq, I.flt.injEq, true_and, and_true] at h
 simp only [oNorm, h]
set_option maxRecDepth 100000 in
theorem law_normalize : Law Tryz.prog 302 ct_normalize := by
 refine zAf (zAc law_Abs zAe) hmixA Tryz.func302 rfl rfl (fun m => ⟨okO ⟨.tup _ (by intro d hd; simp at hd; rcases hd with rfl | rfl <;> exact .inl ⟨_, rfl, zCg rfl⟩), by simp, by simp⟩, by simp [Tryz.f302], ?_⟩)
 simp only [oNorm]
 have hm := dW_small m.dr
 have ra := run_Abs m
 generalize dW m.1 0 = y at *
 try simp -dsimp (maxSteps := 1000000) only [go_sem, List.forall_mem_nil, ↓reduceIte, Nat.reduceEqDiff, Nat.reduceLT, Nat.reduceLeDiff, Nat.reduceAdd, Nat.reduceMul, reduceCtorEq, Tryz.f302, ra, hm]
abbrev ALd := { x : M24 × Int // -200 ≤ x.2 ∧ x.2 ≤ 200 }
theorem ALd.dr (x : ALd) : Dr x.1.1.1 x.1.2 := ⟨x.1.1.2.1, by have := x.1.1.2.2; omega, by have := x.2.1; omega, by have := x.2.2; omega⟩
noncomputable def ct_ldexp : Ct := fam true (fun x : ALd => ([.c (.im (.flt .f64 (dW x.1.1.1 0))), .c (.im (.int .i64 x.1.2))], [])) (fun x => .one { val := .c (.im (.flt .f64 (dW x.1.1.1 x.1.2))) })
theorem ldexp_inj : ∀ a b : ALd, ([D.c (.im (.flt .f64 (dW a.1.1.1 0))), .c (.im (.int .i64 a.1.2))], ([] : List (List B))) = ([D.c (.im (.flt .f64 (dW b.1.1.1 0))), .c (.im (.int .i64 b.1.2))], []) → a = b := by
 rintro ⟨⟨m, e⟩, _⟩ ⟨⟨n, j⟩, _⟩ h
 simp only [Prod.mk.injEq, List.cons.injEq, D.c.injEq, C.im.injEq, I.flt.injEq, I.int.injEq, true_and, and_true] at h
 have := dW_inj m.dr n.dr h.1
 exact Subtype.ext (Prod.ext (Subtype.ext this) h.2)
theorem run_ldexp {m : Nat} {e : Int} (h0 : 0 < m) (h : m < 16777216) (h1 : -200 ≤ e) (h2 : e ≤ 200) : ct_ldexp.run [.c (.im (.flt .f64 (dW m 0))), .c (.im (.int .i64 e))] [] = some (.one { val := .c (.im (.flt .f64 (dW m e))) }) :=
 zAd (args := fun x : ALd => ([D.c (.im (.flt .f64 (dW x.1.1.1 0))), .c (.im (.int .i64 x.1.2))], [])) ldexp_inj ⟨(⟨m, h0, h⟩, e), h1, h2⟩
set_option maxRecDepth 100000 in
set_option maxHeartbeats 4000000 in
theorem law_ldexp : Law Tryz.prog 277 ct_ldexp := by
 refine zAf (zAc law_IsInf0 (zAc law_IsNaN0 (zAc law_normalize (zCn law_bits64 (zCn zEl zAe))))) hmixA Tryz.func277 rfl rfl (fun ⟨⟨m, e⟩, h1, h2⟩ => ⟨zAv rfl, by simp [Tryz.f277], ?_⟩)
 simp only at h1 h2 ⊢
 have hd := m.dr
 have hde : Dr m.1 e := ⟨m.2.1, by have := m.2.2; omega, by omega, by omega⟩
 have hL : m.1.log2 ≤ 23 := log2_lt m.2.2
 have r1 := run_IsInf0 m
 have r2 := run_IsNaN0 m
 have r3 := run_normalize m
 have r4 := run_bits64 (dW_nan hd)
 have z0 := dW_eq0 hd
 have hsh := shr52 hd
 have hone := one_mul64 hde
 have han := andNot52 (dW_lt hd)
 obtain ⟨x1, g1, g2, _⟩ := zCp hd
 obtain ⟨x2, _, _, _⟩ := zCp hde
 obtain ⟨k, hk⟩ : ∃ k : Nat, e + (m.1.log2 : Int) + 1023 = k := ⟨(e + (m.1.log2 : Int) + 1023).toNat, by omega⟩
 have hfin : k * 4503599627370496 + dW m.1 0 % 4503599627370496 = dW m.1 e := by
   rw [x1, x2]
   generalize m.1 * 2 ^ (52 - m.1.log2) = M at g1 g2
   omega
 have hor := or52 (a := dW m.1 0 % 4503599627370496) (k := k) (Nat.mod_lt _ (by omega)) (by omega)
 rw [hfin] at hor
 have hfr := zDb (dW m.1 e)
 rw [show (m.1.log2 : Int) + 0 + 1023 = (m.1.log2 : Int) + 1023 by omega] at hsh
 have w1 : IntKind.i64.wrap (e + 0) = e := by rw [zAi (by omega) (by omega)]; omega
 have w2 : IntKind.i64.wrap ((m.1.log2 : Int) + 1023) = (m.1.log2 : Int) + 1023 := zAi (by omega) (by omega)
 have w3 := and11 (a := (m.1.log2 : Int) + 1023) (by omega) (by omega)
 have w4 : IntKind.i64.wrap ((m.1.log2 : Int) + 1023 - 1023) = (m.1.log2 : Int) := by rw [zAi (by omega) (by omega)]; omega
 have w5 : IntKind.i64.wrap (e + (m.1.log2 : Int)) = e + (m.1.log2 : Int) := zAi (by omega) (by omega)
 have c1 : (e + (m.1.log2 : Int) < -1075) = False := eq_false (by omega)
 have c2 : (1023 < e + (m.1.log2 : Int)) = False := eq_false (by omega)
 have c3 : (e + (m.1.log2 : Int) < -1022) = False := eq_false (by omega)
 have w6 : IntKind.i64.wrap (e + (m.1.log2 : Int) + 1023) = (k : Int) := by rw [hk, zAi (by omega) (by omega)]
 have w7 : IntKind.u64.wrap (k : Int) = (k : Int) := by
   show ((k : Int) % 18446744073709551616) = _
   omega
 have w8 : IntKind.u64.wrap ((k : Int) * 2 ^ min (Int.toNat 52) 64) = ((k * 4503599627370496 : Nat) : Int) := by
   show ((k : Int) * 2 ^ 52 % 18446744073709551616) = _
   have : (2 : Int) ^ 52 = 4503599627370496 := by decide
   rw [this]
   omega
 clear x1 x2 g1 g2 hfin
 generalize (m.1.log2 : Int) = L at *
 generalize dW m.1 e = R at *
 generalize dW m.1 0 = y at *
 generalize hX : y % 4503599627370496 = X at *
 try simp -dsimp (maxSteps := 1000000) only [go_sem, List.forall_mem_nil, ↓reduceIte, Nat.reduceEqDiff, Nat.reduceLT, Nat.reduceLeDiff, Nat.reduceAdd, Nat.reduceMul, reduceCtorEq, Tryz.f277, z0, r1, r2, r3, r4, hsh, w1, w2, w3, w4, w5, c1, c2, c3, han, hX, w6, w7, w8, hor, hfr, hone, Int.reduceLT, Int.reduceNeg]
noncomputable def ct_Ldexp : Ct := fam true (fun x : ALd => ([.c (.im (.flt .f64 (dW x.1.1.1 0))), .c (.im (.int .i64 x.1.2))], [])) (fun x => .one { val := .c (.im (.flt .f64 (dW x.1.1.1 x.1.2))) })
theorem run_Ldexp {m : Nat} {e : Int} (h0 : 0 < m) (h : m < 16777216) (h1 : -200 ≤ e) (h2 : e ≤ 200) : ct_Ldexp.run [.c (.im (.flt .f64 (dW m 0))), .c (.im (.int .i64 e))] [] = some (.one { val := .c (.im (.flt .f64 (dW m e))) }) :=
 zAd (args := fun x : ALd => ([D.c (.im (.flt .f64 (dW x.1.1.1 0))), .c (.im (.int .i64 x.1.2))], [])) ldexp_inj ⟨(⟨m, h0, h⟩, e), h1, h2⟩
set_option maxRecDepth 100000 in
theorem law_Ldexp : Law Tryz.prog 242 ct_Ldexp := by
 refine zAf (zAc law_ldexp zAe) hmixA Tryz.func242 rfl rfl (fun ⟨⟨m, e⟩, h1, h2⟩ => ⟨zAv rfl, by simp [Tryz.f242], ?_⟩)
 simp only at h1 h2 ⊢
 have r := run_ldexp m.2.1 m.2.2 h1 h2
 generalize dW m.1 e = R at *
 generalize dW m.1 0 = y at *
 try simp -dsimp (maxSteps := 1000000) only [go_sem, List.forall_mem_nil, ↓reduceIte, Nat.reduceEqDiff, Nat.reduceLT, Nat.reduceLeDiff, Nat.reduceAdd, Nat.reduceMul, reduceCtorEq, Tryz.f242, r]
noncomputable def ct_mNaN : Ct := fam true (fun _ : Unit => ([], [])) (fun _ => .one { val := .c (.im (.flt .f64 9221120237041090561)) })
theorem run_mNaN : ct_mNaN.run [] [] = some (.one { val := .c (.im (.flt .f64 9221120237041090561)) }) := zAd (args := fun _ : Unit => (([] : List D), [])) (fun _ _ _ => rfl) ()
set_option maxRecDepth 100000 in
theorem law_mNaN : Law Tryz.prog 183 ct_mNaN := by
 refine zAf (zCn zEl zAe) hmixA Tryz.func183 rfl rfl (fun _ => ⟨zAv rfl, by simp [Tryz.f183], ?_⟩)
 simp only
 have r : zDx.run [.c (.im (.int .u64 9221120237041090561))] [] = some (.one { val := .c (.im (.flt .f64 9221120237041090561)) }) := zDb 9221120237041090561
 try simp -dsimp (maxSteps := 1000000) only [go_sem, List.forall_mem_nil, ↓reduceIte, Nat.reduceEqDiff, Nat.reduceLT, Nat.reduceLeDiff, Nat.reduceAdd, Nat.reduceMul, reduceCtorEq, Tryz.f183, r]
noncomputable def ct_mInf : Ct := fam true (fun b : Bool => ([.c (.im (.int .i64 (if b then 1 else -1)))], [])) (fun b => .one { val := .c (.im (.flt .f64 (if b then 9218868437227405312 else 18442240474082181120))) })
theorem mInf_inj : ∀ a b : Bool, ([D.c (.im (.int .i64 (if a then 1 else -1)))], ([] : List (List B))) = ([D.c (.im (.int .i64 (if b then 1 else -1)))], []) → a = b := by
 intro a b h
 simp only [Prod.mk.injEq, List.cons.injEq, D.c.injEq, C.im.injEq, I.int.injEq, true_and, and_true] at h
 cases a <;> cases b <;> simp at h ⊢
theorem run_mInf1 : ct_mInf.run [.c (.im (.int .i64 1))] [] = some (.one { val := .c (.im (.flt .f64 9218868437227405312)) }) := zAd (args := fun b : Bool => ([D.c (.im (.int .i64 (if b then 1 else -1)))], [])) mInf_inj true
theorem run_mInf2 : ct_mInf.run [.c (.im (.int .i64 (-1)))] [] = some (.one { val := .c (.im (.flt .f64 18442240474082181120)) }) := zAd (args := fun b : Bool => ([D.c (.im (.int .i64 (if b then 1 else -1)))], [])) mInf_inj false
set_option maxRecDepth 100000 in
theorem law_mInf : Law Tryz.prog 184 ct_mInf := by
 refine zAf (zCn zEl zAe) hmixA Tryz.func184 rfl rfl (fun b => ⟨zAv rfl, by simp [Tryz.f184], ?_⟩)
 have r1 : zDx.run [.c (.im (.int .u64 9218868437227405312))] [] = some (.one { val := .c (.im (.flt .f64 9218868437227405312)) }) := zDb 9218868437227405312
 have r2 : zDx.run [.c (.im (.int .u64 18442240474082181120))] [] = some (.one { val := .c (.im (.flt .f64 18442240474082181120)) }) := zDb 18442240474082181120
 cases b with
 | true =>
   simp only [if_true]
   try simp -dsimp (maxSteps := 1000000) only [go_sem, List.forall_mem_nil, ↓reduceIte, Nat.reduceEqDiff, Nat.reduceLT, Nat.reduceLeDiff, Nat.reduceAdd, Nat.reduceMul, reduceCtorEq, Tryz.f184, r1, Int.reduceLE]
 | false =>
   simp only [Bool.false_eq_true, if_false]
   try simp -dsimp (maxSteps := 1000000) only [go_sem, List.forall_mem_nil, ↓reduceIte, Nat.reduceEqDiff, Nat.reduceLT, Nat.reduceLeDiff, Nat.reduceAdd, Nat.reduceMul, reduceCtorEq, Tryz.f184, r2, Int.reduceLE, Int.reduceNeg]
end Go.SX
namespace Go.SX
open Go Go.Proofs Ieee
theorem ba_extract (l : Txt) (a b : Nat) : (⟨l.toArray⟩ : ByteArray).extract a b = ⟨((l.take b).drop a).toArray⟩ := by
 apply ByteArray.ext
 rw [ByteArray.data_extract]
 simp [List.extract_eq_take_drop, List.drop_take]
def cutP (c : UInt8) : Txt → Txt × Bool
 | [] => ([], false)
 | b :: t => if b = c then (t, true) else (b :: t, false)
noncomputable def ct_HasPrefix : Ct := fam true (fun x : SB => ([.c (.im (.str ⟨x.1.1.toArray⟩)), .c (.im (.str ⟨#[x.1.2]⟩))], [])) (fun x => .one { val := .c (.im (.bool (cutP x.1.2 x.1.1).2)) })
theorem SB_inj : ∀ a b : SB, ([D.c (.im (.str ⟨a.1.1.toArray⟩)), .c (.im (.str ⟨#[a.1.2]⟩))], ([] : List (List B))) = ([D.c (.im (.str ⟨b.1.1.toArray⟩)), .c (.im (.str ⟨#[b.1.2]⟩))], []) → a = b := by
 rintro ⟨⟨a, b⟩, _⟩ ⟨⟨a', b'⟩, _⟩ h
 simp only [Prod.mk.injEq, List.cons.injEq, D.c.injEq, C.im.injEq, I.str.injEq, ba_inj, true_and, and_true] at h
 exact Subtype.ext (Prod.ext h.1 h.2)
theorem run_HasPrefix {s : Txt} (h : s.length ≤ 2097152) (c : UInt8) : ct_HasPrefix.run [.c (.im (.str ⟨s.toArray⟩)), .c (.im (.str ⟨#[c]⟩))] [] = some (.one { val := .c (.im (.bool (cutP c s).2)) }) :=
 zAd (args := fun x : SB => ([D.c (.im (.str ⟨x.1.1.toArray⟩)), .c (.im (.str ⟨#[x.1.2]⟩))], [])) SB_inj ⟨(s, c), h⟩
set_option maxRecDepth 100000 in
theorem law_HasPrefix : Law Tryz.prog 270 ct_HasPrefix := by
 refine zAf zAe hmixA Tryz.func270 rfl rfl (fun ⟨⟨s, c⟩, h⟩ => ⟨zAv rfl, by simp [Tryz.f270], ?_⟩)
 simp only
 have c0 : ((0 : Nat) : Int) = 0 := rfl
 have c1 : ((1 : Nat) : Int) = 1 := rfl
 cases s with
 | nil =>
   simp only [cutP]
   try simp -dsimp (maxSteps := 1000000) only [go_sem, List.forall_mem_nil, ↓reduceIte, Nat.reduceEqDiff, Nat.reduceLT, Nat.reduceLeDiff, Nat.reduceAdd, Nat.reduceMul, reduceCtorEq, Tryz.f270, zEr, List.size_toArray, Nat.reduceAdd, c0, c1, Int.reduceLE]
 | cons b t =>
   have h1 : ((1 : Int) ≤ ((t.length + 1 : Nat) : Int)) = True := eq_true (by omega)
   have hc : cutP c (b :: t) = if b = c then (t, true) else (b :: t, false) := rfl
   by_cases e : b = c
   · have e' := eq_true e
     rw [hc, if_pos e]
     try simp -dsimp (maxSteps := 1000000) only [go_sem, List.forall_mem_nil, ↓reduceIte, Nat.reduceEqDiff, Nat.reduceLT, Nat.reduceLeDiff, Nat.reduceAdd, Nat.reduceMul, reduceCtorEq, Tryz.f270, zEr, List.size_toArray, Nat.reduceAdd, c0, c1, h1, e', ba_extract, zAz, Int.toNat_one, Int.reduceLE, List.take_succ_cons, List.take_zero]
   · have e' := eq_false e
     rw [hc, if_neg e]
     try simp -dsimp (maxSteps := 1000000) only [go_sem, List.forall_mem_nil, ↓reduceIte, Nat.reduceEqDiff, Nat.reduceLT, Nat.reduceLeDiff, Nat.reduceAdd, Nat.reduceMul, reduceCtorEq, Tryz.f270, zEr, List.size_toArray, Nat.reduceAdd, c0, c1, h1, e', ba_extract, zAz, Int.toNat_one, Int.reduceLE, List.take_succ_cons, List.take_zero]
def oCp (s : Txt) (c : UInt8) : Outs := .one { val := .tup [.c (.im (.str ⟨(cutP c s).1.toArray⟩)), .c (.im (.bool (cutP c s).2))] }
theorem okO_cp (s : Txt) (c : UInt8) {sc : Bool} : ∀ res, (oCp s c).mem res → OkR sc res := okO ⟨.tup _ (by intro d hd; simp at hd; rcases hd with rfl | rfl <;> exact .inl ⟨_, rfl, zCg rfl⟩), by simp, by simp⟩
noncomputable def ct_sCutPrefix : Ct := fam true (fun x : SB => ([.c (.im (.str ⟨x.1.1.toArray⟩)), .c (.im (.str ⟨#[x.1.2]⟩))], [])) (fun x => oCp x.1.1 x.1.2)
theorem run_sCutPrefix {s : Txt} (h : s.length ≤ 2097152) (c : UInt8) : ct_sCutPrefix.run [.c (.im (.str ⟨s.toArray⟩)), .c (.im (.str ⟨#[c]⟩))] [] = some (oCp s c) :=
 zAd (args := fun x : SB => ([D.c (.im (.str ⟨x.1.1.toArray⟩)), .c (.im (.str ⟨#[x.1.2]⟩))], [])) SB_inj ⟨(s, c), h⟩
set_option maxRecDepth 100000 in
theorem law_sCutPrefix : Law Tryz.prog 275 ct_sCutPrefix := by
 refine zAf (zAc law_HasPrefix zAe) hmixA Tryz.func275 rfl rfl (fun ⟨⟨s, c⟩, h⟩ => ⟨okO_cp s c, by simp [Tryz.f275], ?_⟩)
 simp only [oCp] at h ⊢
 have c1 : ((1 : Nat) : Int) = 1 := rfl
 have rh := run_HasPrefix h c
 cases s with
 | nil =>
   simp only [cutP] at rh ⊢
   try simp -dsimp (maxSteps := 1000000) only [go_sem, List.forall_mem_nil, ↓reduceIte, Nat.reduceEqDiff, Nat.reduceLT, Nat.reduceLeDiff, Nat.reduceAdd, Nat.reduceMul, reduceCtorEq, Tryz.f275, rh, Bool.not_false]
 | cons b t =>
   have h1 : ((1 : Int) ≤ ((t.length + 1 : Nat) : Int)) = True := eq_true (by omega)
   have hc : cutP c (b :: t) = if b = c then (t, true) else (b :: t, false) := rfl
   have hx : (⟨(b :: t).toArray⟩ : ByteArray).extract 1 (t.length + 1) = ⟨t.toArray⟩ := by
     rw [ba_extract, List.take_of_length_le (by simp)]; rfl
   by_cases e : b = c
   · rw [hc, if_pos e] at rh ⊢
     try simp -dsimp (maxSteps := 1000000) only [go_sem, List.forall_mem_nil, ↓reduceIte, Nat.reduceEqDiff, Nat.reduceLT, Nat.reduceLeDiff, Nat.reduceAdd, Nat.reduceMul, reduceCtorEq, Tryz.f275, rh, Bool.not_true, zEr, List.size_toArray, Nat.reduceAdd, c1, h1, hx, Int.toNat_one, Int.toNat_natCast, Int.reduceLE]
   · rw [hc, if_neg e] at rh ⊢
     try simp -dsimp (maxSteps := 1000000) only [go_sem, List.forall_mem_nil, ↓reduceIte, Nat.reduceEqDiff, Nat.reduceLT, Nat.reduceLeDiff, Nat.reduceAdd, Nat.reduceMul, reduceCtorEq, Tryz.f275, rh, Bool.not_false]
noncomputable def ct_CutPrefix : Ct := fam true (fun x : SB => ([.c (.im (.str ⟨x.1.1.toArray⟩)), .c (.im (.str ⟨#[x.1.2]⟩))], [])) (fun x => oCp x.1.1 x.1.2)
theorem run_CutPrefix {s : Txt} (h : s.length ≤ 2097152) (c : UInt8) : ct_CutPrefix.run [.c (.im (.str ⟨s.toArray⟩)), .c (.im (.str ⟨#[c]⟩))] [] = some (oCp s c) :=
 zAd (args := fun x : SB => ([D.c (.im (.str ⟨x.1.1.toArray⟩)), .c (.im (.str ⟨#[x.1.2]⟩))], [])) SB_inj ⟨(s, c), h⟩
set_option maxRecDepth 100000 in
theorem law_CutPrefix : Law Tryz.prog 241 ct_CutPrefix := by
 refine zAf (zAc law_sCutPrefix zAe) hmixA Tryz.func241 rfl rfl (fun ⟨⟨s, c⟩, h⟩ => ⟨okO_cp s c, by simp [Tryz.f241], ?_⟩)
 simp only [oCp] at h ⊢
 have rh := run_sCutPrefix h c
 simp only [oCp] at rh
 try simp -dsimp (maxSteps := 1000000) only [go_sem, List.forall_mem_nil, ↓reduceIte, Nat.reduceEqDiff, Nat.reduceLT, Nat.reduceLeDiff, Nat.reduceAdd, Nat.reduceMul, reduceCtorEq, Tryz.f241, rh]
theorem neg32 {r : Nat} (h : r < 2147483648) : Op.negFloat .f32 r = 2147483648 + r := by
 have hx : Op.negFloat .f32 r = r ^^^ 2 ^ 31 := rfl
 have h1 : 2 ^ 31 ||| r = 2 ^ 31 + r := by
   have := Nat.two_pow_add_eq_or_of_lt (i := 31) (b := r) h 1
   rw [Nat.mul_one] at this
   exact this.symm
 have hb : r.testBit 31 = false := Nat.testBit_lt_two_pow h
 rw [hx]
 have : r ^^^ 2 ^ 31 = 2 ^ 31 + r := by
   rw [← h1]
   apply Nat.eq_of_testBit_eq
   intro i
   rw [Nat.testBit_xor, Nat.testBit_or, Nat.testBit_two_pow]
   by_cases e : 31 = i
   · subst e; simp [hb]
   · simp [e]
 rw [this]
theorem zEw {x : Nat} (h : x < 4294967296) : Op.negFloat .f32 x < 4294967296 := by
 have hx : Op.negFloat .f32 x = x ^^^ 2 ^ 31 := rfl
 rw [hx]
 exact Nat.xor_lt_two_pow (n := 32) h (by decide)
theorem fconv_lt {b r : Nat} (h : fconv .f64 b .f32 = some r) : r < 4294967296 := by
 have hq : qn .f32 < 4294967296 := by decide
 have hw : ∀ d, FloatKind.f32.encode d < 4294967296 := fun d => single.write_lt d
 unfold fconv at h
 rw [if_neg (by decide)] at h
 split at h
 · injection h with h; subst h; exact hq
 · injection h with h; subst h; exact hw _
 · split at h
   · cases h
   · injection h with h; subst h; exact hw _
theorem cKn (K : Nat → Prop) (t : Tag K) : cK none K t = ∀ r, r < 4294967296 → K r := by simp only [cK]
theorem fsT_fin {w : Nat} (h : Fin32 w) : fsT w = fmtT w := by
 have hf : isFin w = true := by have := h.fin; simp only [isFin, decide_eq_true_eq]; omega
 simp [fsT, hf]
theorem fsT_none {s : Txt} (h : prsT s = none) (hs : s ≠ []) {x : Nat} (hx : x < 4294967296) : fsT x ≠ s := by
 unfold fsT
 split
 · rename_i hf
   refine prsT_none h ⟨hx, ?_⟩
   simp only [isFin, decide_eq_true_eq] at hf; omega
 · exact fun e => hs e.symm
noncomputable def prsO (s : Txt) : Nat × Bool := match prsT s with
 | some w => (w, true)
 | none => (0, false)
noncomputable def oPs (s : Txt) : Outs := .one { val := .tup [.c (.im (.flt .f32 (prsO s).1)), .c (.im (.bool (prsO s).2))] }
theorem okO_ps (s : Txt) {sc : Bool} : ∀ res, (oPs s).mem res → OkR sc res := okO ⟨.tup _ (by intro d hd; simp at hd; rcases hd with rfl | rfl <;> exact .inl ⟨_, rfl, zCg rfl⟩), by simp, by simp⟩
noncomputable def ct_ParseSingle : Ct := fam true (fun s : S21 => ([.c (.im (.str ⟨s.1.toArray⟩))], [])) (fun s => oPs s.1)
theorem run_ParseSingle {s : Txt} (h : s.length ≤ 2097152) : ct_ParseSingle.run [.c (.im (.str ⟨s.toArray⟩))] [] = some (oPs s) :=
 zAd (args := fun s : S21 => ([D.c (.im (.str ⟨s.1.toArray⟩))], [])) S21_inj ⟨s, h⟩
theorem cutP_fmt {w : Nat} (h : Fin32 w) : cutP 45 (fmtT w) = (magT (w % 2147483648), decide (2147483648 ≤ w)) := by
 unfold fmtT
 by_cases hs : 2147483648 ≤ w
 · simp [sgnT, hs, cutP]
 · obtain ⟨c, t, e, hd⟩ := magT_head h.fin
   have hc : ¬ c = 45 := fun e => by subst e; unfold isDig at hd; revert hd; decide
   simp [sgnT, hs, e, cutP, hc]
theorem cutP_len (c : UInt8) (s : Txt) : (cutP c s).1.length ≤ s.length := by
 cases s with
 | nil => simp [cutP]
 | cons b t => simp only [cutP]; split <;> simp
theorem cut_len (s : Txt) (c : UInt8) : (Lib.cut s [c]).1.length ≤ s.length ∧ (Lib.cut s [c]).2.1.length ≤ s.length := by
 by_cases hm : c ∈ s
 · obtain ⟨a, b, rfl, hn⟩ := first_at hm
   rw [cut_at hn]; simp; omega
 · rw [cut_none hm]; simp
end Go.SX
namespace Go.SX
open Go Go.Proofs Ieee
abbrev N32 := { x : Nat // x < 4294967296 }
abbrev P32 := { p : Pt // p.1 < 4294967296 ∧ p.2 < 4294967296 }
theorem fop32 (op : BinOp) (x y : Nat) : fop op .f32 x y < 4294967296 := by
 have hw : ∀ o : Option Datum, ((o.map single.write).getD (qn .f32)) < 4294967296 := fun o => by
   cases o with
   | none => decide
   | some d => exact single.write_lt d
 unfold fop fraw
 cases op <;> first | exact hw _ | exact (show (0 : Nat) < 4294967296 by decide)
theorem nr32 (n : Int) : FloatKind.f32.nearest n < 4294967296 := by
 have hw : ∀ d, FloatKind.f32.encode d < 4294967296 := fun d => single.write_lt d
 unfold FloatKind.nearest
 exact hw _
theorem narrow32 (o x : Nat) : narrow o x < 4294967296 := by
 unfold narrow
 cases h : fconv .f64 x .f32 with
 | some r => exact fconv_lt h
 | none => exact Nat.mod_lt _ (by decide)
theorem wI32 (n : Int) : wI n < 4294967296 := nr32 n
def oNatU (l : List Int) : Outs := .any (N32 × SK l) (fun q => { val := .c (.im (.flt .f32 q.1.1)), places := hsK l q.2.1.1 q.2.1.2 })
theorem ne_onatU (l : List Int) : Nonempty (N32 × SK l) = True := by simp only [eq_iff_iff, iff_true]; exact ⟨(⟨0, by decide⟩, ⟨(0, 0), by simp⟩)⟩
noncomputable def ctNatU : Ct := fam false (fun x : AKn => ([.c (.ptr 0 0 0 0)], hsK x.l x.a x.h)) (fun x => oNatU x.l)
theorem runNatU {l : List Int} {a h : Int} (h1 : l.length ≤ 1048576) (h2 : ∀ b ∈ l, 0 ≤ b ∧ b < 256) (h3 : 0 ≤ a) (h4 : a ≤ l.length) : ctNatU.run [.c (.ptr 0 0 0 0)] [[.t (.im (.sl 1 (rowsB l))), .t (.im (.int .i64 a)), .t (.im (.int .i64 h))]] = some (oNatU l) := by
 refine zAd (args := fun x : AKn => ([D.c (.ptr 0 0 0 0)], hsK x.l x.a x.h)) (fun x y h => ?_) ⟨l, h1, h2, a, h, h3, h4⟩
 simp only [Prod.mk.injEq, true_and] at h
 exact zGh (zGg h)
set_option maxRecDepth 100000 in
set_option maxHeartbeats 4000000 in
theorem law_l1OddU : Law Tryz.prog 135 ctNatU := by
 refine zAf (zAc zCi zAe) hmixA Tryz.func135 rfl rfl (fun ⟨l, h1, h2, a, h, h3, h4⟩ => ⟨okA (fun o => okK (n := 0) okDi), by simp [Tryz.f135], ?_⟩)
 simp only [oNatU, hsK]
 try simp -dsimp (maxSteps := 1000000) only [go_sem, List.forall_mem_nil, ↓reduceIte, Nat.reduceEqDiff, Nat.reduceLT, Nat.reduceLeDiff, Nat.reduceAdd, Nat.reduceMul, reduceCtorEq, Tryz.f135, zAy h1 h2 h3 h4 (n := 12) (by decide) (by decide), oBelow, hsK, zBd l (n := 12) (by decide)]
 rintro ⟨⟨v, ⟨⟨a1, k1⟩, b1⟩⟩, v1, v2⟩
 try simp -dsimp (maxSteps := 1000000) only [go_sem, List.forall_mem_nil, ↓reduceIte, Nat.reduceEqDiff, Nat.reduceLT, Nat.reduceLeDiff, Nat.reduceAdd, Nat.reduceMul, reduceCtorEq, Tryz.f135, hsK]
 repeat' ((first | (with_reducible refine gS_d ?_ ?_) | (with_reducible refine gS_dn ?_ ?_) | (with_reducible refine gS_i ?_ ?_)) <;> intro hg <;> (try simp -dsimp (maxSteps := 1000000) only [go_sem, List.forall_mem_nil, ↓reduceIte, Nat.reduceEqDiff, Nat.reduceLT, Nat.reduceLeDiff, Nat.reduceAdd, Nat.reduceMul, reduceCtorEq, Tryz.f135, hsK, *]))
 all_goals refine ⟨(⟨_, ?_⟩, ⟨(a1, k1), b1⟩), rfl, rfl⟩
 all_goals (first | exact fop32 _ _ _ | exact nr32 _ | decide | exact zEw (by decide))
set_option maxRecDepth 100000 in
set_option maxHeartbeats 4000000 in
theorem law_l1SomeU : Law Tryz.prog 138 ctNatU := by
 refine zAf (zAc zCi zAe) hmixA Tryz.func138 rfl rfl (fun ⟨l, h1, h2, a, h, h3, h4⟩ => ⟨okA (fun o => okK (n := 0) okDi), by simp [Tryz.f138], ?_⟩)
 simp only [oNatU, hsK]
 try simp -dsimp (maxSteps := 1000000) only [go_sem, List.forall_mem_nil, ↓reduceIte, Nat.reduceEqDiff, Nat.reduceLT, Nat.reduceLeDiff, Nat.reduceAdd, Nat.reduceMul, reduceCtorEq, Tryz.f138, zAy h1 h2 h3 h4 (n := 3) (by decide) (by decide), oBelow, hsK, zBd l (n := 3) (by decide)]
 rintro ⟨⟨v, ⟨⟨a1, k1⟩, b1⟩⟩, v1, v2⟩
 by_cases e0 : v = 0
 · have e0' := eq_true e0
   try simp -dsimp (maxSteps := 1000000) only [go_sem, List.forall_mem_nil, ↓reduceIte, Nat.reduceEqDiff, Nat.reduceLT, Nat.reduceLeDiff, Nat.reduceAdd, Nat.reduceMul, reduceCtorEq, Tryz.f138, e0', zAy h1 h2 b1.1 b1.2 (n := 65) (by decide) (by decide), oBelow, hsK, zBd l (n := 65) (by decide)]
   rintro ⟨⟨u, ⟨⟨a2, k2⟩, b2⟩⟩, u1, u2⟩
   try simp -dsimp (maxSteps := 1000000) only [go_sem, List.forall_mem_nil, ↓reduceIte, Nat.reduceEqDiff, Nat.reduceLT, Nat.reduceLeDiff, Nat.reduceAdd, Nat.reduceMul, reduceCtorEq, Tryz.f138, hsK]
   refine ⟨(⟨_, ?_⟩, ⟨(a2, k2), b2⟩), rfl, rfl⟩
   (first | exact fop32 _ _ _ | exact nr32 _ | decide | exact zEw (by decide))
 have e0' := eq_false e0
 by_cases e1 : v = 1
 · have e1' := eq_true e1
   try simp -dsimp (maxSteps := 1000000) only [go_sem, List.forall_mem_nil, ↓reduceIte, Nat.reduceEqDiff, Nat.reduceLT, Nat.reduceLeDiff, Nat.reduceAdd, Nat.reduceMul, reduceCtorEq, Tryz.f138, e0', e1', zAy h1 h2 b1.1 b1.2 (n := 2000001) (by decide) (by decide), oBelow, hsK, zBd l (n := 2000001) (by decide)]
   rintro ⟨⟨u, ⟨⟨a2, k2⟩, b2⟩⟩, u1, u2⟩
   try simp -dsimp (maxSteps := 1000000) only [go_sem, List.forall_mem_nil, ↓reduceIte, Nat.reduceEqDiff, Nat.reduceLT, Nat.reduceLeDiff, Nat.reduceAdd, Nat.reduceMul, reduceCtorEq, Tryz.f138, hsK]
   refine ⟨(⟨_, ?_⟩, ⟨(a2, k2), b2⟩), rfl, rfl⟩
   (first | exact fop32 _ _ _ | exact nr32 _ | decide | exact zEw (by decide))
 have e1' := eq_false e1
 try simp -dsimp (maxSteps := 1000000) only [go_sem, List.forall_mem_nil, ↓reduceIte, Nat.reduceEqDiff, Nat.reduceLT, Nat.reduceLeDiff, Nat.reduceAdd, Nat.reduceMul, reduceCtorEq, Tryz.f138, e0', e1', zAy h1 h2 b1.1 b1.2 (n := 9) (by decide) (by decide), oBelow, hsK, zBd l (n := 9) (by decide)]
 rintro ⟨⟨u, ⟨⟨a2, k2⟩, b2⟩⟩, u1, u2⟩
 try simp -dsimp (maxSteps := 1000000) only [go_sem, List.forall_mem_nil, ↓reduceIte, Nat.reduceEqDiff, Nat.reduceLT, Nat.reduceLeDiff, Nat.reduceAdd, Nat.reduceMul, reduceCtorEq, Tryz.f138, hsK]
 refine ⟨(⟨_, ?_⟩, ⟨(a2, k2), b2⟩), rfl, rfl⟩
 (first | exact fop32 _ _ _ | exact nr32 _ | decide | exact zEw (by decide))
def rFSU (q : N32 × Bool) : Res := { val := .tup [.c (.im (.flt .f32 q.1.1)), .c (.im (.bool q.2))] }
def oFSU : Outs := .any (N32 × Bool) (fun q => rFSU q)
theorem okR_FSU {sc : Bool} {q : N32 × Bool} : OkR sc (rFSU q) := by
 refine ⟨.tup _ (fun d hd => ?_), by simp [rFSU], by simp [rFSU]⟩
 simp only [rFSU, List.mem_cons, List.not_mem_nil, or_false] at hd
 rcases hd with rfl | rfl <;> exact .inl ⟨_, rfl, zCg rfl⟩
noncomputable def ct_FromStepsU : Ct := fam true (fun x : KR => ([.c (.im (.int .i64 x.1))], [])) (fun _ => oFSU)
theorem run_FromStepsU {k : Int} (h1 : -4294967296 ≤ k) (h2 : k ≤ 4294967296) : ct_FromStepsU.run [.c (.im (.int .i64 k))] [] = some oFSU := zAd (args := fun x : KR => ([D.c (.im (.int .i64 x.1))], [])) (by
   intro a b h
   simp only [Prod.mk.injEq, List.cons.injEq, D.c.injEq, D.agg.injEq, C.im.injEq, I.cpx.injEq, I.flt.injEq, I.int.injEq, I.sl.injEq, I.bool.injEq, I.str.injEq, Int.natCast_inj, true_and, and_true] at h
   (try simp only [Prod.ext_iff, Subtype.ext_iff])
   (try simp only [zAs, zAw] at h)
   simp_all) (⟨k, h1, h2⟩ : KR)
theorem ne_FSU : Nonempty (N32 × Bool) = True := by simp only [eq_iff_iff, iff_true]; exact ⟨(⟨0, by decide⟩, true)⟩
set_option maxRecDepth 100000 in
set_option maxHeartbeats 4000000 in
theorem law_FromStepsU : Law Tryz.prog 136 ct_FromStepsU := by
 refine zAf (zAc law_l1In zAe) hmixA Tryz.func136 rfl rfl (fun ⟨k, n1, n2⟩ => ⟨okA (fun o => okR_FSU), by simp [Tryz.f136], ?_⟩)
 simp only [oFSU, rFSU]
 by_cases hin : -2139095039 ≤ k ∧ k ≤ 2139095039
 rotate_left
 · have hb : (decide (-2139095039 ≤ k) && decide (k ≤ 2139095039)) = false := by simpa using fun h => by omega
   try simp -dsimp (maxSteps := 1000000) only [go_sem, List.forall_mem_nil, ↓reduceIte, Nat.reduceEqDiff, Nat.reduceLT, Nat.reduceLeDiff, Nat.reduceAdd, Nat.reduceMul, reduceCtorEq, Tryz.f136, zBm, hb]
   all_goals refine ⟨(⟨_, ?_⟩, _), rfl, rfl⟩
   all_goals (first | exact narrow32 _ _ | exact zEw (narrow32 _ _) | exact fop32 _ _ _ | decide)
 have hb : (decide (-2139095039 ≤ k) && decide (k ≤ 2139095039)) = true := by simpa using hin
 obtain ⟨m, hm⟩ : ∃ m, (if IntKind.i64.wrap (-k) > k then IntKind.i64.wrap (-k) else k) = m := ⟨_, rfl⟩
 have hmr : m ≤ 4294967296 ∧ 0 ≤ m := by rw [← hm, zAi (by omega) (by omega)]; split <;> omega
 try simp -dsimp (maxSteps := 1000000) only [go_sem, List.forall_mem_nil, ↓reduceIte, Nat.reduceEqDiff, Nat.reduceLT, Nat.reduceLeDiff, Nat.reduceAdd, Nat.reduceMul, reduceCtorEq, Tryz.f136, zBm, hb, hm]
 refine zBh (ι := { x : Int × Int // 0 ≤ x.1 ∧ 0 ≤ x.2 ∧ x.2 * 8388608 + x.1 ≤ 4294967296 }) (fun x => ⟨[(0, some (.c (.im (.int .i64 k)))), (4, some (.c (.im (.int .i64 x.1.1)))), (5, some (.c (.im (.int .i64 x.1.2))))], [], 0⟩) (fun x => x.1.1.toNat) ⟨(m, 0), by simp only []; omega⟩ ⟨[], [], by ((simp only [go_sem, eq_self, MvRb, MvRn, MvRt, List.nodup_cons, List.nodup_nil, ↓reduceIte, Nat.reduceEqDiff, Nat.reduceLT, Nat.reduceLeDiff, reduceCtorEq, List.forall_mem_nil, Nat.zero_le, false_implies, List.mem_singleton, hm]) <;> (try (simp -dsimp only [go_sem, eq_self, MvRb, MvRn, MvRt, List.nodup_cons, List.nodup_nil, ↓reduceIte, Nat.reduceEqDiff, Nat.reduceLT, Nat.reduceLeDiff, reduceCtorEq, List.forall_mem_nil, Nat.zero_le, false_implies, List.mem_singleton, hm]))) <;> simp <;> exact hm⟩ (fun ⟨⟨n, e⟩, q1, q2, q3⟩ => ?_)
 simp only at q1 q2 q3 ⊢
 by_cases hn : 16777216 ≤ n
 · have hn' := eq_true hn
   have w1 : IntKind.i64.wrap (n - 8388608) = n - 8388608 := zAi (by omega) (by omega)
   have w2 : IntKind.i64.wrap (e + 1) = e + 1 := zAi (by omega) (by omega)
   try simp -dsimp (maxSteps := 1000000) only [go_sem, List.forall_mem_nil, ↓reduceIte, Nat.reduceEqDiff, Nat.reduceLT, Nat.reduceLeDiff, Nat.reduceAdd, Nat.reduceMul, reduceCtorEq, Tryz.f136, hn', w1, w2]
   exact ⟨⟨(n - 8388608, e + 1), by simp only []; omega⟩, by simp only []; omega, [], [], by (simp only [go_sem, eq_self, MvRb, MvRn, MvRt, List.nodup_cons, List.nodup_nil, ↓reduceIte, Nat.reduceEqDiff, Nat.reduceLT, Nat.reduceLeDiff, reduceCtorEq, List.forall_mem_nil, Nat.zero_le, false_implies, List.mem_singleton]) <;> simp⟩
 have hn' := eq_false hn
 obtain ⟨y0, hy0⟩ : ∃ y, FloatKind.f64.nearest n = y := ⟨_, rfl⟩
 try simp -dsimp (maxSteps := 1000000) only [go_sem, List.forall_mem_nil, ↓reduceIte, Nat.reduceEqDiff, Nat.reduceLT, Nat.reduceLeDiff, Nat.reduceAdd, Nat.reduceMul, reduceCtorEq, Tryz.f136, hn', hy0]
 refine zBh (ι := Nat × { i : Nat // i ≤ 149 }) (fun x => ⟨[(0, some (.c (.im (.int .i64 k)))), (5, some (.c (.im (.int .i64 e)))), (6, some (.c (.im (.flt .f64 x.1)))), (7, some (.c (.im (.int .i64 (x.2.1 : Int)))))], [], 0⟩) (fun x => 149 - x.2.1) (y0, ⟨0, by omega⟩) ⟨[], [], by ((simp only [go_sem, eq_self, MvRb, MvRn, MvRt, List.nodup_cons, List.nodup_nil, ↓reduceIte, Nat.reduceEqDiff, Nat.reduceLT, Nat.reduceLeDiff, reduceCtorEq, List.forall_mem_nil, Nat.zero_le, false_implies, List.mem_singleton]) <;> (try (simp -dsimp only [go_sem, eq_self, MvRb, MvRn, MvRt, List.nodup_cons, List.nodup_nil, ↓reduceIte, Nat.reduceEqDiff, Nat.reduceLT, Nat.reduceLeDiff, reduceCtorEq, List.forall_mem_nil, Nat.zero_le, false_implies, List.mem_singleton]))) <;> simp⟩ (fun ⟨y, ⟨i, hi⟩⟩ => ?_)
 simp only
 by_cases hi' : i < 149
 · have hI : ((i : Int) < 149) = True := eq_true (by omega)
   have w1 : IntKind.i64.wrap ((i : Int) + 1) = (i : Int) + 1 := zAi (by omega) (by omega)
   try simp -dsimp (maxSteps := 1000000) only [go_sem, List.forall_mem_nil, ↓reduceIte, Nat.reduceEqDiff, Nat.reduceLT, Nat.reduceLeDiff, Nat.reduceAdd, Nat.reduceMul, reduceCtorEq, Tryz.f136, hI, w1]
   exact ⟨(fop .quo .f64 y 4611686018427387904, ⟨i + 1, by omega⟩), by simp only []; omega, [], [], by ((simp only [go_sem, eq_self, MvRb, MvRn, MvRt, List.nodup_cons, List.nodup_nil, ↓reduceIte, Nat.reduceEqDiff, Nat.reduceLT, Nat.reduceLeDiff, reduceCtorEq, List.forall_mem_nil, Nat.zero_le, false_implies, List.mem_singleton]) <;> (try (simp -dsimp only [go_sem, eq_self, MvRb, MvRn, MvRt, List.nodup_cons, List.nodup_nil, ↓reduceIte, Nat.reduceEqDiff, Nat.reduceLT, Nat.reduceLeDiff, reduceCtorEq, List.forall_mem_nil, Nat.zero_le, false_implies, List.mem_singleton]))) <;> simp⟩
 have hI : ((i : Int) < 149) = False := eq_false (by omega)
 try simp -dsimp (maxSteps := 1000000) only [go_sem, List.forall_mem_nil, ↓reduceIte, Nat.reduceEqDiff, Nat.reduceLT, Nat.reduceLeDiff, Nat.reduceAdd, Nat.reduceMul, reduceCtorEq, Tryz.f136, hI]
 refine zBh (ι := Nat × { e : Int // 0 ≤ e ∧ e ≤ 4294967296 }) (fun x => ⟨[(0, some (.c (.im (.int .i64 k)))), (5, some (.c (.im (.int .i64 x.2.1)))), (6, some (.c (.im (.flt .f64 x.1))))], [], 0⟩) (fun x => x.2.1.toNat) (y, ⟨e, by omega⟩) ⟨[], [], by (simp only [go_sem, eq_self, MvRb, MvRn, MvRt, List.nodup_cons, List.nodup_nil, ↓reduceIte, Nat.reduceEqDiff, Nat.reduceLT, Nat.reduceLeDiff, reduceCtorEq, List.forall_mem_nil, Nat.zero_le, false_implies, List.mem_singleton]) <;> simp⟩ (fun ⟨z, ⟨f, f1, f2⟩⟩ => ?_)
 simp only
 by_cases hf : 0 < f
 · have hF := eq_true hf
   have w1 : IntKind.i64.wrap (f - 1) = f - 1 := zAi (by omega) (by omega)
   try simp -dsimp (maxSteps := 1000000) only [go_sem, List.forall_mem_nil, ↓reduceIte, Nat.reduceEqDiff, Nat.reduceLT, Nat.reduceLeDiff, Nat.reduceAdd, Nat.reduceMul, reduceCtorEq, Tryz.f136, hF, w1]
   exact ⟨(fop .mul .f64 z 4611686018427387904, ⟨f - 1, by omega⟩), by simp only []; omega, [], [], by (simp only [go_sem, eq_self, MvRb, MvRn, MvRt, List.nodup_cons, List.nodup_nil, ↓reduceIte, Nat.reduceEqDiff, Nat.reduceLT, Nat.reduceLeDiff, reduceCtorEq, List.forall_mem_nil, Nat.zero_le, false_implies, List.mem_singleton]) <;> simp⟩
 have hF := eq_false hf
 by_cases hk0 : k < 0
 · have hk' := eq_true hk0
   try simp -dsimp (maxSteps := 1000000) only [go_sem, List.forall_mem_nil, ↓reduceIte, Nat.reduceEqDiff, Nat.reduceLT, Nat.reduceLeDiff, Nat.reduceAdd, Nat.reduceMul, reduceCtorEq, Tryz.f136, hF, hk', cK_narrow]
   intro o
   refine ⟨(⟨_, ?_⟩, _), rfl, rfl⟩
   (first | exact narrow32 _ _ | exact zEw (narrow32 _ _) | exact fop32 _ _ _ | decide)
 · have hk' := eq_false hk0
   try simp -dsimp (maxSteps := 1000000) only [go_sem, List.forall_mem_nil, ↓reduceIte, Nat.reduceEqDiff, Nat.reduceLT, Nat.reduceLeDiff, Nat.reduceAdd, Nat.reduceMul, reduceCtorEq, Tryz.f136, hF, hk', cK_narrow]
   intro o
   refine ⟨(⟨_, ?_⟩, _), rfl, rfl⟩
   (first | exact narrow32 _ _ | exact zEw (narrow32 _ _) | exact fop32 _ _ _ | decide)
set_option maxRecDepth 100000 in
set_option maxHeartbeats 4000000 in
theorem law_l1AnyU : Law Tryz.prog 68 ctNatU := by
 refine zAf (zAc law_l01Once (zAc law_l1OddU (zAc zCi (zAc law_l01Int (zAc law_FromStepsU (zAc law_l1SomeU zAe)))))) hmixA Tryz.func68 rfl rfl (fun ⟨l, h1, h2, a, h, h3, h4⟩ => ⟨okA (fun o => okK (n := 0) okDi), by simp [Tryz.f68], ?_⟩)
 simp only [oNatU, hsK]
 try simp -dsimp (maxSteps := 1000000) only [go_sem, List.forall_mem_nil, ↓reduceIte, Nat.reduceEqDiff, Nat.reduceLT, Nat.reduceLeDiff, Nat.reduceAdd, Nat.reduceMul, reduceCtorEq, Tryz.f68, zGp h1 h2 h3 h4 (n := 8) (by decide) (by decide), oOnce, hsK, ne_once]
 rintro ⟨c1, ⟨⟨a1, k1⟩, b1⟩⟩
 cases c1 with
 | true =>
   try simp -dsimp (maxSteps := 1000000) only [go_sem, List.forall_mem_nil, ↓reduceIte, Nat.reduceEqDiff, Nat.reduceLT, Nat.reduceLeDiff, Nat.reduceAdd, Nat.reduceMul, reduceCtorEq, Tryz.f68, runNatU h1 h2 b1.1 b1.2, oNatU, hsK, ne_onatU]
   rintro ⟨⟨x, hx⟩, ⟨⟨a2, k2⟩, b2⟩⟩
   try simp -dsimp (maxSteps := 1000000) only [go_sem, List.forall_mem_nil, ↓reduceIte, Nat.reduceEqDiff, Nat.reduceLT, Nat.reduceLeDiff, Nat.reduceAdd, Nat.reduceMul, reduceCtorEq, Tryz.f68, hsK]
   exact ⟨(⟨x, hx⟩, ⟨(a2, k2), b2⟩), rfl, rfl⟩
 | false =>
   try simp -dsimp (maxSteps := 1000000) only [go_sem, List.forall_mem_nil, ↓reduceIte, Nat.reduceEqDiff, Nat.reduceLT, Nat.reduceLeDiff, Nat.reduceAdd, Nat.reduceMul, reduceCtorEq, Tryz.f68, zGp h1 h2 b1.1 b1.2 (n := 6) (by decide) (by decide), oOnce, hsK, ne_once]
   rintro ⟨c2, ⟨⟨a2, k2⟩, b2⟩⟩
   cases c2 with
   | false =>
     try simp -dsimp (maxSteps := 1000000) only [go_sem, List.forall_mem_nil, ↓reduceIte, Nat.reduceEqDiff, Nat.reduceLT, Nat.reduceLeDiff, Nat.reduceAdd, Nat.reduceMul, reduceCtorEq, Tryz.f68, runNatU h1 h2 b2.1 b2.2, oNatU, hsK, ne_onatU]
     rintro ⟨⟨x, hx⟩, ⟨⟨a3, k3⟩, b3⟩⟩
     try simp -dsimp (maxSteps := 1000000) only [go_sem, List.forall_mem_nil, ↓reduceIte, Nat.reduceEqDiff, Nat.reduceLT, Nat.reduceLeDiff, Nat.reduceAdd, Nat.reduceMul, reduceCtorEq, Tryz.f68, hsK]
     exact ⟨(⟨x, hx⟩, ⟨(a3, k3), b3⟩), rfl, rfl⟩
   | true =>
     try simp -dsimp (maxSteps := 1000000) only [go_sem, List.forall_mem_nil, ↓reduceIte, Nat.reduceEqDiff, Nat.reduceLT, Nat.reduceLeDiff, Nat.reduceAdd, Nat.reduceMul, reduceCtorEq, Tryz.f68, zAy h1 h2 b2.1 b2.2 (n := 40) (by decide) (by decide), oBelow, hsK, zBd l (n := 40) (by decide)]
     rintro ⟨⟨v, ⟨⟨a3, k3⟩, b3⟩⟩, v1, v2⟩
     simp only at v1 v2
     have w1 : IntKind.i64.wrap (v - 20) = v - 20 := zAi (by omega) (by omega)
     have ri : ct_l01Int.run [.c (.ptr 0 0 0 0), .c (.im (.sl 1 [[.int .i64 0], [.int .i64 8388608], [.int .i64 (-8388608)], [.int .i64 1065353216], [.int .i64 2139095019]]))] [[.t (.im (.sl 1 (rowsB l))), .t (.im (.int .i64 a3)), .t (.im (.int .i64 k3))]] = some (oInt l pick5) := run_l01Int (m := pick5) h1 h2 b3.1 b3.2 (by decide) (by decide)
     try simp -dsimp (maxSteps := 1000000) only [go_sem, List.forall_mem_nil, ↓reduceIte, Nat.reduceEqDiff, Nat.reduceLT, Nat.reduceLeDiff, Nat.reduceAdd, Nat.reduceMul, reduceCtorEq, Tryz.f68, w1, ri, sc_l01Int, oInt, hsK, ne_oint l (m := pick5) (by decide)]
     rintro ⟨⟨u, hu⟩, ⟨⟨a4, k4⟩, b4⟩⟩
     have hur := pick5_rng hu
     have w2 : IntKind.i64.wrap (v - 20 + u) = v - 20 + u := zAi (by omega) (by omega)
     try simp -dsimp (maxSteps := 1000000) only [go_sem, List.forall_mem_nil, ↓reduceIte, Nat.reduceEqDiff, Nat.reduceLT, Nat.reduceLeDiff, Nat.reduceAdd, Nat.reduceMul, reduceCtorEq, Tryz.f68, w1, w2, run_FromStepsU (k := v - 20 + u) (by omega) (by omega), oFSU, rFSU, hsK, ne_FSU]
     rintro ⟨⟨x, hx⟩, ok⟩
     try simp -dsimp (maxSteps := 1000000) only [go_sem, List.forall_mem_nil, ↓reduceIte, Nat.reduceEqDiff, Nat.reduceLT, Nat.reduceLeDiff, Nat.reduceAdd, Nat.reduceMul, reduceCtorEq, Tryz.f68, rFSU, hsK]
     exact ⟨(⟨x, hx⟩, ⟨(a4, k4), b4⟩), rfl, rfl⟩
def oPtU (l : List Int) : Outs := .any (P32 × SK l) (fun q => { val := .c (.im (.cpx .f32 q.1.1.1 q.1.1.2)), places := hsK l q.2.1.1 q.2.1.2 })
theorem ne_optU (l : List Int) : Nonempty (P32 × SK l) = True := by simp only [eq_iff_iff, iff_true]; exact ⟨(⟨(0, 0), by decide⟩, ⟨(0, 0), by simp⟩)⟩
noncomputable def ct_l2AnyU : Ct := fam false (fun x : AKn => ([.c (.ptr 0 0 0 0)], hsK x.l x.a x.h)) (fun x => oPtU x.l)
theorem run_l2AnyU {l : List Int} {a h : Int} (h1 : l.length ≤ 1048576) (h2 : ∀ b ∈ l, 0 ≤ b ∧ b < 256) (h3 : 0 ≤ a) (h4 : a ≤ l.length) : ct_l2AnyU.run [.c (.ptr 0 0 0 0)] [[.t (.im (.sl 1 (rowsB l))), .t (.im (.int .i64 a)), .t (.im (.int .i64 h))]] = some (oPtU l) := by
 refine zAd (args := fun x : AKn => ([D.c (.ptr 0 0 0 0)], hsK x.l x.a x.h)) (fun x y h => ?_) ⟨l, h1, h2, a, h, h3, h4⟩
 simp only [Prod.mk.injEq, true_and] at h
 exact zGh (zGg h)
set_option maxRecDepth 100000 in
set_option maxHeartbeats 4000000 in
theorem law_l2AnyU : Law Tryz.prog 177 ct_l2AnyU := by
 refine zAf (zAc law_l1AnyU zAe) hmixA Tryz.func177 rfl rfl (fun ⟨l, h1, h2, a, h, h3, h4⟩ => ⟨okA (fun o => okK (n := 0) okDi), by simp [Tryz.f177], ?_⟩)
 simp only [oPtU, hsK]
 try simp -dsimp (maxSteps := 1000000) only [go_sem, List.forall_mem_nil, ↓reduceIte, Nat.reduceEqDiff, Nat.reduceLT, Nat.reduceLeDiff, Nat.reduceAdd, Nat.reduceMul, reduceCtorEq, Tryz.f177, runNatU h1 h2 h3 h4, oNatU, hsK, ne_onatU]
 rintro ⟨⟨x, hx⟩, ⟨⟨a1, k1⟩, b1⟩⟩
 try simp -dsimp (maxSteps := 1000000) only [go_sem, List.forall_mem_nil, ↓reduceIte, Nat.reduceEqDiff, Nat.reduceLT, Nat.reduceLeDiff, Nat.reduceAdd, Nat.reduceMul, reduceCtorEq, Tryz.f177, runNatU h1 h2 b1.1 b1.2, oNatU, hsK, ne_onatU]
 rintro ⟨⟨y, hy⟩, ⟨⟨a2, k2⟩, b2⟩⟩
 try simp -dsimp (maxSteps := 1000000) only [go_sem, List.forall_mem_nil, ↓reduceIte, Nat.reduceEqDiff, Nat.reduceLT, Nat.reduceLeDiff, Nat.reduceAdd, Nat.reduceMul, reduceCtorEq, Tryz.f177, hsK]
 exact ⟨(⟨(x, y), hx, hy⟩, ⟨(a2, k2), b2⟩), rfl, rfl, rfl⟩
noncomputable def ct_l5TurnU : Ct := fam false (fun x : AKn => ([.c (.ptr 0 0 0 0)], hsK x.l x.a x.h)) (fun x => oPtU x.l)
theorem run_l5TurnU {l : List Int} {a h : Int} (h1 : l.length ≤ 1048576) (h2 : ∀ b ∈ l, 0 ≤ b ∧ b < 256) (h3 : 0 ≤ a) (h4 : a ≤ l.length) : ct_l5TurnU.run [.c (.ptr 0 0 0 0)] [[.t (.im (.sl 1 (rowsB l))), .t (.im (.int .i64 a)), .t (.im (.int .i64 h))]] = some (oPtU l) := by
 refine zAd (args := fun x : AKn => ([D.c (.ptr 0 0 0 0)], hsK x.l x.a x.h)) (fun x y h => ?_) ⟨l, h1, h2, a, h, h3, h4⟩
 simp only [Prod.mk.injEq, true_and] at h
 exact zGh (zGg h)
set_option maxRecDepth 100000 in
set_option maxHeartbeats 8000000 in
theorem law_l5TurnU : Law Tryz.prog 115 ct_l5TurnU := by
 refine zAf (zAc zCi (zAc law_l2AnyU zAe)) hmixA Tryz.func115 rfl rfl (fun ⟨l, h1, h2, a, h, h3, h4⟩ => ⟨okA (fun o => okK (n := 0) okDi), by simp [Tryz.f115], ?_⟩)
 simp only [oPtU, hsK]
 try simp -dsimp (maxSteps := 1000000) only [go_sem, List.forall_mem_nil, ↓reduceIte, Nat.reduceEqDiff, Nat.reduceLT, Nat.reduceLeDiff, Nat.reduceAdd, Nat.reduceMul, reduceCtorEq, Tryz.f115, zAy h1 h2 h3 h4 (n := 6) (by decide) (by decide), oBelow, hsK, zBd l (n := 6) (by decide)]
 rintro ⟨⟨v, ⟨⟨a1, k1⟩, b1⟩⟩, v1, v2⟩
 by_cases e0 : v = 0
 · have e0' := eq_true e0
   try simp -dsimp (maxSteps := 1000000) only [go_sem, List.forall_mem_nil, ↓reduceIte, Nat.reduceEqDiff, Nat.reduceLT, Nat.reduceLeDiff, Nat.reduceAdd, Nat.reduceMul, reduceCtorEq, Tryz.f115, e0', hsK]
   refine ⟨(⟨(_, _), ?_, ?_⟩, ⟨(a1, k1), b1⟩), rfl, rfl, rfl⟩ <;> first | assumption | exact fop32 _ _ _ | exact nr32 _ | decide
 have e0' := eq_false e0
 by_cases e1 : v = 1
 · have e1' := eq_true e1
   try simp -dsimp (maxSteps := 1000000) only [go_sem, List.forall_mem_nil, ↓reduceIte, Nat.reduceEqDiff, Nat.reduceLT, Nat.reduceLeDiff, Nat.reduceAdd, Nat.reduceMul, reduceCtorEq, Tryz.f115, e0', e1', hsK]
   refine ⟨(⟨(_, _), ?_, ?_⟩, ⟨(a1, k1), b1⟩), rfl, rfl, rfl⟩ <;> first | assumption | exact fop32 _ _ _ | exact nr32 _ | decide
 have e1' := eq_false e1
 by_cases e2 : v = 2
 · have e2' := eq_true e2
   try simp -dsimp (maxSteps := 1000000) only [go_sem, List.forall_mem_nil, ↓reduceIte, Nat.reduceEqDiff, Nat.reduceLT, Nat.reduceLeDiff, Nat.reduceAdd, Nat.reduceMul, reduceCtorEq, Tryz.f115, e0', e1', e2', hsK]
   refine ⟨(⟨(_, _), ?_, ?_⟩, ⟨(a1, k1), b1⟩), rfl, rfl, rfl⟩ <;> first | assumption | exact fop32 _ _ _ | exact nr32 _ | decide
 have e2' := eq_false e2
 by_cases e3 : v = 3
 · have e3' := eq_true e3
   try simp -dsimp (maxSteps := 1000000) only [go_sem, List.forall_mem_nil, ↓reduceIte, Nat.reduceEqDiff, Nat.reduceLT, Nat.reduceLeDiff, Nat.reduceAdd, Nat.reduceMul, reduceCtorEq, Tryz.f115, e0', e1', e2', e3', run_l2AnyU h1 h2 b1.1 b1.2, oPtU, ne_optU, hsK]
   rintro ⟨⟨⟨x, y⟩, hx, hy⟩, ⟨⟨a2, k2⟩, b2⟩⟩
   try simp -dsimp (maxSteps := 1000000) only [go_sem, List.forall_mem_nil, ↓reduceIte, Nat.reduceEqDiff, Nat.reduceLT, Nat.reduceLeDiff, Nat.reduceAdd, Nat.reduceMul, reduceCtorEq, Tryz.f115, hsK]
   refine ⟨(⟨(_, _), ?_, ?_⟩, ⟨(a2, k2), b2⟩), rfl, rfl, rfl⟩ <;> first | assumption | exact fop32 _ _ _ | exact nr32 _ | decide
 have e3' := eq_false e3
 try simp -dsimp (maxSteps := 1000000) only [go_sem, List.forall_mem_nil, ↓reduceIte, Nat.reduceEqDiff, Nat.reduceLT, Nat.reduceLeDiff, Nat.reduceAdd, Nat.reduceMul, reduceCtorEq, Tryz.f115, e0', e1', e2', e3', zAy h1 h2 b1.1 b1.2 (n := 9) (by decide) (by decide), oBelow, hsK, zBd l (n := 9) (by decide)]
 rintro ⟨⟨u, ⟨⟨a2, k2⟩, b2⟩⟩, u1, u2⟩
 try simp -dsimp (maxSteps := 1000000) only [go_sem, List.forall_mem_nil, ↓reduceIte, Nat.reduceEqDiff, Nat.reduceLT, Nat.reduceLeDiff, Nat.reduceAdd, Nat.reduceMul, reduceCtorEq, Tryz.f115, zAy h1 h2 b2.1 b2.2 (n := 9) (by decide) (by decide), oBelow, hsK, zBd l (n := 9) (by decide)]
 rintro ⟨⟨w, ⟨⟨a3, k3⟩, b3⟩⟩, w1, w2⟩
 try simp -dsimp (maxSteps := 1000000) only [go_sem, List.forall_mem_nil, ↓reduceIte, Nat.reduceEqDiff, Nat.reduceLT, Nat.reduceLeDiff, Nat.reduceAdd, Nat.reduceMul, reduceCtorEq, Tryz.f115, hsK]
 refine ⟨(⟨(_, _), ?_, ?_⟩, ⟨(a3, k3), b3⟩), rfl, rfl, rfl⟩ <;> first | assumption | exact fop32 _ _ _ | exact nr32 _ | decide
def oFlU : Outs := .any N32 (fun q => { val := .c (.im (.flt .f32 q.1)) })
theorem ne_n32 : Nonempty N32 = True := by simp only [eq_iff_iff, iff_true]; exact ⟨⟨0, by decide⟩⟩
noncomputable def zFc : Ct := fam true (fun x : ABw => ([.c (.im (.sl 1 (rowsB x.l)))], [])) (fun _ => oFlU)
theorem run_MakeFloatU {l : List Int} (h1 : l.length ≤ 1048576) (h2 : ∀ b ∈ l, 0 ≤ b ∧ b < 256) : zFc.run [.c (.im (.sl 1 (rowsB l)))] [] = some oFlU :=
 zDw (args := fun x : ABw => ([D.c (.im (.sl 1 (rowsB x.l)))], [])) (fun _ _ _ => rfl) ⟨l, h1, h2⟩
theorem zCd : (zFc.sc = true) = True := by simp [zFc, fam]
set_option maxRecDepth 100000 in
set_option maxHeartbeats 8000000 in
theorem law_MakeFloatU : Law Tryz.prog 21 zFc := by
 refine zAf (zAc law_l01New (zAc law_l1AnyU zAe)) hmixA Tryz.func21 rfl rfl (fun ⟨l, h1, h2⟩ => ⟨okA (fun o => okR_im rfl), by simp [Tryz.f21], ?_⟩)
 simp only [oFlU]
 try simp -dsimp (maxSteps := 1000000) only [go_sem, List.forall_mem_nil, ↓reduceIte, Nat.reduceEqDiff, Nat.reduceLT, Nat.reduceLeDiff, Nat.reduceAdd, Nat.reduceMul, reduceCtorEq, Tryz.f21, run_l01New h1 h2, oKNew, ne_int]
 intro h
 try simp -dsimp (maxSteps := 1000000) only [go_sem, List.forall_mem_nil, ↓reduceIte, Nat.reduceEqDiff, Nat.reduceLT, Nat.reduceLeDiff, Nat.reduceAdd, Nat.reduceMul, reduceCtorEq, Tryz.f21, runNatU h1 h2 (a := 0) (h := h) (by omega) (by omega), oNatU, ne_onatU, hsK]
 rintro ⟨⟨x, hx⟩, ⟨⟨a1, g1⟩, b1⟩⟩
 try simp -dsimp (maxSteps := 1000000) only [go_sem, List.forall_mem_nil, ↓reduceIte, Nat.reduceEqDiff, Nat.reduceLT, Nat.reduceLeDiff, Nat.reduceAdd, Nat.reduceMul, reduceCtorEq, Tryz.f21, hsK]
 exact ⟨⟨x, hx⟩, rfl⟩
def oPnU : Outs := .any P32 (fun q => { val := .c (.im (.cpx .f32 q.1.1 q.1.2)) })
theorem ne_p32 : Nonempty P32 = True := by simp only [eq_iff_iff, iff_true]; exact ⟨⟨(0, 0), by decide⟩⟩
noncomputable def zFb : Ct := fam true (fun x : ABw => ([.c (.im (.sl 1 (rowsB x.l)))], [])) (fun _ => oPnU)
theorem run_MakePointU {l : List Int} (h1 : l.length ≤ 1048576) (h2 : ∀ b ∈ l, 0 ≤ b ∧ b < 256) : zFb.run [.c (.im (.sl 1 (rowsB l)))] [] = some oPnU :=
 zDw (args := fun x : ABw => ([D.c (.im (.sl 1 (rowsB x.l)))], [])) (fun _ _ _ => rfl) ⟨l, h1, h2⟩
theorem zEu : (zFb.sc = true) = True := by simp [zFb, fam]
set_option maxRecDepth 100000 in
set_option maxHeartbeats 8000000 in
theorem law_MakePointU : Law Tryz.prog 16 zFb := by
 refine zAf (zAc law_l01New (zAc law_l2Small zAe)) hmixA Tryz.func16 rfl rfl (fun ⟨l, h1, h2⟩ => ⟨okA (fun o => okR_im rfl), by simp [Tryz.f16], ?_⟩)
 simp only [oPnU]
 try simp -dsimp (maxSteps := 1000000) only [go_sem, List.forall_mem_nil, ↓reduceIte, Nat.reduceEqDiff, Nat.reduceLT, Nat.reduceLeDiff, Nat.reduceAdd, Nat.reduceMul, reduceCtorEq, Tryz.f16, run_l01New h1 h2, oKNew, ne_int]
 intro h
 try simp -dsimp (maxSteps := 1000000) only [go_sem, List.forall_mem_nil, ↓reduceIte, Nat.reduceEqDiff, Nat.reduceLT, Nat.reduceLeDiff, Nat.reduceAdd, Nat.reduceMul, reduceCtorEq, Tryz.f16, zGo h1 h2 (a := 0) (h := h) (by omega) (by omega), oSmall, ne_small, hsK]
 rintro ⟨⟨⟨x, y⟩, ⟨⟨a1, g1⟩, b1⟩⟩, _, _, _, _⟩
 have hx := wI32 x
 have hy := wI32 y
 generalize wI x = X at hx
 generalize wI y = Y at hy
 try simp -dsimp (maxSteps := 1000000) only [go_sem, List.forall_mem_nil, ↓reduceIte, Nat.reduceEqDiff, Nat.reduceLT, Nat.reduceLeDiff, Nat.reduceAdd, Nat.reduceMul, reduceCtorEq, Tryz.f16, hsK]
 exact ⟨⟨(X, Y), hx, hy⟩, rfl, rfl⟩
end Go.SX
