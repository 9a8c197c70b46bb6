/-
  math.Ldexp at whole numbers, math.NaN, math.Inf, strings.CutPrefix at one byte: the walks.
  strings.CutPrefix at one byte; impl.ParseSingle, singleOf.
  spec.l1Split: a text cut at each byte.
  spec.l1Read: an integer of at most 17 digits.
  impl.ParseSingle, singleOf.
  Double precision: halves, doubles, whole parts, comparisons of m * 2 ^ e.
  spec: l1Number at integers, FormatSingle at every word.
  spec: l4Zero and IsRing at every word.
  spec: l5Unused and IsModule at any module.
  spec.l1Read, at any text.
  Readers of integers on an integer's text; doubles with a sign: plain words.
  Draws whose words are below 2^32: l1Odd, l1Some, FromSteps, l1Any, l2Any, l5Turn, MakeFloat, MakePoint.
  No condition.
-/
import Derived.Test.YtfmpjhjnpeheeaaGreatDoorPkH
set_option maxRecDepth 100000
set_option maxHeartbeats 16000000
set_option linter.unusedVariables false
set_option linter.unusedSimpArgs false
namespace Go.SX
open Go Go.Proofs Ieee
abbrev M24 := { m : Nat // 0 < m ∧ m < 16777216 }
theorem M24.dr (m : M24) : Dr m.1 0 := ⟨m.2.1,by have := m.2.2; omega,by omega,by omega⟩
theorem zSd1 {m n : Nat} (hm : Dr m 0) (hn : Dr n 0) (h : dW m 0 = dW n 0) : m = n := by
 have a := zJm hm
 rw [h,zJm hn] at a
 injection a with _ a1 a2
 have s1 := SV.shl m 0 (52 - m.log2)
 have s2 := SV.shl n 0 (52 - n.log2)
 rw [← a1,← a2] at s1
 exact (s1.trans s2.symm).eq
noncomputable def zMn1 : Ct := fam true (fun m : M24 => ([.c (.im (.flt .f64 (dW m.1 0)))],[])) (fun m => .one { val := .c (.im (.flt .f64 (dW m.1 0))) })
theorem zEe1 (m : M24) : zMn1.run [.c (.im (.flt .f64 (dW m.1 0)))] [] = some (.one { val := .c (.im (.flt .f64 (dW m.1 0))) }) := by
 refine zFj (args := fun m : M24 => ([D.c (.im (.flt .f64 (dW m.1 0)))],[])) ?_ m
 intro a b h
 simp only [Prod.mk.injEq,List.cons.injEq,D.c.injEq,C.im.injEq,I.flt.injEq,true_and,and_true] at h
 rw [h]
theorem andNot63 {x : Nat} (h : x < 9223372036854775808) : bitsI .andNot .u64 (x : Int) 9223372036854775808 = (x : Int) := by
 have h1 : (BitVec.ofInt 64 (x : Int) &&& ~~~BitVec.ofInt 64 9223372036854775808).toNat = x := by
   rw [BitVec.toNat_and]
   have e1 : (BitVec.ofInt 64 (x : Int)).toNat = x := by simp; omega
   have e2 : (~~~BitVec.ofInt 64 9223372036854775808).toNat = 2 ^ 63 - 1 := by decide
   rw [e1,e2,Nat.and_two_pow_sub_one_eq_mod]
   omega
 show IntKind.u64.wrap _ = _
 rw [show (IntKind.u64.bits) = 64 from rfl,h1]
 show ((x : Int) % 18446744073709551616) = _
 omega
theorem zGr1 : Law Tryz.prog 204 zMn1 := by
 refine zAi (zDa zQo (zDa zEf zAf)) hmixA Tryz.func204 rfl rfl (fun m => ⟨zAv rfl,by simp [Tryz.f204],?_⟩)
 simp only
 have hn := zBe1 m.dr
 have hlt := zSc1 m.dr
 generalize dW m.1 0 = y at *
 try simp -dsimp (maxSteps := 1000000) only [go_sem,↓reduceIte,yab,Tryz.f204,zQf hn,andNot63 hlt,zCx]
noncomputable def zXk : Ct := fam true (fun m : M24 => ([.c (.im (.flt .f64 (dW m.1 0))),.c (.im (.int .i64 0))],[])) (fun m => .one { val := .c (.im (.bool false)) })
theorem zCf1 (m : M24) : zXk.run [.c (.im (.flt .f64 (dW m.1 0))),.c (.im (.int .i64 0))] [] = some (.one { val := .c (.im (.bool false)) }) :=
 zFj (args := fun m : M24 => ([D.c (.im (.flt .f64 (dW m.1 0))),.c (.im (.int .i64 0))],[])) (fun _ _ _ => rfl) m
theorem zCy1 : Law Tryz.prog 144 zXk := by
 refine zAi (zAc zGr1 zAf) hmixA Tryz.func144 rfl rfl (fun m => ⟨zAv rfl,by simp [Tryz.f144],?_⟩)
 simp only
 have hm := zSb1 m.dr
 have ra := zEe1 m
 generalize dW m.1 0 = y at *
 try simp -dsimp (maxSteps := 1000000) only [go_sem,↓reduceIte,yab,Tryz.f144,ra,hm]
noncomputable def zXj : Ct := fam true (fun m : M24 => ([.c (.im (.flt .f64 (dW m.1 0)))],[])) (fun m => .one { val := .c (.im (.bool false)) })
theorem zCe1 (m : M24) : zXj.run [.c (.im (.flt .f64 (dW m.1 0)))] [] = some (.one { val := .c (.im (.bool false)) }) :=
 zFj (args := fun m : M24 => ([D.c (.im (.flt .f64 (dW m.1 0)))],[])) (fun _ _ _ => rfl) m
theorem zCx1 : Law Tryz.prog 301 zXj := by
 refine zAi zAf hmixA Tryz.func301 rfl rfl (fun m => ⟨zAv rfl,by simp [Tryz.f301],?_⟩)
 simp only
 have hm := zMl1 m.dr
 generalize dW m.1 0 = y at *
 try simp -dsimp (maxSteps := 1000000) only [go_sem,↓reduceIte,yab,Tryz.f301,hm]
def oNorm (m : Nat) : Outs := .one { val := .tup [.c (.im (.flt .f64 (dW m 0))),.c (.im (.int .i64 0))] }
noncomputable def zLw : Ct := fam true (fun m : M24 => ([.c (.im (.flt .f64 (dW m.1 0)))],[])) (fun m => oNorm m.1)
theorem zRo (m : M24) : zLw.run [.c (.im (.flt .f64 (dW m.1 0)))] [] = some (.one { val := .tup [.c (.im (.flt .f64 (dW m.1 0))),.c (.im (.int .i64 0))] }) := by
 refine zFj (args := fun m : M24 => ([D.c (.im (.flt .f64 (dW m.1 0)))],[])) (out := fun m => oNorm m.1) ?_ m
 intro a b h
 simp only [Prod.mk.injEq,List.cons.injEq,D.c.injEq,C.im.injEq,I.flt.injEq,true_and,and_true] at h
 simp only [oNorm,h]
theorem zSk : Law Tryz.prog 302 zLw := by
 refine zAi (zAc zGr1 zAf) hmixA Tryz.func302 rfl rfl (fun m => ⟨okO ⟨.tup _ (by intro d hd; simp at hd; rcases hd with rfl | rfl <;> exact .inl ⟨_,rfl,zFn rfl⟩),by simp,by simp⟩,by simp [Tryz.f302],?_⟩)
 simp only [oNorm]
 have hm := zLf1 m.dr
 have ra := zEe1 m
 generalize dW m.1 0 = y at *
 try simp -dsimp (maxSteps := 1000000) only [go_sem,↓reduceIte,yab,Tryz.f302,ra,hm]
abbrev ALd := { x : M24 × Int // -200 ≤ x.2 ∧ x.2 ≤ 200 }
theorem ALd.dr (x : ALd) : Dr x.1.1.1 x.1.2 := ⟨x.1.1.2.1,by have := x.1.1.2.2; omega,by have := x.2.1; omega,by have := x.2.2; omega⟩
noncomputable def zBg1 : Ct := fam true (fun x : ALd => ([.c (.im (.flt .f64 (dW x.1.1.1 0))),.c (.im (.int .i64 x.1.2))],[])) (fun x => .one { val := .c (.im (.flt .f64 (dW x.1.1.1 x.1.2))) })
theorem zVs : ∀ a b : ALd,([D.c (.im (.flt .f64 (dW a.1.1.1 0))),.c (.im (.int .i64 a.1.2))],([] : List (List B))) = ([D.c (.im (.flt .f64 (dW b.1.1.1 0))),.c (.im (.int .i64 b.1.2))],[]) → a = b := by
 rintro ⟨⟨m,e⟩,_⟩ ⟨⟨n,j⟩,_⟩ h
 simp only [Prod.mk.injEq,List.cons.injEq,D.c.injEq,C.im.injEq,I.flt.injEq,I.int.injEq,true_and,and_true] at h
 have := zSd1 m.dr n.dr h.1
 exact Subtype.ext (Prod.ext (Subtype.ext this) h.2)
theorem zEc1 {m : Nat} {e : Int} (h0 : 0 < m) (h : m < 16777216) (h1 : -200 ≤ e) (h2 : e ≤ 200) : zBg1.run [.c (.im (.flt .f64 (dW m 0))),.c (.im (.int .i64 e))] [] = some (.one { val := .c (.im (.flt .f64 (dW m e))) }) :=
 zAd (args := fun x : ALd => ([D.c (.im (.flt .f64 (dW x.1.1.1 0))),.c (.im (.int .i64 x.1.2))],[])) zVs ⟨(⟨m,h0,h⟩,e),h1,h2⟩
theorem zGi1 : Law Tryz.prog 277 zBg1 := by
 refine zAi (zAc zCy1 (zAc zCx1 (zAc zSk (zDa zQo (zDa zEf zAf))))) hmixA Tryz.func277 rfl rfl (fun ⟨⟨m,e⟩,h1,h2⟩ => ⟨zAv rfl,by simp [Tryz.f277],?_⟩)
 simp only at h1 h2 ⊢
 have hd := m.dr
 have hde : Dr m.1 e := ⟨m.2.1,by have := m.2.2; omega,by omega,by omega⟩
 have hL : m.1.log2 ≤ 23 := log2_lt m.2.2
 have r1 := zCf1 m
 have r2 := zCe1 m
 have r3 := zRo m
 have r4 := zQf (zBe1 hd)
 have z0 := zSe1 hd
 have hsh := shr52 hd
 have hone := zEy1 hde
 have han := andNot52 (zSc1 hd)
 obtain ⟨x1,g1,g2,_⟩ := zCi hd
 obtain ⟨x2,_,_,_⟩ := zCi hde
 obtain ⟨k,hk⟩ : ∃ k : Nat,e + (m.1.log2 : Int) + 1023 = k := ⟨(e + (m.1.log2 : Int) + 1023).toNat,by omega⟩
 have hfin : k * 4503599627370496 + dW m.1 0 % 4503599627370496 = dW m.1 e := by
   rw [x1,x2]
   generalize m.1 * 2 ^ (52 - m.1.log2) = M at g1 g2
   omega
 have hor := or52 (a := dW m.1 0 % 4503599627370496) (k := k) (Nat.mod_lt _ (by omega)) (by omega)
 rw [hfin] at hor
 have hfr := zCx (dW m.1 e)
 rw [show (m.1.log2 : Int) + 0 + 1023 = (m.1.log2 : Int) + 1023 by omega] at hsh
 have w1 : IntKind.i64.wrap (e + 0) = e := by rw [zAg (by omega) (by omega)]; omega
 have w2 : IntKind.i64.wrap ((m.1.log2 : Int) + 1023) = (m.1.log2 : Int) + 1023 := zAg (by omega) (by omega)
 have w3 := and11 (a := (m.1.log2 : Int) + 1023) (by omega) (by omega)
 have w4 : IntKind.i64.wrap ((m.1.log2 : Int) + 1023 - 1023) = (m.1.log2 : Int) := by rw [zAg (by omega) (by omega)]; omega
 have w5 : IntKind.i64.wrap (e + (m.1.log2 : Int)) = e + (m.1.log2 : Int) := zAg (by omega) (by omega)
 have c1 : (e + (m.1.log2 : Int) < -1075) = False := eq_false (by omega)
 have c2 : (1023 < e + (m.1.log2 : Int)) = False := eq_false (by omega)
 have c3 : (e + (m.1.log2 : Int) < -1022) = False := eq_false (by omega)
 have w6 : IntKind.i64.wrap (e + (m.1.log2 : Int) + 1023) = (k : Int) := by rw [hk,zAg (by omega) (by omega)]
 have w7 : IntKind.u64.wrap (k : Int) = (k : Int) := by
   show ((k : Int) % 18446744073709551616) = _
   omega
 have w8 : IntKind.u64.wrap ((k : Int) * 2 ^ min (Int.toNat 52) 64) = ((k * 4503599627370496 : Nat) : Int) := by
   show ((k : Int) * 2 ^ 52 % 18446744073709551616) = _
   have : (2 : Int) ^ 52 = 4503599627370496 := by decide
   rw [this]
   omega
 clear x1 x2 g1 g2 hfin
 generalize (m.1.log2 : Int) = L at *
 generalize dW m.1 e = R at *
 generalize dW m.1 0 = y at *
 generalize hX : y % 4503599627370496 = X at *
 try simp -dsimp (maxSteps := 1000000) only [go_sem,↓reduceIte,yab,Tryz.f277,z0,r1,r2,r3,r4,hsh,w1,w2,w3,w4,w5,c1,c2,c3,han,hX,w6,w7,w8,hor,hfr,hone,Int.reduceLT,Int.reduceNeg]
noncomputable def zBm1 : Ct := fam true (fun x : ALd => ([.c (.im (.flt .f64 (dW x.1.1.1 0))),.c (.im (.int .i64 x.1.2))],[])) (fun x => .one { val := .c (.im (.flt .f64 (dW x.1.1.1 x.1.2))) })
theorem zVc {m : Nat} {e : Int} (h0 : 0 < m) (h : m < 16777216) (h1 : -200 ≤ e) (h2 : e ≤ 200) : zBm1.run [.c (.im (.flt .f64 (dW m 0))),.c (.im (.int .i64 e))] [] = some (.one { val := .c (.im (.flt .f64 (dW m e))) }) :=
 zAd (args := fun x : ALd => ([D.c (.im (.flt .f64 (dW x.1.1.1 0))),.c (.im (.int .i64 x.1.2))],[])) zVs ⟨(⟨m,h0,h⟩,e),h1,h2⟩
theorem zGo1 : Law Tryz.prog 242 zBm1 := by
 refine zAi (zAc zGi1 zAf) hmixA Tryz.func242 rfl rfl (fun ⟨⟨m,e⟩,h1,h2⟩ => ⟨zAv rfl,by simp [Tryz.f242],?_⟩)
 simp only at h1 h2 ⊢
 have r := zEc1 m.2.1 m.2.2 h1 h2
 generalize dW m.1 e = R at *
 generalize dW m.1 0 = y at *
 try simp -dsimp (maxSteps := 1000000) only [go_sem,↓reduceIte,yab,Tryz.f242,r]
noncomputable def zHs1 : Ct := fam true (fun _ : Unit => ([],[])) (fun _ => .one { val := .c (.im (.flt .f64 9221120237041090561)) })
theorem zJj1 : zHs1.run [] [] = some (.one { val := .c (.im (.flt .f64 9221120237041090561)) }) := zAd (args := fun _ : Unit => (([] : List D),[])) (fun _ _ _ => rfl) ()
theorem zKm1 : Law Tryz.prog 183 zHs1 := by
 refine zAi (zDa zEf zAf) hmixA Tryz.func183 rfl rfl (fun _ => ⟨zAv rfl,by simp [Tryz.f183],?_⟩)
 simp only
 have r : zDq.run [.c (.im (.int .u64 9221120237041090561))] [] = some (.one { val := .c (.im (.flt .f64 9221120237041090561)) }) := zCx 9221120237041090561
 try simp -dsimp (maxSteps := 1000000) only [go_sem,↓reduceIte,yab,Tryz.f183,r]
noncomputable def zZi : Ct := fam true (fun b : Bool => ([.c (.im (.int .i64 (if b then 1 else -1)))],[])) (fun b => .one { val := .c (.im (.flt .f64 (if b then 9218868437227405312 else 18442240474082181120))) })
theorem zAh1 : ∀ a b : Bool,([D.c (.im (.int .i64 (if a then 1 else -1)))],([] : List (List B))) = ([D.c (.im (.int .i64 (if b then 1 else -1)))],[]) → a = b := by
 intro a b h
 simp only [Prod.mk.injEq,List.cons.injEq,D.c.injEq,C.im.injEq,I.int.injEq,true_and,and_true] at h
 cases a <;> cases b <;> simp at h ⊢
theorem zEb1 : zZi.run [.c (.im (.int .i64 1))] [] = some (.one { val := .c (.im (.flt .f64 9218868437227405312)) }) := zAd (args := fun b : Bool => ([D.c (.im (.int .i64 (if b then 1 else -1)))],[])) zAh1 true
theorem zEa1 : zZi.run [.c (.im (.int .i64 (-1)))] [] = some (.one { val := .c (.im (.flt .f64 18442240474082181120)) }) := zAd (args := fun b : Bool => ([D.c (.im (.int .i64 (if b then 1 else -1)))],[])) zAh1 false
theorem zKn1 : Law Tryz.prog 184 zZi := by
 refine zAi (zDa zEf zAf) hmixA Tryz.func184 rfl rfl (fun b => ⟨zAv rfl,by simp [Tryz.f184],?_⟩)
 have r1 : zDq.run [.c (.im (.int .u64 9218868437227405312))] [] = some (.one { val := .c (.im (.flt .f64 9218868437227405312)) }) := zCx 9218868437227405312
 have r2 : zDq.run [.c (.im (.int .u64 18442240474082181120))] [] = some (.one { val := .c (.im (.flt .f64 18442240474082181120)) }) := zCx 18442240474082181120
 cases b with
 | true =>
   simp only [yal]
   try simp -dsimp (maxSteps := 1000000) only [go_sem,↓reduceIte,yab,Tryz.f184,r1,Int.reduceLE]
 | false =>
   simp only [yaj,yak]
   try simp -dsimp (maxSteps := 1000000) only [go_sem,↓reduceIte,yab,Tryz.f184,r2,Int.reduceLE,Int.reduceNeg]
end Go.SX
namespace Go.SX
open Go Go.Proofs Ieee
theorem zDz (l : Txt) (a b : Nat) : (⟨l.toArray⟩ : ByteArray).extract a b = ⟨((l.take b).drop a).toArray⟩ := by
 apply ByteArray.ext
 rw [ByteArray.data_extract]
 simp [List.extract_eq_take_drop,List.drop_take]
def cutP (c : UInt8) : Txt → Txt × Bool
 | [] => ([],false)
 | b :: t => if b = c then (t,true) else (b :: t,false)
noncomputable def zMd : Ct := fam true (fun x : SB => ([.c (.im (.str ⟨x.1.1.toArray⟩)),.c (.im (.str ⟨#[x.1.2]⟩))],[])) (fun x => .one { val := .c (.im (.bool (cutP x.1.2 x.1.1).2)) })
theorem zId1 : ∀ a b : SB,([D.c (.im (.str ⟨a.1.1.toArray⟩)),.c (.im (.str ⟨#[a.1.2]⟩))],([] : List (List B))) = ([D.c (.im (.str ⟨b.1.1.toArray⟩)),.c (.im (.str ⟨#[b.1.2]⟩))],[]) → a = b := by
 rintro ⟨⟨a,b⟩,_⟩ ⟨⟨a',b'⟩,_⟩ h
 simp only [Prod.mk.injEq,List.cons.injEq,D.c.injEq,C.im.injEq,I.str.injEq,zHo,true_and,and_true] at h
 exact Subtype.ext (Prod.ext h.1 h.2)
theorem zRu {s : Txt} (h : s.length ≤ 2097152) (c : UInt8) : zMd.run [.c (.im (.str ⟨s.toArray⟩)),.c (.im (.str ⟨#[c]⟩))] [] = some (.one { val := .c (.im (.bool (cutP c s).2)) }) :=
 zAd (args := fun x : SB => ([D.c (.im (.str ⟨x.1.1.toArray⟩)),.c (.im (.str ⟨#[x.1.2]⟩))],[])) zId1 ⟨(s,c),h⟩
theorem zSs : Law Tryz.prog 270 zMd := by
 refine zAi zAf hmixA Tryz.func270 rfl rfl (fun ⟨⟨s,c⟩,h⟩ => ⟨zAv rfl,by simp [Tryz.f270],?_⟩)
 simp only
 have c0 : ((0 : Nat) : Int) = 0 := rfl
 have c1 : ((1 : Nat) : Int) = 1 := rfl
 cases s with
 | nil =>
   simp only [cutP]
   try simp -dsimp (maxSteps := 1000000) only [go_sem,↓reduceIte,yab,Tryz.f270,zAp,yaX,Nat.reduceAdd,c0,c1,Int.reduceLE]
 | cons b t =>
   have h1 : ((1 : Int) ≤ ((t.length + 1 : Nat) : Int)) = True := eq_true (by omega)
   have hc : cutP c (b :: t) = if b = c then (t,true) else (b :: t,false) := rfl
   by_cases e : b = c
   · have e' := eq_true e
     rw [hc,if_pos e]
     try simp -dsimp (maxSteps := 1000000) only [go_sem,↓reduceIte,yab,Tryz.f270,zAp,yaX,Nat.reduceAdd,c0,c1,h1,e',zDz,zAh,yaR,Int.reduceLE,List.take_succ_cons,yan]
   · have e' := eq_false e
     rw [hc,if_neg e]
     try simp -dsimp (maxSteps := 1000000) only [go_sem,↓reduceIte,yab,Tryz.f270,zAp,yaX,Nat.reduceAdd,c0,c1,h1,e',zDz,zAh,yaR,Int.reduceLE,List.take_succ_cons,yan]
def oCp (s : Txt) (c : UInt8) : Outs := .one { val := .tup [.c (.im (.str ⟨(cutP c s).1.toArray⟩)),.c (.im (.bool (cutP c s).2))] }
theorem zMc1 (s : Txt) (c : UInt8) {sc : Bool} : ∀ res,(oCp s c).mem res → OkR sc res := okO ⟨.tup _ (by intro d hd; simp at hd; rcases hd with rfl | rfl <;> exact .inl ⟨_,rfl,zFn rfl⟩),by simp,by simp⟩
noncomputable def zKd : Ct := fam true (fun x : SB => ([.c (.im (.str ⟨x.1.1.toArray⟩)),.c (.im (.str ⟨#[x.1.2]⟩))],[])) (fun x => oCp x.1.1 x.1.2)
theorem zPr {s : Txt} (h : s.length ≤ 2097152) (c : UInt8) : zKd.run [.c (.im (.str ⟨s.toArray⟩)),.c (.im (.str ⟨#[c]⟩))] [] = some (oCp s c) :=
 zAd (args := fun x : SB => ([D.c (.im (.str ⟨x.1.1.toArray⟩)),.c (.im (.str ⟨#[x.1.2]⟩))],[])) zId1 ⟨(s,c),h⟩
theorem zPw : Law Tryz.prog 275 zKd := by
 refine zAi (zAc zSs zAf) hmixA Tryz.func275 rfl rfl (fun ⟨⟨s,c⟩,h⟩ => ⟨zMc1 s c,by simp [Tryz.f275],?_⟩)
 simp only [oCp] at h ⊢
 have c1 : ((1 : Nat) : Int) = 1 := rfl
 have rh := zRu h c
 cases s with
 | nil =>
   simp only [cutP] at rh ⊢
   try simp -dsimp (maxSteps := 1000000) only [go_sem,↓reduceIte,yab,Tryz.f275,rh,yaI]
 | cons b t =>
   have h1 : ((1 : Int) ≤ ((t.length + 1 : Nat) : Int)) = True := eq_true (by omega)
   have hc : cutP c (b :: t) = if b = c then (t,true) else (b :: t,false) := rfl
   have hx : (⟨(b :: t).toArray⟩ : ByteArray).extract 1 (t.length + 1) = ⟨t.toArray⟩ := by
     rw [zDz,List.take_of_length_le (by simp)]; rfl
   by_cases e : b = c
   · rw [hc,if_pos e] at rh ⊢
     try simp -dsimp (maxSteps := 1000000) only [go_sem,↓reduceIte,yab,Tryz.f275,rh,yaH,zAp,yaX,Nat.reduceAdd,c1,h1,hx,yaR,Int.toNat_natCast,Int.reduceLE]
   · rw [hc,if_neg e] at rh ⊢
     try simp -dsimp (maxSteps := 1000000) only [go_sem,↓reduceIte,yab,Tryz.f275,rh,yaI]
noncomputable def zMe : Ct := fam true (fun x : SB => ([.c (.im (.str ⟨x.1.1.toArray⟩)),.c (.im (.str ⟨#[x.1.2]⟩))],[])) (fun x => oCp x.1.1 x.1.2)
theorem zRv {s : Txt} (h : s.length ≤ 2097152) (c : UInt8) : zMe.run [.c (.im (.str ⟨s.toArray⟩)),.c (.im (.str ⟨#[c]⟩))] [] = some (oCp s c) :=
 zAd (args := fun x : SB => ([D.c (.im (.str ⟨x.1.1.toArray⟩)),.c (.im (.str ⟨#[x.1.2]⟩))],[])) zId1 ⟨(s,c),h⟩
theorem zSt : Law Tryz.prog 241 zMe := by
 refine zAi (zAc zPw zAf) hmixA Tryz.func241 rfl rfl (fun ⟨⟨s,c⟩,h⟩ => ⟨zMc1 s c,by simp [Tryz.f241],?_⟩)
 simp only [oCp] at h ⊢
 have rh := zPr h c
 simp only [oCp] at rh
 try simp -dsimp (maxSteps := 1000000) only [go_sem,↓reduceIte,yab,Tryz.f241,rh]
theorem neg32 {r : Nat} (h : r < 2147483648) : Op.negFloat .f32 r = 2147483648 + r := by
 have hx : Op.negFloat .f32 r = r ^^^ 2 ^ 31 := rfl
 have h1 : 2 ^ 31 ||| r = 2 ^ 31 + r := by
   have := Nat.two_pow_add_eq_or_of_lt (i := 31) (b := r) h 1
   rw [Nat.mul_one] at this
   exact this.symm
 have hb : r.testBit 31 = false := Nat.testBit_lt_two_pow h
 rw [hx]
 have : r ^^^ 2 ^ 31 = 2 ^ 31 + r := by
   rw [← h1]
   apply Nat.eq_of_testBit_eq
   intro i
   rw [Nat.testBit_xor,Nat.testBit_or,Nat.testBit_two_pow]
   by_cases e : 31 = i
   · subst e; simp [hb]
   · simp [e]
 rw [this]
theorem zJz1 {x : Nat} (h : x < 4294967296) : Op.negFloat .f32 x < 4294967296 := by
 have hx : Op.negFloat .f32 x = x ^^^ 2 ^ 31 := rfl
 rw [hx]
 exact Nat.xor_lt_two_pow (n := 32) h (by decide)
theorem zAy1 {b r : Nat} (h : fconv .f64 b .f32 = some r) : r < 4294967296 := by
 have hq : qn .f32 < 4294967296 := by decide
 have hw : ∀ d,FloatKind.f32.encode d < 4294967296 := fun d => single.write_lt d
 unfold fconv at h
 rw [if_neg (by decide)] at h
 split at h
 · injection h with h; subst h; exact hq
 · injection h with h; subst h; exact hw _
 · split at h
   · cases h
   · injection h with h; subst h; exact hw _
theorem cKn (K : Nat → Prop) (t : Tag K) : cK none K t = ∀ r,r < 4294967296 → K r := by simp only [cK]
theorem zHc1 {w : Nat} (h : Fin32 w) : fsT w = fmtT w := by
 have hf : isFin w = true := by have := h.fin; simp only [isFin,yax]; omega
 simp [fsT,hf]
theorem zAu1 {s : Txt} (h : prsT s = none) (hs : s ≠ []) {x : Nat} (hx : x < 4294967296) : fsT x ≠ s := by
 unfold fsT
 split
 · rename_i hf
   refine zOd h ⟨hx,?_⟩
   simp only [isFin,yax] at hf; omega
 · exact fun e => hs e.symm
noncomputable def prsO (s : Txt) : Nat × Bool := match prsT s with
 | some w => (w,true)
 | none => (0,false)
noncomputable def oPs (s : Txt) : Outs := .one { val := .tup [.c (.im (.flt .f32 (prsO s).1)),.c (.im (.bool (prsO s).2))] }
theorem zMb1 (s : Txt) {sc : Bool} : ∀ res,(oPs s).mem res → OkR sc res := okO ⟨.tup _ (by intro d hd; simp at hd; rcases hd with rfl | rfl <;> exact .inl ⟨_,rfl,zFn rfl⟩),by simp,by simp⟩
noncomputable def zFk : Ct := fam true (fun s : S21 => ([.c (.im (.str ⟨s.1.toArray⟩))],[])) (fun s => oPs s.1)
theorem zGz {s : Txt} (h : s.length ≤ 2097152) : zFk.run [.c (.im (.str ⟨s.toArray⟩))] [] = some (oPs s) :=
 zAd (args := fun s : S21 => ([D.c (.im (.str ⟨s.1.toArray⟩))],[])) zZm ⟨s,h⟩
theorem zLh1 {w : Nat} (h : Fin32 w) : cutP 45 (fmtT w) = (magT (w % 2147483648),decide (2147483648 ≤ w)) := by
 unfold fmtT
 by_cases hs : 2147483648 ≤ w
 · simp [sgnT,hs,cutP]
 · obtain ⟨c,t,e,hd⟩ := zJq h.fin
   have hc : ¬ c = 45 := fun e => by subst e; unfold isDig at hd; revert hd; decide
   simp [sgnT,hs,e,cutP,hc]
theorem zLg1 (c : UInt8) (s : Txt) : (cutP c s).1.length ≤ s.length := by
 cases s with
 | nil => simp [cutP]
 | cons b t => simp only [cutP]; split <;> simp
theorem zQb1 (s : Txt) (c : UInt8) : (Lib.cut s [c]).1.length ≤ s.length ∧ (Lib.cut s [c]).2.1.length ≤ s.length := by
 by_cases hm : c ∈ s
 · obtain ⟨a,b,rfl,hn⟩ := zMv hm
   rw [zXa hn]; simp; omega
 · rw [zTl hm]; simp
end Go.SX
namespace Go.SX
open Go Go.Proofs Ieee
theorem zSh1 (l : Txt) (k : Nat) : (⟨l.toArray⟩ : ByteArray)[k]? = l[k]? := by
 by_cases h : k < l.length
 · rw [getElem?_pos (⟨l.toArray⟩ : ByteArray) k (by simpa [ByteArray.size] using h),getElem?_pos l k h]
   rfl
 · rw [getElem?_neg (⟨l.toArray⟩ : ByteArray) k (by simpa [ByteArray.size] using h),getElem?_neg l k h]
theorem zDy {l : Txt} {k : Nat} {b : UInt8} (h : l[k]? = some b) : (⟨l.toArray⟩ : ByteArray)[k]? = some b := by rw [zSh1]; exact h
structure Spl (c : UInt8) (s : Txt) (i f : Nat) (out : List Txt) : Prop where
 le : f ≤ i
 li : i ≤ s.length
 no : c ∉ (s.take i).drop f
 eq : splT c s = out ++ splT c (s.drop f)
theorem zOd1 {c : UInt8} {s : Txt} {f : Nat} {out : List Txt} (h : Spl c s s.length f out) : splT c s = out ++ [s.drop f] := by
 have hn := h.no
 rw [List.take_length] at hn
 rw [h.eq,zEh hn]
theorem zOc1 {c : UInt8} {s : Txt} {i f : Nat} {out : List Txt} (h : Spl c s i f out) (hi : s[i]? = some c) : Spl c s (i + 1) (i + 1) (out ++ [(s.take i).drop f]) := by
 have hlt : i < s.length := (List.getElem?_eq_some_iff.1 hi).1
 have hc : s[i] = c := by rw [List.getElem?_eq_getElem hlt] at hi; injection hi
 refine ⟨Nat.le_refl _,hlt,by simp,?_⟩
 have e : s.drop f = (s.take i).drop f ++ c :: s.drop (i + 1) := by
   have h1 : s.drop f = (s.take i ++ s.drop i).drop f := by rw [List.take_append_drop]
   rw [h1,List.drop_append_of_le_length (by rw [List.length_take]; have := h.le; omega),List.drop_eq_getElem_cons hlt,hc]
 rw [h.eq,e,zGv h.no,List.append_assoc]
 rfl
theorem zIy1 {c b : UInt8} {s : Txt} {i f : Nat} {out : List Txt} (h : Spl c s i f out) (hi : s[i]? = some b) (hb : ¬ b = c) : Spl c s (i + 1) f out := by
 have hlt : i < s.length := (List.getElem?_eq_some_iff.1 hi).1
 refine ⟨by have := h.le; omega,hlt,?_,h.eq⟩
 rw [List.take_add_one,hi,List.drop_append_of_le_length (by rw [List.length_take]; have := h.le; omega)]
 intro hm
 rcases List.mem_append.1 hm with hm | hm
 · exact h.no hm
 · simp at hm
   exact hb hm.symm
noncomputable def zEp : Ct := fam false (fun x : SB => ([.c (.im (.str ⟨x.1.1.toArray⟩)),.c (.im (.int .u8 (x.1.2.toNat : Int)))],[])) (fun x => .one { val := .c (.im (.sl 1 (rowsS (splT x.1.2 x.1.1)))) })
theorem zFt {s : Txt} (h : s.length ≤ 2097152) (c : UInt8) : zEp.run [.c (.im (.str ⟨s.toArray⟩)),.c (.im (.int .u8 (c.toNat : Int)))] [] = some (.one { val := .c (.im (.sl 1 (rowsS (splT c s)))) }) := by
 refine zAd (args := fun x : SB => ([D.c (.im (.str ⟨x.1.1.toArray⟩)),.c (.im (.int .u8 (x.1.2.toNat : Int)))],[])) ?_ ⟨(s,c),h⟩
 rintro ⟨⟨a,b⟩,_⟩ ⟨⟨a',b'⟩,_⟩ h
 simp only [Prod.mk.injEq,List.cons.injEq,D.c.injEq,C.im.injEq,I.str.injEq,I.int.injEq,zHo,true_and,and_true] at h
 exact Subtype.ext (Prod.ext h.1 (UInt8.toNat_inj.1 (Int.ofNat_inj.1 h.2)))
theorem zDv1 (l : List Txt) (x : Txt) : tI (rowsS l) ++ [[T.im (.str ⟨x.toArray⟩)]] = tI (rowsS (l ++ [x])) := by simp [tI,rowsS]
theorem zDx1 (l : List Txt) : ∀ r ∈ rowsS l,∀ i ∈ r,scI i = true := by
 intro r hr i hi
 simp only [rowsS,List.mem_map] at hr
 obtain ⟨p,_,rfl⟩ := hr
 simp only [yaG] at hi
 subst hi; rfl
theorem zPp (l : List Txt) : MvR false (.arr 1 (tI (rowsS l))) = True := eq_true (zLl (zDx1 _))
theorem zIz1 {c : UInt8} {s : Txt} {i f : Nat} {out : List Txt} (h : Spl c s i f out) : out.length ≤ s.length := by
 have h1 := zRj c s
 rw [h.eq,List.length_append] at h1
 have h2 : 0 < (splT c (s.drop f)).length := List.length_pos_iff.2 (zEr _ _)
 omega
theorem zIs : Law Tryz.prog 36 zEp := by
 refine zCo zAf hmixA Tryz.func36 rfl rfl (fun ⟨⟨s,c⟩,hs⟩ => ⟨okO ⟨.c _ (.im _ (.inl rfl)),by simp,by simp⟩,by simp [Tryz.f36],?_⟩)
 simp only at hs ⊢
 try simp -dsimp (maxSteps := 1000000) only [go_sem,↓reduceIte,yab,Tryz.f36]
 refine zBa (ι := { x : Nat × Nat × List Txt // Spl c s x.1 x.2.1 x.2.2 }) (fun x => ⟨[(0,some (.c (.im (.str ⟨s.toArray⟩)))),(1,some (.c (.im (.int .u8 (c.toNat : Int))))),(5,some (.c (.view 0 1 0 x.1.2.2.length))),(6,some (.c (.im (.int .i64 (x.1.2.1 : Int))))),(7,some (.c (.im (.int .i64 (x.1.1 : Int)))))],
   [(0,some (.arr 1 (tI (rowsS x.1.2.2))))],1⟩) (fun x => s.length - x.1.1) ⟨(0,0,[]),⟨by simp,by simp,by simp,by simp⟩⟩ ⟨[],[0],by ((simp only [go_sem,↓reduceIte,yab,yai,zPp,zAn]) <;> (try (simp -dsimp only [go_sem,↓reduceIte,yab,yai,zPp,zAn]))) <;> simp [lk,tI,zAn]⟩ (fun ⟨⟨i,f,out⟩,hS⟩ => ?_)
 simp only at hS ⊢
 have hle := hS.le
 have hli := hS.li
 have hol := zIz1 hS
 have hz : (tI (rowsS out)).length = out.length := by simp [zAt,zAe]
 have hf0 : (0 ≤ (f : Int)) = True := eq_true (by omega)
 by_cases hlt : i < s.length
 · obtain ⟨b,hb⟩ : ∃ b,s[i]? = some b := ⟨_,List.getElem?_eq_getElem hlt⟩
   have hrow := zDy hb
   have hI : ((i : Int) < (s.length : Int)) = True := eq_true (by omega)
   have h0 : (0 ≤ (i : Int)) = True := eq_true (by omega)
   have hw : IntKind.i64.wrap ((i : Int) + 1) = ((i + 1 : Nat) : Int) := by rw [zAg (by omega) (by omega)]; omega
   by_cases e : b = c
   · subst e
     have hfi : ((f : Int) ≤ (i : Int)) = True := eq_true (by omega)
     have his : ((i : Int) ≤ (s.length : Int)) = True := eq_true (by omega)
     have hby : ((out.length + 1) * 16 ≤ 140737488355328) = True := eq_true (by omega)
     have hn := zOc1 hS hb
     have hap := zDv1 out ((s.take i).drop f)
     try simp -dsimp (maxSteps := 1000000) only [go_sem,↓reduceIte,yab,Tryz.f36,zAp,hI,h0,hw,hf0,hfi,his,hrow,zDz,Int.toNat_natCast,hby,hap,zAt,zAe,appendH,srcRows,List.take_succ_cons,yan,yao,yap,okT,yaq,yar]
     exact ⟨⟨(i + 1,i + 1,out ++ [(s.take i).drop f]),hn⟩,by simp only []; omega,[],[2],by ((simp only [go_sem,↓reduceIte,yab,yai,zPp]) <;> (try (simp -dsimp only [go_sem,↓reduceIte,yab,yai,zPp]))) <;> simp [lk]⟩
   · have hne : ((b.toNat : Int) = (c.toNat : Int)) = False := eq_false (fun h => e (UInt8.toNat_inj.1 (Int.ofNat_inj.1 h)))
     have hn := zIy1 hS hb e
     try simp -dsimp (maxSteps := 1000000) only [go_sem,↓reduceIte,yab,Tryz.f36,zAp,hI,h0,hw,hrow,hne,Int.toNat_natCast]
     exact ⟨⟨(i + 1,f,out),hn⟩,by simp only []; omega,[],[0],by (simp only [go_sem,↓reduceIte,yab,yai,zPp]) <;> simp [lk]⟩
 · have hI : ((i : Int) < (s.length : Int)) = False := eq_false (by omega)
   have hie : i = s.length := by omega
   subst hie
   have hend := zOd1 hS
   have hfs : ((f : Int) ≤ (s.length : Int)) = True := eq_true (by omega)
   have hby : ((out.length + 1) * 16 ≤ 140737488355328) = True := eq_true (by omega)
   have hdr : (List.take s.length s).drop f = s.drop f := by rw [List.take_length]
   have hap := zDv1 out (s.drop f)
   have hmp : mapO (mapO imT) (tI (rowsS (out ++ [s.drop f]))) = some (rowsS (out ++ [s.drop f])) := zQc _
   rw [hend]
   try simp -dsimp (maxSteps := 1000000) only [go_sem,↓reduceIte,yab,Tryz.f36,zAp,hI,hf0,hfs,zDz,hdr,Int.toNat_natCast,hby,hap,zAt,zAe,appendH,srcRows,List.take_succ_cons,yan,yao,yap,okT,yaq,yar]
   refine zAm [.frz 2 [.s 4]] ?_
   simp -dsimp (maxSteps := 1000000) only [go_sem,↓reduceIte,yab,hmp,zAt,zAe,yar]
end Go.SX
namespace Go.SX
open Go Go.Proofs Ieee
def rdD : Txt → Int → Option Int
 | [],n => some n
 | b :: s,n => if 48 ≤ b.toNat ∧ b.toNat ≤ 57 then rdD s (10 * n + ((b.toNat : Int) - 48)) else none
def rdB (s : Txt) : Int × Bool := if s.length < 1 ∨ 17 < s.length ∨ (s[0]? = some 48 ∧ 1 < s.length) then (0,false) else match rdD s 0 with
 | some n => (n,true)
 | none => (0,false)
def negS (s : Txt) : Prop := s[0]? = some 45 ∧ 1 < s.length ∧ s[1]? ≠ some 45
instance (s : Txt) : Decidable (negS s) := by unfold negS; infer_instance
def rdF (s : Txt) : Int × Bool := if negS s then (-(rdB s.tail).1,(rdB s.tail).2 && decide ((rdB s.tail).1 ≠ 0)) else rdB s
theorem zMr {s : Txt} {i : Nat} {b : UInt8} {n : Int} (h : s[i]? = some b) : rdD (s.drop i) n = if 48 ≤ b.toNat ∧ b.toNat ≤ 57 then rdD (s.drop (i + 1)) (10 * n + ((b.toNat : Int) - 48)) else none := by
 have hlt : i < s.length := (List.getElem?_eq_some_iff.1 h).1
 have hb : s[i] = b := by rw [List.getElem?_eq_getElem hlt] at h; injection h
 rw [List.drop_eq_getElem_cons hlt,hb]
 rfl
theorem zLx1 : ∀ (s : Txt) (n m : Int),0 ≤ n → rdD s n = some m → 0 ≤ m ∧ m < (n + 1) * 10 ^ s.length
 | [],n,m,h0,h => by simp only [rdD,yay] at h; subst h; simp; omega
 | b :: s,n,m,h0,h => by
   simp only [rdD] at h
   split at h
   · rename_i hd
     have ih := zLx1 s _ m (by omega) h
     refine ⟨ih.1,?_⟩
     have h2 : (10 * n + ((b.toNat : Int) - 48) + 1) ≤ (n + 1) * 10 := by omega
     have hp : (0 : Int) ≤ 10 ^ s.length := Int.le_of_lt (Int.pow_pos (by decide))
     have h3 := Int.mul_le_mul_of_nonneg_right h2 hp
     have h4 : (n + 1) * 10 ^ (b :: s).length = (n + 1) * 10 * 10 ^ s.length := by
       rw [List.length_cons,Int.pow_succ,Int.mul_assoc,Int.mul_comm (10 ^ s.length) 10]
     rw [h4]
     exact Int.lt_of_lt_of_le ih.2 h3
   · cases h
theorem pow17 {k : Nat} (h : k ≤ 17) : (10 : Int) ^ k ≤ 100000000000000000 := by
 have : (10 : Nat) ^ k ≤ 10 ^ 17 := Nat.pow_le_pow_right (by decide) h
 have h2 : ((10 ^ k : Nat) : Int) ≤ ((10 ^ 17 : Nat) : Int) := Int.ofNat_le.2 this
 simpa using h2
theorem zQv1 (s : Txt) : 0 ≤ (rdB s).1 ∧ (rdB s).1 ≤ 100000000000000000 := by
 unfold rdB
 split
 · simp
 · rename_i hc
   split
   · rename_i n hn
     have h1 := zLx1 s 0 n (by omega) hn
     have h2 := pow17 (k := s.length) (by omega)
     simp only at h1 ⊢
     omega
   · simp
abbrev SBs := { s : Txt // s.length ≤ 2097152 ∧ ¬ negS s }
abbrev SAl := { s : Txt // s.length ≤ 2097152 }
def rIB (x : Int × Bool) : Res := { val := .tup [.c (.im (.int .i64 x.1)),.c (.im (.bool x.2))] }
theorem zFb1 {sc : Bool} {x : Int × Bool} : OkR sc (rIB x) := by
 refine ⟨.tup _ (fun d hd => ?_),by simp [rIB],by simp [rIB]⟩
 simp only [yae,yaf,or_false] at hd
 rcases hd with rfl | rfl <;> exact .inl ⟨_,rfl,zFn rfl⟩
noncomputable def zRa : Ct := fam true (fun x : SBs => ([.c (.im (.str ⟨x.1.toArray⟩))],[])) (fun x => .one (rIB (rdB x.1)))
theorem zNv {s : Txt} (h : s.length ≤ 2097152) (hn : ¬ negS s) : zRa.run [.c (.im (.str ⟨s.toArray⟩))] [] = some (.one (rIB (rdB s))) := by
 refine zAd (args := fun x : SBs => ([D.c (.im (.str ⟨x.1.toArray⟩))],[])) ?_ ⟨s,h,hn⟩
 rintro ⟨a,_⟩ ⟨b,_⟩ h
 simp only [Prod.mk.injEq,List.cons.injEq,D.c.injEq,C.im.injEq,I.str.injEq,zHo,true_and,and_true] at h
 exact Subtype.ext h
noncomputable def zPc : Ct := fam true (fun x : SAl => ([.c (.im (.str ⟨x.1.toArray⟩))],[])) (fun x => .one (rIB (rdF x.1)))
theorem zIe1 : ∀ a b : SAl,([D.c (.im (.str ⟨a.1.toArray⟩))],([] : List (List B))) = ([D.c (.im (.str ⟨b.1.toArray⟩))],[]) → a = b := by
 rintro ⟨a,_⟩ ⟨b,_⟩ h
 simp only [Prod.mk.injEq,List.cons.injEq,D.c.injEq,C.im.injEq,I.str.injEq,zHo,true_and,and_true] at h
 exact Subtype.ext h
theorem zFl {s : Txt} (h : s.length ≤ 2097152) : zPc.run [.c (.im (.str ⟨s.toArray⟩))] [] = some (.one (rIB (rdF s))) :=
 zAd (args := fun x : SAl => ([D.c (.im (.str ⟨x.1.toArray⟩))],[])) zIe1 ⟨s,h⟩
theorem zIt : Law Tryz.prog 236 zRa := by
 refine zAi zAf hmixA Tryz.func236 rfl rfl (fun ⟨s,hs,hn⟩ => ⟨okO zFb1,by simp [Tryz.f236],?_⟩)
 simp only at hs hn ⊢
 cases s with
 | nil =>
   have hr : rdB [] = (0,false) := rfl
   simp only [hr,rIB]
   have c0 : ((0 : Nat) : Int) = 0 := rfl
   try simp -dsimp (maxSteps := 1000000) only [go_sem,↓reduceIte,yab,Tryz.f236,zAp,c0,Int.reduceLT]
   exact ⟨rfl,rfl⟩
 | cons b0 t =>
   have i0 : (⟨(b0 :: t).toArray⟩ : ByteArray)[0]? = some b0 := zDy rfl
   have key : ∀ (h17 : t.length + 1 ≤ 17 ∧ ¬ (b0.toNat = 48 ∧ 1 ≤ t.length)),rdB (b0 :: t) = match rdD (b0 :: t) 0 with | some n => (n,true) | none => (0,false) := by
     intro h17
     unfold rdB
     rw [if_neg]
     intro hc
     rcases hc with h | h | ⟨h,h'⟩
     · simp at h
     · simp at h; omega
     · simp at h h'
       exact h17.2 ⟨by rw [h]; rfl,by omega⟩
   have bad : (17 < t.length + 1 ∨ (b0.toNat = 48 ∧ 1 ≤ t.length)) → rdB (b0 :: t) = (0,false) := by
     intro h
     unfold rdB
     rw [if_pos]
     rcases h with h | ⟨h,h'⟩
     · exact .inr (.inl (by simpa using h))
     · refine .inr (.inr ⟨?_,by simp; omega⟩)
       have : b0 = 48 := UInt8.toNat_inj.1 (by rw [h]; rfl)
       simp [this]
   have L17t : 17 < t.length + 1 → ((17 : Int) < ((t.length + 1 : Nat) : Int)) = True := fun h => eq_true (by omega)
   have L17f : ¬ 17 < t.length + 1 → ((17 : Int) < ((t.length + 1 : Nat) : Int)) = False := fun h => eq_false (by omega)
   have L0 : (((t.length + 1 : Nat) : Int) < (1 : Int)) = False := eq_false (by omega)
   by_cases ht : t.length = 0
   · have L1 : ((1 : Int) < ((t.length + 1 : Nat) : Int)) = False := eq_false (by omega)
     have L17 := L17f (by omega)
     by_cases e : b0.toNat = 48
     · have e48 : ((b0.toNat : Int) = 48) = True := eq_true (by omega)
       have hk := key ⟨by omega,by omega⟩
       rw [hk]
       generalize hs' : b0 :: t = s at *
       have hls : s.length = t.length + 1 := by rw [← hs']; rfl
       try simp -dsimp (maxSteps := 1000000) only [go_sem,↓reduceIte,yab,Tryz.f236,zAp,i0,yaQ,yaR,L0,L1,L17,e48,hls]
       refine zBa (ι := { x : Nat × Int // x.1 ≤ s.length ∧ rdD s 0 = rdD (s.drop x.1) x.2 ∧ 0 ≤ x.2 ∧ x.2 < 10 ^ x.1 }) (fun x => ⟨[(0,some (.c (.im (.str ⟨s.toArray⟩)))),(6,some (.c (.im (.int .i64 x.1.2)))),(7,some (.c (.im (.int .i64 (x.1.1 : Int)))))],[],0⟩) (fun x => s.length - x.1.1) ⟨(0,0),by simp⟩ ⟨[],[],by ((simp only [go_sem,↓reduceIte,yab,yai]) <;> (try (simp -dsimp only [go_sem,↓reduceIte,yab,yai]))) <;> simp⟩ (fun ⟨⟨i,n⟩,hi,hinv,hn0,hn1⟩ => ?_)
       simp only at hi hinv hn0 hn1 ⊢
       have h17 := pow17 (k := i) (by omega)
       by_cases hlt : i < s.length
       · obtain ⟨b,hb⟩ : ∃ b,s[i]? = some b := ⟨_,List.getElem?_eq_getElem hlt⟩
         have hrow := zDy hb
         have hI : ((i : Int) < (s.length : Int)) = True := eq_true (by omega)
         have h0 : (0 ≤ (i : Int)) = True := eq_true (by omega)
         have hb8 := b.toNat_lt
         have hd := zMr (n := n) hb
         have hw : IntKind.i64.wrap ((i : Int) + 1) = ((i + 1 : Nat) : Int) := by rw [zAg (by omega) (by omega)]; omega
         by_cases g1 : b.toNat < 48
         · have g1' : ((b.toNat : Int) < 48) = True := eq_true (by omega)
           rw [if_neg (by omega)] at hd
           rw [hinv,hd]
           simp only [rIB]
           try simp -dsimp (maxSteps := 1000000) only [go_sem,↓reduceIte,yab,Tryz.f236,zAp,hI,h0,hrow,g1',Int.toNat_natCast]
         · have g1' : ((b.toNat : Int) < 48) = False := eq_false (by omega)
           by_cases g2 : 57 < b.toNat
           · have g2' : (57 < (b.toNat : Int)) = True := eq_true (by omega)
             rw [if_neg (by omega)] at hd
             rw [hinv,hd]
             simp only [rIB]
             try simp -dsimp (maxSteps := 1000000) only [go_sem,↓reduceIte,yab,Tryz.f236,zAp,hI,h0,hrow,g1',g2',Int.toNat_natCast]
           · have g2' : (57 < (b.toNat : Int)) = False := eq_false (by omega)
             rw [if_pos (by omega)] at hd
             have w1 : IntKind.u8.wrap ((b.toNat : Int) - 48) = (b.toNat : Int) - 48 := by unfold IntKind.wrap; simp [IntKind.bits,IntKind.signed]; omega
             have w2 : IntKind.i64.wrap ((b.toNat : Int) - 48) = (b.toNat : Int) - 48 := zAg (by omega) (by omega)
             have w3 : IntKind.i64.wrap (10 * n) = 10 * n := zAg (by omega) (by omega)
             have w4 : IntKind.i64.wrap (10 * n + ((b.toNat : Int) - 48)) = 10 * n + ((b.toNat : Int) - 48) := zAg (by omega) (by omega)
             try simp -dsimp (maxSteps := 1000000) only [go_sem,↓reduceIte,yab,Tryz.f236,zAp,hI,h0,hrow,g1',g2',hw,w1,w2,w3,w4,Int.toNat_natCast]
             have hp : (10 : Int) ^ (i + 1) = 10 ^ i * 10 := Int.pow_succ _ _
             exact ⟨⟨(i + 1,10 * n + ((b.toNat : Int) - 48)),by simp only []; omega,by rw [hinv,hd],by simp only []; omega,by simp only []; omega⟩,by simp only []; omega,[],[],by (simp only [go_sem,↓reduceIte,yab,yai]) <;> simp⟩
       · have hI : ((i : Int) < (s.length : Int)) = False := eq_false (by omega)
         have hie : i = s.length := by omega
         subst hie
         have hr : rdD s 0 = some n := by rw [hinv,List.drop_length]; rfl
         rw [hr]
         simp only [rIB]
         try simp -dsimp (maxSteps := 1000000) only [go_sem,↓reduceIte,yab,Tryz.f236,zAp,hI]
     · have e48 : ((b0.toNat : Int) = 48) = False := eq_false (by omega)
       have hk := key ⟨by omega,by omega⟩
       rw [hk]
       generalize hs' : b0 :: t = s at *
       have hls : s.length = t.length + 1 := by rw [← hs']; rfl
       try simp -dsimp (maxSteps := 1000000) only [go_sem,↓reduceIte,yab,Tryz.f236,zAp,i0,yaQ,yaR,L0,L1,L17,e48,hls]
       refine zBa (ι := { x : Nat × Int // x.1 ≤ s.length ∧ rdD s 0 = rdD (s.drop x.1) x.2 ∧ 0 ≤ x.2 ∧ x.2 < 10 ^ x.1 }) (fun x => ⟨[(0,some (.c (.im (.str ⟨s.toArray⟩)))),(6,some (.c (.im (.int .i64 x.1.2)))),(7,some (.c (.im (.int .i64 (x.1.1 : Int)))))],[],0⟩) (fun x => s.length - x.1.1) ⟨(0,0),by simp⟩ ⟨[],[],by ((simp only [go_sem,↓reduceIte,yab,yai]) <;> (try (simp -dsimp only [go_sem,↓reduceIte,yab,yai]))) <;> simp⟩ (fun ⟨⟨i,n⟩,hi,hinv,hn0,hn1⟩ => ?_)
       simp only at hi hinv hn0 hn1 ⊢
       have h17 := pow17 (k := i) (by omega)
       by_cases hlt : i < s.length
       · obtain ⟨b,hb⟩ : ∃ b,s[i]? = some b := ⟨_,List.getElem?_eq_getElem hlt⟩
         have hrow := zDy hb
         have hI : ((i : Int) < (s.length : Int)) = True := eq_true (by omega)
         have h0 : (0 ≤ (i : Int)) = True := eq_true (by omega)
         have hb8 := b.toNat_lt
         have hd := zMr (n := n) hb
         have hw : IntKind.i64.wrap ((i : Int) + 1) = ((i + 1 : Nat) : Int) := by rw [zAg (by omega) (by omega)]; omega
         by_cases g1 : b.toNat < 48
         · have g1' : ((b.toNat : Int) < 48) = True := eq_true (by omega)
           rw [if_neg (by omega)] at hd
           rw [hinv,hd]
           simp only [rIB]
           try simp -dsimp (maxSteps := 1000000) only [go_sem,↓reduceIte,yab,Tryz.f236,zAp,hI,h0,hrow,g1',Int.toNat_natCast]
         · have g1' : ((b.toNat : Int) < 48) = False := eq_false (by omega)
           by_cases g2 : 57 < b.toNat
           · have g2' : (57 < (b.toNat : Int)) = True := eq_true (by omega)
             rw [if_neg (by omega)] at hd
             rw [hinv,hd]
             simp only [rIB]
             try simp -dsimp (maxSteps := 1000000) only [go_sem,↓reduceIte,yab,Tryz.f236,zAp,hI,h0,hrow,g1',g2',Int.toNat_natCast]
           · have g2' : (57 < (b.toNat : Int)) = False := eq_false (by omega)
             rw [if_pos (by omega)] at hd
             have w1 : IntKind.u8.wrap ((b.toNat : Int) - 48) = (b.toNat : Int) - 48 := by unfold IntKind.wrap; simp [IntKind.bits,IntKind.signed]; omega
             have w2 : IntKind.i64.wrap ((b.toNat : Int) - 48) = (b.toNat : Int) - 48 := zAg (by omega) (by omega)
             have w3 : IntKind.i64.wrap (10 * n) = 10 * n := zAg (by omega) (by omega)
             have w4 : IntKind.i64.wrap (10 * n + ((b.toNat : Int) - 48)) = 10 * n + ((b.toNat : Int) - 48) := zAg (by omega) (by omega)
             try simp -dsimp (maxSteps := 1000000) only [go_sem,↓reduceIte,yab,Tryz.f236,zAp,hI,h0,hrow,g1',g2',hw,w1,w2,w3,w4,Int.toNat_natCast]
             have hp : (10 : Int) ^ (i + 1) = 10 ^ i * 10 := Int.pow_succ _ _
             exact ⟨⟨(i + 1,10 * n + ((b.toNat : Int) - 48)),by simp only []; omega,by rw [hinv,hd],by simp only []; omega,by simp only []; omega⟩,by simp only []; omega,[],[],by (simp only [go_sem,↓reduceIte,yab,yai]) <;> simp⟩
       · have hI : ((i : Int) < (s.length : Int)) = False := eq_false (by omega)
         have hie : i = s.length := by omega
         subst hie
         have hr : rdD s 0 = some n := by rw [hinv,List.drop_length]; rfl
         rw [hr]
         simp only [rIB]
         try simp -dsimp (maxSteps := 1000000) only [go_sem,↓reduceIte,yab,Tryz.f236,zAp,hI]
   have L1 : ((1 : Int) < ((t.length + 1 : Nat) : Int)) = True := eq_true (by omega)
   obtain ⟨b1,hb1⟩ : ∃ b1,(b0 :: t)[1]? = some b1 := ⟨_,List.getElem?_eq_getElem (by simp; omega)⟩
   have i1 : (⟨(b0 :: t).toArray⟩ : ByteArray)[1]? = some b1 := zDy hb1
   by_cases e45 : b0.toNat = 45
   · have h45 : ((b0.toNat : Int) = 45) = True := eq_true (by omega)
     have e48 : ((b0.toNat : Int) = 48) = False := eq_false (by omega)
     have hb0 : b0 = 45 := UInt8.toNat_inj.1 (by rw [e45]; rfl)
     have hb1' : b1 = 45 := by
       apply Classical.byContradiction
       intro hne
       refine hn ⟨by simp [hb0],by simp; omega,?_⟩
       rw [hb1]
       intro h
       injection h with h
       exact hne h
     have h1 : ((b1.toNat : Int) = 45) = True := eq_true (by rw [hb1']; rfl)
     by_cases g17 : 17 < t.length + 1
     · have L17 := L17t g17
       rw [bad (.inl g17)]
       simp only [rIB]
       try simp -dsimp (maxSteps := 1000000) only [go_sem,↓reduceIte,yab,Tryz.f236,zAp,i0,yaQ,yaR,L0,L1,L17,h45,h1,i1,Int.reduceLE,e48]
     · have L17 := L17f g17
       have hk := key ⟨by omega,by omega⟩
       rw [hk]
       generalize hs' : b0 :: t = s at *
       have hls : s.length = t.length + 1 := by rw [← hs']; rfl
       try simp -dsimp (maxSteps := 1000000) only [go_sem,↓reduceIte,yab,Tryz.f236,zAp,i0,yaQ,yaR,L0,L1,L17,h45,h1,i1,Int.reduceLE,e48,hls]
       refine zBa (ι := { x : Nat × Int // x.1 ≤ s.length ∧ rdD s 0 = rdD (s.drop x.1) x.2 ∧ 0 ≤ x.2 ∧ x.2 < 10 ^ x.1 }) (fun x => ⟨[(0,some (.c (.im (.str ⟨s.toArray⟩)))),(6,some (.c (.im (.int .i64 x.1.2)))),(7,some (.c (.im (.int .i64 (x.1.1 : Int)))))],[],0⟩) (fun x => s.length - x.1.1) ⟨(0,0),by simp⟩ ⟨[],[],by ((simp only [go_sem,↓reduceIte,yab,yai]) <;> (try (simp -dsimp only [go_sem,↓reduceIte,yab,yai]))) <;> simp⟩ (fun ⟨⟨i,n⟩,hi,hinv,hn0,hn1⟩ => ?_)
       simp only at hi hinv hn0 hn1 ⊢
       have h17 := pow17 (k := i) (by omega)
       by_cases hlt : i < s.length
       · obtain ⟨b,hb⟩ : ∃ b,s[i]? = some b := ⟨_,List.getElem?_eq_getElem hlt⟩
         have hrow := zDy hb
         have hI : ((i : Int) < (s.length : Int)) = True := eq_true (by omega)
         have h0 : (0 ≤ (i : Int)) = True := eq_true (by omega)
         have hb8 := b.toNat_lt
         have hd := zMr (n := n) hb
         have hw : IntKind.i64.wrap ((i : Int) + 1) = ((i + 1 : Nat) : Int) := by rw [zAg (by omega) (by omega)]; omega
         by_cases g1 : b.toNat < 48
         · have g1' : ((b.toNat : Int) < 48) = True := eq_true (by omega)
           rw [if_neg (by omega)] at hd
           rw [hinv,hd]
           simp only [rIB]
           try simp -dsimp (maxSteps := 1000000) only [go_sem,↓reduceIte,yab,Tryz.f236,zAp,hI,h0,hrow,g1',Int.toNat_natCast]
         · have g1' : ((b.toNat : Int) < 48) = False := eq_false (by omega)
           by_cases g2 : 57 < b.toNat
           · have g2' : (57 < (b.toNat : Int)) = True := eq_true (by omega)
             rw [if_neg (by omega)] at hd
             rw [hinv,hd]
             simp only [rIB]
             try simp -dsimp (maxSteps := 1000000) only [go_sem,↓reduceIte,yab,Tryz.f236,zAp,hI,h0,hrow,g1',g2',Int.toNat_natCast]
           · have g2' : (57 < (b.toNat : Int)) = False := eq_false (by omega)
             rw [if_pos (by omega)] at hd
             have w1 : IntKind.u8.wrap ((b.toNat : Int) - 48) = (b.toNat : Int) - 48 := by unfold IntKind.wrap; simp [IntKind.bits,IntKind.signed]; omega
             have w2 : IntKind.i64.wrap ((b.toNat : Int) - 48) = (b.toNat : Int) - 48 := zAg (by omega) (by omega)
             have w3 : IntKind.i64.wrap (10 * n) = 10 * n := zAg (by omega) (by omega)
             have w4 : IntKind.i64.wrap (10 * n + ((b.toNat : Int) - 48)) = 10 * n + ((b.toNat : Int) - 48) := zAg (by omega) (by omega)
             try simp -dsimp (maxSteps := 1000000) only [go_sem,↓reduceIte,yab,Tryz.f236,zAp,hI,h0,hrow,g1',g2',hw,w1,w2,w3,w4,Int.toNat_natCast]
             have hp : (10 : Int) ^ (i + 1) = 10 ^ i * 10 := Int.pow_succ _ _
             exact ⟨⟨(i + 1,10 * n + ((b.toNat : Int) - 48)),by simp only []; omega,by rw [hinv,hd],by simp only []; omega,by simp only []; omega⟩,by simp only []; omega,[],[],by (simp only [go_sem,↓reduceIte,yab,yai]) <;> simp⟩
       · have hI : ((i : Int) < (s.length : Int)) = False := eq_false (by omega)
         have hie : i = s.length := by omega
         subst hie
         have hr : rdD s 0 = some n := by rw [hinv,List.drop_length]; rfl
         rw [hr]
         simp only [rIB]
         try simp -dsimp (maxSteps := 1000000) only [go_sem,↓reduceIte,yab,Tryz.f236,zAp,hI]
   · have h45 : ((b0.toNat : Int) = 45) = False := eq_false (by omega)
     by_cases g17 : 17 < t.length + 1
     · have L17 := L17t g17
       rw [bad (.inl g17)]
       simp only [rIB]
       try simp -dsimp (maxSteps := 1000000) only [go_sem,↓reduceIte,yab,Tryz.f236,zAp,i0,yaQ,yaR,L0,L1,L17,h45]
     · have L17 := L17f g17
       by_cases e : b0.toNat = 48
       · have e48 : ((b0.toNat : Int) = 48) = True := eq_true (by omega)
         rw [bad (.inr ⟨e,by omega⟩)]
         simp only [rIB]
         try simp -dsimp (maxSteps := 1000000) only [go_sem,↓reduceIte,yab,Tryz.f236,zAp,i0,yaQ,yaR,L0,L1,L17,h45,e48]
       · have e48 : ((b0.toNat : Int) = 48) = False := eq_false (by omega)
         have hk := key ⟨by omega,by omega⟩
         rw [hk]
         generalize hs' : b0 :: t = s at *
         have hls : s.length = t.length + 1 := by rw [← hs']; rfl
         try simp -dsimp (maxSteps := 1000000) only [go_sem,↓reduceIte,yab,Tryz.f236,zAp,i0,yaQ,yaR,L0,L1,L17,h45,e48,hls]
         refine zBa (ι := { x : Nat × Int // x.1 ≤ s.length ∧ rdD s 0 = rdD (s.drop x.1) x.2 ∧ 0 ≤ x.2 ∧ x.2 < 10 ^ x.1 }) (fun x => ⟨[(0,some (.c (.im (.str ⟨s.toArray⟩)))),(6,some (.c (.im (.int .i64 x.1.2)))),(7,some (.c (.im (.int .i64 (x.1.1 : Int)))))],[],0⟩) (fun x => s.length - x.1.1) ⟨(0,0),by simp⟩ ⟨[],[],by ((simp only [go_sem,↓reduceIte,yab,yai]) <;> (try (simp -dsimp only [go_sem,↓reduceIte,yab,yai]))) <;> simp⟩ (fun ⟨⟨i,n⟩,hi,hinv,hn0,hn1⟩ => ?_)
         simp only at hi hinv hn0 hn1 ⊢
         have h17 := pow17 (k := i) (by omega)
         by_cases hlt : i < s.length
         · obtain ⟨b,hb⟩ : ∃ b,s[i]? = some b := ⟨_,List.getElem?_eq_getElem hlt⟩
           have hrow := zDy hb
           have hI : ((i : Int) < (s.length : Int)) = True := eq_true (by omega)
           have h0 : (0 ≤ (i : Int)) = True := eq_true (by omega)
           have hb8 := b.toNat_lt
           have hd := zMr (n := n) hb
           have hw : IntKind.i64.wrap ((i : Int) + 1) = ((i + 1 : Nat) : Int) := by rw [zAg (by omega) (by omega)]; omega
           by_cases g1 : b.toNat < 48
           · have g1' : ((b.toNat : Int) < 48) = True := eq_true (by omega)
             rw [if_neg (by omega)] at hd
             rw [hinv,hd]
             simp only [rIB]
             try simp -dsimp (maxSteps := 1000000) only [go_sem,↓reduceIte,yab,Tryz.f236,zAp,hI,h0,hrow,g1',Int.toNat_natCast]
           · have g1' : ((b.toNat : Int) < 48) = False := eq_false (by omega)
             by_cases g2 : 57 < b.toNat
             · have g2' : (57 < (b.toNat : Int)) = True := eq_true (by omega)
               rw [if_neg (by omega)] at hd
               rw [hinv,hd]
               simp only [rIB]
               try simp -dsimp (maxSteps := 1000000) only [go_sem,↓reduceIte,yab,Tryz.f236,zAp,hI,h0,hrow,g1',g2',Int.toNat_natCast]
             · have g2' : (57 < (b.toNat : Int)) = False := eq_false (by omega)
               rw [if_pos (by omega)] at hd
               have w1 : IntKind.u8.wrap ((b.toNat : Int) - 48) = (b.toNat : Int) - 48 := by unfold IntKind.wrap; simp [IntKind.bits,IntKind.signed]; omega
               have w2 : IntKind.i64.wrap ((b.toNat : Int) - 48) = (b.toNat : Int) - 48 := zAg (by omega) (by omega)
               have w3 : IntKind.i64.wrap (10 * n) = 10 * n := zAg (by omega) (by omega)
               have w4 : IntKind.i64.wrap (10 * n + ((b.toNat : Int) - 48)) = 10 * n + ((b.toNat : Int) - 48) := zAg (by omega) (by omega)
               try simp -dsimp (maxSteps := 1000000) only [go_sem,↓reduceIte,yab,Tryz.f236,zAp,hI,h0,hrow,g1',g2',hw,w1,w2,w3,w4,Int.toNat_natCast]
               have hp : (10 : Int) ^ (i + 1) = 10 ^ i * 10 := Int.pow_succ _ _
               exact ⟨⟨(i + 1,10 * n + ((b.toNat : Int) - 48)),by simp only []; omega,by rw [hinv,hd],by simp only []; omega,by simp only []; omega⟩,by simp only []; omega,[],[],by (simp only [go_sem,↓reduceIte,yab,yai]) <;> simp⟩
         · have hI : ((i : Int) < (s.length : Int)) = False := eq_false (by omega)
           have hie : i = s.length := by omega
           subst hie
           have hr : rdD s 0 = some n := by rw [hinv,List.drop_length]; rfl
           rw [hr]
           simp only [rIB]
           try simp -dsimp (maxSteps := 1000000) only [go_sem,↓reduceIte,yab,Tryz.f236,zAp,hI]
end Go.SX
namespace Go.SX
open Go Go.Proofs Ieee
theorem zTh {r : Nat} (h0 : 0 < r) (h1 : r < 2139095040) (s : Bool) : fcmp .eql .f32 (single.word s r) 0 = false := by
 have hr := zCy (f := single) (by decide) (r := r) (by rw [ir1]; exact h1) s
 have hz : single.read 0 = .number false 0 (-149) := by decide
 show (single.order (single.word s r) 0 == some .eq) = false
 unfold Format.order
 rw [hr,hz]
 simp only [Datum.order]
 have hp := zEt h0
 have h2 : ∀ k,signed false 0 k = 0 := fun k => by simp [signed]
 rw [h2]
 obtain ⟨k,hk⟩ : ∃ k,(rgE single r - min (rgE single r) (-149)).toNat = k := ⟨_,rfl⟩
 rw [hk]
 have hX := Nat.mul_pos hp (Nat.two_pow_pos k)
 generalize hx : rgM single r * 2 ^ k = X at hX
 have hne : signed s (rgM single r) k ≠ 0 := by
   cases s <;> simp [signed,zDb,hx] <;> omega
 have : compare (signed s (rgM single r) k) 0 ≠ .eq := by
   simp only [compare,compareOfLessAndEq]
   split
   · simp
   · simp [hne]
 cases hc : compare (signed s (rgM single r) k) 0 with
 | lt => rfl
 | eq => exact absurd hc this
 | gt => rfl
theorem zOn : Law Tryz.prog 185 zFk := by
 refine zAi (zAc zSt (zAc zGq1 (zAc zKu (zAc zGo1 (zAc zGo (zDa zWc zAf)))))) hmixA Tryz.func185 rfl rfl (fun ⟨s,hs⟩ => ⟨zMb1 s,by simp [Tryz.f185],?_⟩)
 simp only [oPs] at hs ⊢
 have rcp := zRv hs 45
 have hcl := zLg1 45 s
 have rfb : zIy.run [.c (.im (.int .u32 2147483648))] [] = some (.one { val := .c (.im (.flt .f32 2147483648)) }) := zUx 2147483648
 simp only [oCp] at rcp
 cases hp : prsT s with
 | some w =>
   obtain ⟨hw,hT⟩ := zJo hp
   have ho : prsO s = (w,true) := by simp [prsO,hp]
   rw [ho]
   rw [← hT,zLh1 hw,hT] at rcp
   have rfs := zAs hw.lt
   rw [zHc1 hw,hT] at rfs
   have hse : (s = s) = True := eq_self s
   by_cases hr0 : w % 2147483648 = 0
   · have hm : magT (w % 2147483648) = [48] := by rw [hr0]; rfl
     rw [hm] at rcp
     have t48 : (([48] : Txt) = [48]) = True := eq_self _
     by_cases hneg : 2147483648 ≤ w
     · have hw0 : w = 2147483648 := by have := hw.lt; omega
       subst hw0
       have n0 : fcmp .eql .f32 (Op.negFloat .f32 0) 0 = true := by decide +kernel
       obtain ⟨z,hz⟩ : ∃ z,Op.negFloat .f32 0 = z := ⟨_,rfl⟩
       rw [hz] at n0
       rw [decide_eq_true hneg] at rcp
       generalize (2147483648 : Nat) = w at *
       try simp -dsimp (maxSteps := 1000000) only [go_sem,↓reduceIte,yab,Tryz.f185,rcp,zAh,t48,hz,n0,rfb,rfs,hse,yaH]
     · have hw0 : w = 0 := by have := hw.lt; omega
       subst hw0
       rw [decide_eq_false hneg] at rcp
       try simp -dsimp (maxSteps := 1000000) only [go_sem,↓reduceIte,yab,Tryz.f185,rcp,zAh,t48,rfs,hse,yaH]
   · obtain ⟨r,hr⟩ : ∃ r,w % 2147483648 = r := ⟨_,rfl⟩
     have hrf := hw.fin
     rw [hr] at hr0 hrf rcp
     have hrp := Nat.pos_of_ne_zero hr0
     have hmd := zSc hrp hrf
     have hmag : magT r = Lib.itoa (mdM r) ++ 112 :: Lib.itoa (mdE r) := by simp [magT,hr0]
     have b1 : i64B ((mdM r : Nat) : Int) := ⟨by omega,by have := hmd.lt; omega⟩
     have b2 : i64B (mdE r) := ⟨by have := hmd.lo; omega,by have := hmd.hi; omega⟩
     have hml : (magT r).length ≤ 2097152 := by
       rw [hmag,List.length_append,List.length_cons]
       have := zBd b1
       have := zBd b2
       omega
     have rc := zYc hml 112
     simp only [oCut] at rc
     have hcut : Lib.cut (magT r) [112] = (Lib.itoa (mdM r),Lib.itoa (mdE r),true) := by rw [hmag]; exact zXa (zJw _)
     rw [hcut] at rc
     have rn1 := zDe (s := Lib.itoa (mdM r)) (by have := zBd b1; omega)
     have rn2 := zDe (s := Lib.itoa (mdE r)) (by have := zBd b2; omega)
     rw [zHc b1.1 b1.2] at rn1
     rw [zHc b2.1 b2.2] at rn2
     have hne48 : (magT r = [48]) = False := eq_false (fun e => by
       have : (112 : UInt8) ∈ magT r := by rw [hmag]; simp
       rw [e] at this; simp at this)
     have rl := zVc (m := mdM r) (e := mdE r) hmd.pos hmd.lt (by have := hmd.lo; omega) (by have := hmd.hi; omega)
     have hfl := zKq (m := mdM r)
     have hfc := zWu (m := mdM r) (e := mdE r) ⟨hmd.pos,by have := hmd.lt; omega,by have := hmd.lo; omega,by have := hmd.hi; omega⟩ hrp hrf hmd.sv
     have k1 : (((mdM r : Nat) : Int) < 1) = False := eq_false (by have := hmd.pos; omega)
     have k2 : ((16777216 : Int) ≤ ((mdM r : Nat) : Int)) = False := eq_false (by have := hmd.lt; omega)
     have k3 : (mdE r < -200) = False := eq_false (by have := hmd.lo; omega)
     have k4 : ((200 : Int) < mdE r) = False := eq_false (by have := hmd.hi; omega)
     clear hmag hcut hmd hml b1 b2
     generalize Lib.itoa (mdM r) = A at *
     generalize Lib.itoa (mdE r) = B at *
     generalize magT r = T at *
     generalize dW (mdM r) (mdE r) = y at *
     generalize dW (mdM r) 0 = y0 at *
     generalize mdE r = E at *
     by_cases hneg : 2147483648 ≤ w
     · have hx : Op.negFloat .f32 r = w := by rw [neg32 (by omega)]; have := hw.lt; omega
       have e0 : fcmp .eql .f32 w 0 = false := by
         have := zTh hrp hrf true
         have hww : single.word true r = w := by
           unfold Format.word; rw [sw1,if_pos rfl]; have := hw.lt; omega
         rw [hww] at this; exact this
       rw [decide_eq_true hneg] at rcp
       try simp -dsimp (maxSteps := 1000000) only [go_sem,↓reduceIte,yab,Tryz.f185,rcp,zAh,hne48,rc,rn1,rn2,k1,k2,k3,k4,hfl,rl,hfc,hx,e0,rfs,hse,yaH,yaI,yaJ,Int.reduceNeg]
     · have hx : r = w := by have := hw.lt; omega
       subst hx
       rw [decide_eq_false hneg] at rcp
       try simp -dsimp (maxSteps := 1000000) only [go_sem,↓reduceIte,yab,Tryz.f185,rcp,zAh,hne48,rc,rn1,rn2,k1,k2,k3,k4,hfl,rl,hfc,rfs,hse,yaH,yaI,yaJ,Int.reduceNeg]
 | none =>
   have ho : prsO s = (0,false) := by simp [prsO,hp]
   rw [ho]
   obtain ⟨T,ng,hcp⟩ : ∃ T ng,cutP 45 s = (T,ng) := ⟨_,_,rfl⟩
   rw [hcp] at rcp hcl
   simp only at rcp hcl
   have h48 : T ≠ [48] := fun e => by
     subst e
     have hsT : s = [48] ∨ s = [45,48] := by
       cases s with
       | nil => simp [cutP] at hcp
       | cons b t =>
         simp only [cutP] at hcp
         split at hcp
         · rename_i hb
           simp only [Prod.mk.injEq] at hcp
           right; rw [hb,hcp.1]
         · simp only [Prod.mk.injEq] at hcp
           left; exact hcp.1
     rcases hsT with e | e
     · exact zOd hp (w := 0) ⟨by omega,by omega⟩ (by rw [e]; decide)
     · exact zOd hp (w := 2147483648) ⟨by omega,by omega⟩ (by rw [e]; decide)
   have hne48 := eq_false h48
   have rc := zYc (s := T) (by omega) 112
   simp only [oCut] at rc
   obtain ⟨cl1,cl2⟩ := zQb1 T 112
   obtain ⟨A,B,f,hcut⟩ : ∃ A B f,Lib.cut T [112] = (A,B,f) := ⟨_,_,_,rfl⟩
   rw [hcut] at rc cl1 cl2
   simp only at rc cl1 cl2
   have rn1 := zDe (s := A) (by omega)
   have rn2 := zDe (s := B) (by omega)
   cases o1 : (numF A).2 with
   | false =>
     rw [o1] at rn1
     try simp -dsimp (maxSteps := 1000000) only [go_sem,↓reduceIte,yab,Tryz.f185,rcp,zAh,hne48,rc,rn1,rn2,yaH,yaI]
   | true =>
   cases o2 : (numF B).2 with
   | false =>
     rw [o1] at rn1
     rw [o2] at rn2
     try simp -dsimp (maxSteps := 1000000) only [go_sem,↓reduceIte,yab,Tryz.f185,rcp,zAh,hne48,rc,rn1,rn2,yaH,yaI]
   | true =>
   have hse : s ≠ [] := fun e => by
     subst e
     simp [cutP] at hcp
     obtain ⟨rfl,rfl⟩ := hcp
     have : Lib.cut [] [112] = ([],[],false) := zTl (by simp)
     rw [this] at hcut
     simp only [Prod.mk.injEq] at hcut
     obtain ⟨rfl,-,-⟩ := hcut
     have : numF [] = (0,false) := by decide
     rw [this] at o1; cases o1
   rw [o1] at rn1
   rw [o2] at rn2
   generalize (numF A).1 = m at *
   generalize (numF B).1 = E at *
   have key : ∀ x,x < 4294967296 → ((fsT x = s) = False) ∧ zDr.run [.c (.im (.flt .f32 x))] [] = some (.one { val := .c (.im (.str ⟨(fsT x).toArray⟩)) }) := fun x hx => ⟨eq_false (zAu1 hp hse hx),zAs hx⟩
   by_cases k1 : m < 1
   · have k1 := eq_true k1
     try simp -dsimp (maxSteps := 1000000) only [go_sem,↓reduceIte,yab,Tryz.f185,rcp,zAh,hne48,rc,rn1,rn2,k1,yaH,yaI,yaJ,Int.reduceNeg]
   by_cases k2 : 16777216 ≤ m
   · have k1 := eq_false k1
     have k2 := eq_true k2
     try simp -dsimp (maxSteps := 1000000) only [go_sem,↓reduceIte,yab,Tryz.f185,rcp,zAh,hne48,rc,rn1,rn2,k1,k2,yaH,yaI,yaJ,Int.reduceNeg]
   by_cases k3 : E < -200
   · have k1 := eq_false k1
     have k2 := eq_false k2
     have k3 := eq_true k3
     try simp -dsimp (maxSteps := 1000000) only [go_sem,↓reduceIte,yab,Tryz.f185,rcp,zAh,hne48,rc,rn1,rn2,k1,k2,k3,yaH,yaI,yaJ,Int.reduceNeg]
   by_cases k4 : 200 < E
   · have k1 := eq_false k1
     have k2 := eq_false k2
     have k3 := eq_false k3
     have k4 := eq_true k4
     try simp -dsimp (maxSteps := 1000000) only [go_sem,↓reduceIte,yab,Tryz.f185,rcp,zAh,hne48,rc,rn1,rn2,k1,k2,k3,k4,yaH,yaI,yaJ,Int.reduceNeg]
   obtain ⟨mn,rfl⟩ : ∃ n : Nat,m = (n : Int) := ⟨m.toNat,by omega⟩
   have rl := zVc (m := mn) (e := E) (by omega) (by omega) (by omega) (by omega)
   have hfl := zKq (m := mn)
   have k1 := eq_false k1
   have k2 := eq_false k2
   have k3 := eq_false k3
   have k4 := eq_false k4
   generalize dW mn E = y at *
   generalize dW mn 0 = y0 at *
   clear hcp hcut h48 o1 o2
   have fin : ∀ x,x < 4294967296 → ∃ x',x' = Op.negFloat .f32 x ∧ x' < 4294967296 := fun x hx => ⟨_,rfl,zJz1 hx⟩
   cases hfc : fconv .f64 y .f32 with
   | some x =>
     have hx := zAy1 hfc
     obtain ⟨q1,q2⟩ := key x hx
     cases ng with
     | false =>
       try simp -dsimp (maxSteps := 1000000) only [go_sem,↓reduceIte,yab,Tryz.f185,rcp,zAh,hne48,rc,rn1,rn2,k1,k2,k3,k4,hfl,rl,hfc,q1,q2,yaH,yaI,yaJ,Int.reduceNeg]
     | true =>
       obtain ⟨x',hx',hl'⟩ := fin x hx
       obtain ⟨q3,q4⟩ := key x' hl'
       have hx'' := hx'.symm
       cases hz : fcmp .eql .f32 x' 0 with
       | false =>
         try simp -dsimp (maxSteps := 1000000) only [go_sem,↓reduceIte,yab,Tryz.f185,rcp,zAh,hne48,rc,rn1,rn2,k1,k2,k3,k4,hfl,rl,hfc,hx'',hz,q3,q4,yaH,yaI,yaJ,Int.reduceNeg]
       | true =>
         obtain ⟨q5,q6⟩ := key 2147483648 (by omega)
         generalize (2147483648 : Nat) = z at *
         try simp -dsimp (maxSteps := 1000000) only [go_sem,↓reduceIte,yab,Tryz.f185,rcp,zAh,hne48,rc,rn1,rn2,k1,k2,k3,k4,hfl,rl,hfc,hx'',hz,rfb,q5,q6,yaH,yaI,yaJ,Int.reduceNeg]
   | none =>
     cases ng with
     | false =>
       try simp -dsimp (maxSteps := 1000000) only [go_sem,↓reduceIte,yab,Tryz.f185,rcp,zAh,hne48,rc,rn1,rn2,k1,k2,k3,k4,hfl,rl,hfc,cKn,yaH,yaI,yaJ,Int.reduceNeg]
       intro x hx
       obtain ⟨q1,q2⟩ := key x hx
       try simp -dsimp (maxSteps := 1000000) only [go_sem,↓reduceIte,yab,Tryz.f185,q1,q2,zAh,yaH,yaI]
     | true =>
       try simp -dsimp (maxSteps := 1000000) only [go_sem,↓reduceIte,yab,Tryz.f185,rcp,zAh,hne48,rc,rn1,rn2,k1,k2,k3,k4,hfl,rl,hfc,cKn,yaH,yaI,yaJ,Int.reduceNeg]
       intro x hx
       obtain ⟨x',hx',hl'⟩ := fin x hx
       obtain ⟨q3,q4⟩ := key x' hl'
       have hx'' := hx'.symm
       cases hz : fcmp .eql .f32 x' 0 with
       | false =>
         try simp -dsimp (maxSteps := 1000000) only [go_sem,↓reduceIte,yab,Tryz.f185,hx'',hz,q3,q4,zAh,yaH,yaI]
       | true =>
         obtain ⟨q5,q6⟩ := key 2147483648 (by omega)
         generalize (2147483648 : Nat) = z at *
         try simp -dsimp (maxSteps := 1000000) only [go_sem,↓reduceIte,yab,Tryz.f185,hx'',hz,rfb,q5,q6,zAh,yaH,yaI]
end Go.SX
namespace Go.SX
open Go Go.Proofs Ieee
theorem two64 : double.read 4611686018427387904 = .number false 4503599627370496 (-51) := by decide +kernel
theorem zQj {m : Nat} {e : Int} (h : Dr m e) : ∃ M i,double.read (dW m e) = .number false M i ∧ SV M i m e ∧ 4503599627370496 ≤ M ∧ M < 9007199254740992 ∧ i + 52 = e + m.log2 ∧ M.log2 = 52 := by
 obtain ⟨e1,g1,g2,hl⟩ := zCi h
 refine ⟨_,_,zJm h,(SV.shl m e _).symm,g1,g2,by omega,?_⟩
 have a := zGd (M := m * 2 ^ (52 - m.log2)) (k := 52) (by simpa using g1)
 have b := zBt (M := m * 2 ^ (52 - m.log2)) (k := 52) (by omega) (by simpa using g2)
 omega
theorem half64 {m : Nat} {e : Int} (h : Dr m e) : fop .quo .f64 (dW m e) 4611686018427387904 = dW m (e - 1) := by
 obtain ⟨M,i,r,sv,g1,g2,hi,hl⟩ := zQj h
 have e2 : double.div (dW m e) 4611686018427387904 = some (dW m (e - 1)) := by
   unfold Format.div
   rw [r,two64]
   have l2 : (4503599627370496 : Nat).log2 = 52 := by decide +kernel
   have hf : double.fractionBits = 52 := rfl
   simp only [Datum.quotient,l2,hl,hf]
   rw [if_neg (by decide)]
   have q1 : M <<< (52 + 2 + 52 - 52) / 4503599627370496 = M * 4 := by
     rw [zDb]
     show M * 18014398509481984 / 4503599627370496 = M * 4
     omega
   have q2 : M <<< (52 + 2 + 52 - 52) % 4503599627370496 = 0 := by
     rw [zDb]
     show M * 18014398509481984 % 4503599627370496 = 0
     omega
   rw [q1,q2]
   simp only [yaK,Format.write,Bool.false_xor,bne_self_eq_false,Bool.toNat_false]
   rw [dW]
   refine congrArg some ?_
   have s1 := (SV.shl M (i - 1) 3).symm.trans (sv.add (-1))
   have s2 : M * 2 ^ 3 = 2 * (M * 4) + 0 := by omega
   rw [s2] at s1
   have s3 : i - 1 - ((3 : Nat) : Int) = i - -51 - ↑(52 + 2 + 52 - 52 : Nat) - 1 := by omega
   rw [s3] at s1
   obtain ⟨M',last,a,b,_,_,_⟩ := zOx h
   have hz : Can double M' (last - 1) ∧ SV m (e - 1) M' (last - 1) := by
     refine ⟨⟨a.pos,a.lt,?_,?_⟩,b.add (-1)⟩
     · rw [ep2]; omega
     · rcases a.form with hq | hq
       · rw [ep2] at hq; omega
       · exact .inr hq
   rw [zBw hz.1 (s1.trans hz.2),zBw hz.1 hz.2]
 show (double.div (dW m e) _).getD _ = _
 rw [e2]; rfl
theorem twice64 {m : Nat} {e : Int} (h : Dr m e) (h' : Dr m (e + 1)) : fop .mul .f64 (dW m e) 4611686018427387904 = dW m (e + 1) := by
 obtain ⟨M,i,r,sv,g1,g2,hi,hl⟩ := zQj h
 have e2 : double.mul (dW m e) 4611686018427387904 = some (dW m (e + 1)) := by
   unfold Format.mul
   rw [r,two64]
   simp only [Datum.product,yaK,Format.write,Bool.false_xor]
   congr 1
   refine zYk h' ?_
   have b : SV 1 1 4503599627370496 (-51) := SV.shl 1 1 52
   have := SV.mul sv.symm b
   rw [Nat.mul_one] at this
   exact this
 show (double.mul (dW m e) _).getD _ = _
 rw [e2]; rfl
theorem zHv1 (a b : Nat) : compare (a : Int) (b : Int) = if a < b then .lt else if a = b then .eq else .gt := by
 simp only [compare,compareOfLessAndEq]
 have h1 : ((a : Int) < b) = (a < b) := by simp
 have h2 : ((a : Int) = b) = (a = b) := propext ⟨fun h => by omega,fun h => by omega⟩
 simp only [h1,h2]
theorem geq24 {m : Nat} {e : Int} (h : Dr m e) : fcmp .geq .f64 (dW m e) 4715268809856909312 = decide (24 ≤ e + m.log2) := by
 have hc : double.read 4715268809856909312 = .number false 4503599627370496 (-28) := by decide +kernel
 obtain ⟨M,i,r,sv,g1,g2,hi,hl⟩ := zQj h
 show (double.order (dW m e) 4715268809856909312 == some .gt || double.order (dW m e) 4715268809856909312 == some .eq) = _
 unfold Format.order
 rw [r,hc]
 simp only [Datum.order]
 have s : ∀ n k : Nat,signed false n k = ((n * 2 ^ k : Nat) : Int) := fun n k => by simp [signed,zDb]
 rw [s,s,zHv1]
 by_cases hg : 24 ≤ e + m.log2
 · rw [decide_eq_true hg]
   have b1 : min i (-28) = -28 := by omega
   rw [b1]
   have z : (-28 - -28 : Int).toNat = 0 := rfl
   rw [z,Nat.pow_zero,Nat.mul_one]
   have := Nat.mul_le_mul g1 (Nat.two_pow_pos (i - -28).toNat)
   rw [if_neg (by omega)]
   split <;> rfl
 · rw [decide_eq_false hg]
   have b1 : min i (-28) = i := by omega
   rw [b1]
   have z : (i - i : Int).toNat = 0 := by omega
   rw [z,Nat.pow_zero,Nat.mul_one]
   have p : 2 ^ 1 ≤ 2 ^ (-28 - i).toNat := Nat.pow_le_pow_right (by omega) (by omega)
   have := Nat.mul_le_mul_left 4503599627370496 p
   rw [if_pos (by omega)]
   rfl
theorem neq64 {m n : Nat} {e j : Int} (h : Dr m e) (h' : Dr n j) (hs : ¬ SV m e n j) : fcmp .neq .f64 (dW m e) (dW n j) = true := by
 obtain ⟨M,i,r,sv,_⟩ := zQj h
 obtain ⟨M',i',r',sv',_⟩ := zQj h'
 show (double.order (dW m e) (dW n j) != some .eq) = true
 unfold Format.order
 rw [r,r']
 simp only [Datum.order]
 have s : ∀ n k : Nat,signed false n k = ((n * 2 ^ k : Nat) : Int) := fun n k => by simp [signed,zDb]
 rw [s,s,zHv1]
 have hn : ¬ M * 2 ^ (i - min i i').toNat = M' * 2 ^ (i' - min i i').toNat := fun he =>
   hs (sv.symm.trans ((show SV M i M' i' from ⟨min i i',by omega,by omega,he⟩).trans sv'))
 rw [if_neg hn]
 split <;> rfl
theorem whole64 {m : Nat} {e : Int} (h : Dr m e) (hs : e + m.log2 ≤ 23) : ∃ T : Nat,T < 16777216 ∧ (FloatKind.f64.decode (dW m e)).toInt .zero = some (T : Int) ∧ ((fcmp .neq .f64 (dW m e) (FloatKind.f64.nearest (T : Int)) = false ∧ SV m e T 0 ∧ 0 < T) ∨ (fcmp .neq .f64 (dW m e) (FloatKind.f64.nearest (T : Int)) = true ∧ e < 0)) := by
 obtain ⟨M,i,r,sv,g1,g2,hi,hl⟩ := zQj h
 have hi0 : i < 0 := by omega
 obtain ⟨k,hk⟩ : ∃ k : Nat,i = -(k : Int) := ⟨(-i).toNat,by omega⟩
 have hk29 : 29 ≤ k := by omega
 refine ⟨M / 2 ^ k,?_,?_,?_⟩
 · have p : 2 ^ 29 ≤ 2 ^ k := Nat.pow_le_pow_right (by omega) hk29
   calc M / 2 ^ k ≤ M / 2 ^ 29 := Nat.div_le_div_left p (by omega)
     _ < 16777216 := by omega
 · have hd : FloatKind.f64.decode (dW m e) = .number false M i := r
   rw [hd]
   unfold Datum.toInt Datum.integral
   have z : i.toNat = 0 := by omega
   have z2 : (-i).toNat = k := by omega
   simp only [z,z2,Nat.shiftLeft_zero]
   have hc : Toward.zero.cut false M k = M / 2 ^ k := by
     unfold Toward.cut
     simp only [Bool.toNat_false,yaP,zDb,Nat.one_mul]
     by_cases hle : k ≤ M.log2 + 2
     · rw [Nat.min_eq_left hle]
     · rw [Nat.min_eq_right (by omega)]
       have a : M < 2 ^ (M.log2 + 2) := Nat.lt_trans Nat.lt_log2_self (Nat.pow_lt_pow_right (by omega) (by omega))
       have b : M < 2 ^ k := Nat.lt_of_lt_of_le a (Nat.pow_le_pow_right (by omega) (by omega))
       rw [Nat.div_eq_of_lt a,Nat.div_eq_of_lt b]
   rw [hc]
   simp [signed]
 · rw [zKq]
   by_cases hw : SV m e (M / 2 ^ k) 0
   · have hp := hw.pos h.pos
     refine .inl ⟨?_,hw,hp⟩
     rw [zSw1 h hw]
     exact zMl1 h
   · refine .inr ⟨?_,?_⟩
     · by_cases hT : M / 2 ^ k = 0
       · rw [hT]
         have z : dW 0 0 = 0 := by decide +kernel
         rw [z]
         show (double.order (dW m e) 0 != some .eq) = true
         rw [zWy h]; rfl
       · have hlt : M / 2 ^ k < 9007199254740992 := Nat.lt_of_le_of_lt (Nat.div_le_self _ _) g2
         exact neq64 h (Dr.nat (Nat.pos_of_ne_zero hT) hlt) hw
     · apply Classical.byContradiction
       intro he
       apply hw
       have s1 := SV.shl m e e.toNat
       have z : e - (e.toNat : Int) = 0 := by omega
       rw [z] at s1
       have s2 := sv.trans s1
       rw [hk] at s2
       have s3 := s2.symm.le (by omega)
       have z2 : ((0 : Int) - -(k : Int)).toNat = k := by omega
       rw [z2] at s3
       have : M / 2 ^ k = m * 2 ^ e.toNat := by rw [s3,Nat.mul_div_cancel _ (Nat.two_pow_pos k)]
       rw [this]
       exact s1
end Go.SX
namespace Go.SX
open Go Go.Proofs Ieee
theorem zBd1 : ∀ (f n : Nat),n < 10 ^ f → 0 < f → digF f n = Lib.decDigits n
 | 0,_,_,h => by omega
 | f + 1,n,h,_ => by
   unfold Lib.decDigits
   simp only [digF]
   split
   · rename_i h1
     rfl
   · rename_i h1
     rw [Nat.pow_succ] at h
     have a : n / 10 < 10 ^ f := Nat.div_lt_of_lt_mul (by omega)
     have b : 0 < f := by
       rcases Nat.eq_zero_or_pos f with rfl | h2
       · simp at a; omega
       · exact h2
     rw [zBd1 f (n / 10) a b]
     rfl
theorem zBc1 {n : Nat} (h : n < 100000000000000000000) : digs n = Lib.decDigits n := zBd1 20 n h (by omega)
theorem zGu1 (n : Nat) : Lib.itoa (n : Int) = Lib.decDigits n := by
 unfold Lib.itoa
 rw [if_neg (by omega),Int.toNat_natCast]
theorem zKp1 {n : Int} (h : n < 0) : Lib.itoa n = 45 :: Lib.decDigits (-n).toNat := by
 unfold Lib.itoa
 rw [if_pos h]
 congr 2
 omega
abbrev INum := { n : Int // -9223372036854775807 ≤ n ∧ n ≤ 9223372036854775807 }
noncomputable def zLy : Ct := fam true (fun x : INum => ([.c (.im (.int .i64 x.1))],[])) (fun x => .one { val := .c (.im (.str ⟨(Lib.itoa x.1).toArray⟩)) })
theorem zDl {n : Int} (h : -9223372036854775807 ≤ n ∧ n ≤ 9223372036854775807) : zLy.run [.c (.im (.int .i64 n))] [] = some (.one { val := .c (.im (.str ⟨(Lib.itoa n).toArray⟩)) }) := zAd (args := fun x : INum => ([D.c (.im (.int .i64 x.1))],[])) (fun a b h => by simp at h; exact Subtype.ext h) (⟨n,h⟩ : INum)
theorem zJt : Law Tryz.prog 133 zLy := by
 refine zAi (zAc zVz zAf) hmixA Tryz.func133 rfl rfl (fun ⟨n,hn1,hn2⟩ => ⟨zAv rfl,by simp [Tryz.f133],?_⟩)
 simp only
 by_cases hneg0 : n < 0
 · obtain ⟨k,hk⟩ : ∃ k : Nat,-n = (k : Int) := ⟨(-n).toNat,by omega⟩
   have hneg : (n < 0) = True := eq_true hneg0
   have hw : IntKind.i64.wrap (0 - n) = (k : Int) := by rw [zAg (by omega) (by omega)]; omega
   have hw2 : IntKind.i64.wrap (-n) = (k : Int) := by rw [zAg (by omega) (by omega)]; omega
   have hi : Lib.itoa n = [45] ++ digs k := by
     rw [zKp1 hneg0,zBc1 (by omega),hk,Int.toNat_natCast]; rfl
   have hl := zMw 20 k
   have hsz : (1 + (digs k).length ≤ 4611686018427387904) = True := eq_true (by unfold digs; omega)
   have rn := zUt (n := k) (by omega)
   unfold strL at rn
   rw [hi]
   generalize digs k = X at *
   try simp -dsimp (maxSteps := 1000000) only [go_sem,↓reduceIte,yab,Tryz.f133,hneg,hw,hw2,rn,zBo,zAp,hsz,yaX,yas,List.length_nil,Nat.zero_add]
 obtain ⟨n,rfl⟩ : ∃ k : Nat,n = (k : Int) := ⟨n.toNat,by omega⟩
 have hn : n < 9223372036854775808 := by omega
 have hi : (⟨(Lib.itoa (n : Int)).toArray⟩ : ByteArray) = strL (digs n) := by rw [zGu1,zBc1 (by omega)]; rfl
 rw [hi]
 have hneg : ((n : Int) < 0) = False := eq_false (by omega)
 have h10 : ((10 : Int) = 0) = False := by simp
 have hm : ∀ k : Nat,(k : Int).tmod 10 = ((k % 10 : Nat) : Int) := fun k => by rw [Int.tmod_eq_emod_of_nonneg (by omega)]; omega
 have hd : ∀ k : Nat,k < 9223372036854775808 → IntKind.i64.wrap ((k : Int).tdiv 10) = ((k / 10 : Nat) : Int) := fun k hk => by
   rw [Int.tdiv_eq_ediv_of_nonneg (by omega),zAg (by omega) (by omega)]; omega
 have hw : ∀ k : Nat,IntKind.i64.wrap (48 + ((k % 10 : Nat) : Int)) = ((48 + k % 10 : Nat) : Int) := fun k => by rw [zAg (by omega) (by omega)]; omega
 have hw8 : ∀ k : Nat,IntKind.u8.wrap ((48 + k % 10 : Nat) : Int) = ((48 + k % 10 : Nat) : Int) := fun k => by
   show (((48 + k % 10 : Nat) : Int) % 256) = _
   omega
 have hbs : ∀ k : Nat,bytesS [((48 + k % 10 : Nat) : Int)] = strL [dig (k % 10)] := fun k => by rw [zPk]; rfl
 try simp -dsimp (maxSteps := 1000000) only [go_sem,↓reduceIte,yab,Tryz.f133,hneg,h10,hm,hd n hn,hw,hw8,hbs]
 refine zBa (ι := { x : Nat × List UInt8 // x.1 < 9223372036854775808 ∧ digR x.1 x.2 = digs n }) (fun x => ⟨[(0,some (.c (.im (.int .i64 (x.1.1 : Int))))),(3,some (.c (.im (.str (strL x.1.2)))))],[],0⟩) (fun x => x.1.1)
   ⟨(n / 10,[dig (n % 10)]),by omega,by
     by_cases h0 : n = 0
     · subst h0; rfl
     · rw [← zJz (by omega) (by omega) []]; simp [digR,h0]⟩ ⟨[],[],by (simp only [go_sem,↓reduceIte,yab,yai]) <;> simp⟩ (fun ⟨⟨k,cur⟩,hk,hinv⟩ => ?_)
 simp only at hk hinv ⊢
 by_cases h0 : k = 0
 · subst h0
   have hI : ((0 : Int) < ((0 : Nat) : Int)) = False := by simp
   simp only [digR,yal] at hinv
   try simp -dsimp (maxSteps := 1000000) only [go_sem,↓reduceIte,yab,Tryz.f133,hI,hinv]
 · have hI : ((0 : Int) < (k : Int)) = True := eq_true (by omega)
   have hlen : cur.length ≤ 20 := by
     have := congrArg List.length hinv
     have h20 := zMw 20 n
     simp only [digR,h0,yak,yar] at this
     unfold digs at this
     omega
   have hsz : ((strL [dig (k % 10)]).size + (strL cur).size ≤ 4611686018427387904) = True := eq_true (by rw [zJc,zJc]; simp; omega)
   rw [zJz (by omega) (by omega)] at hinv
   try simp -dsimp (maxSteps := 1000000) only [go_sem,↓reduceIte,yab,Tryz.f133,hI,h10,hm,hd k hk,hw,hw8,hbs,hsz,zZs]
   exact ⟨⟨(k / 10,dig (k % 10) :: cur),by omega,hinv⟩,by simp only []; omega,[],[],by (simp only [go_sem,↓reduceIte,yab,yai]) <;> simp⟩
theorem lss0 {r : Nat} (h0 : 0 < r) (h1 : r < 2139095040) (s : Bool) : fcmp .lss .f32 (single.word s r) 0 = s := by
 have hr := zCy (f := single) (by decide) (r := r) (by rw [ir1]; exact h1) s
 have hz : single.read 0 = .number false 0 (-149) := by decide
 show (single.order (single.word s r) 0 == some .lt) = s
 unfold Format.order
 rw [hr,hz]
 simp only [Datum.order]
 have hp := zEt h0
 have h2 : ∀ k,signed false 0 k = 0 := fun k => by simp [signed]
 rw [h2]
 obtain ⟨k,hk⟩ : ∃ k,(rgE single r - min (rgE single r) (-149)).toNat = k := ⟨_,rfl⟩
 rw [hk]
 have hX := Nat.mul_pos hp (Nat.two_pow_pos k)
 generalize hx : rgM single r * 2 ^ k = X at hX
 cases s with
 | false =>
   have e : signed false (rgM single r) k = (X : Int) := by simp [signed,zDb,hx]
   have a : ¬ ((X : Int) < 0) := by omega
   rw [e]
   simp only [compare,compareOfLessAndEq]
   rw [if_neg a]
   split <;> rfl
 | true =>
   have e : signed true (rgM single r) k = -(X : Int) := by simp [signed,zDb,hx]
   have a : (-(X : Int) < 0) := by omega
   rw [e]
   simp only [compare,compareOfLessAndEq]
   rw [if_pos a]
   rfl
theorem zRf {w : Nat} (h : w < 4294967296) : w = single.word (decide (2147483648 ≤ w)) (w % 2147483648) := by
 unfold Format.word
 rw [sw1]
 by_cases hs : 2147483648 ≤ w
 · rw [if_pos (by simp [hs])]; omega
 · rw [if_neg (by simp [hs])]; omega
theorem zFk1 {w : Nat} (h : 2147483648 ≤ w) (h2 : w < 4294967296) : Op.negFloat .f32 w = w % 2147483648 := by
 have hx : Op.negFloat .f32 w = w ^^^ 2 ^ 31 := rfl
 rw [hx]
 apply Nat.eq_of_testBit_eq
 intro i
 rw [Nat.testBit_xor,show (2147483648 : Nat) = 2 ^ 31 from rfl,Nat.testBit_mod_two_pow,Nat.testBit_two_pow]
 by_cases h31 : i = 31
 · subst h31
   have : w.testBit 31 = true := by
     rw [Nat.testBit_eq_decide_div_mod_eq]
     have : w / 2 ^ 31 = 1 := by omega
     rw [this]; rfl
   rw [this]; simp
 · by_cases hlt : i < 31
   · have : ¬ 31 = i := by omega
     simp [hlt,this]
   · have a : w < 2 ^ i := Nat.lt_of_lt_of_le h2 (show 2 ^ 32 ≤ 2 ^ i from Nat.pow_le_pow_right (by omega) (by omega))
     rw [Nat.testBit_lt_two_pow a]
     have : ¬ 31 = i := by omega
     simp [this]
theorem zLp1 {w : Nat} (h : w < 4294967296) (h0 : 0 < w % 2147483648) (h1 : w % 2147483648 < 2139095040) : absS w = w % 2147483648 := by
 have e := zRf h
 have l := lss0 h0 h1 (decide (2147483648 ≤ w))
 have q := zTh h0 h1 (decide (2147483648 ≤ w))
 rw [← e] at l q
 unfold absS
 rw [l,q]
 by_cases hs : 2147483648 ≤ w
 · rw [if_pos (by simp [hs]),zFk1 hs h]
 · rw [if_neg (by simp [hs]),if_neg (by simp)]; omega
theorem zIw1 {m : Nat} {e : Int} {r : Nat} (h0 : 0 < m) (hr0 : 0 < r) (hr : r < 2139095040) (h : SV m e (rgM single r) (rgE single r)) : e + m.log2 ≤ 127 ∧ -149 ≤ e + m.log2 := by
 have a := h.log h0
 have b := zJg hr
 have c := zBt (k := 23) (zEt hr0) (zHq (r := r))
 omega
theorem zAz : Law Tryz.prog 63 zDr := by
 refine zAi (zAc zHg (zAc zGk1 (zAc zJt zAf))) hmixA Tryz.func63 rfl rfl (fun ⟨w,hw⟩ => ⟨zAv rfl,by simp [Tryz.f63],?_⟩)
 simp only
 have f := zTb w
 cases hf : isFin w with
 | false =>
   have e : fsT w = [] := by simp [fsT,hf]
   rw [hf] at f
   try simp -dsimp (maxSteps := 1000000) only [go_sem,↓reduceIte,yab,Tryz.f63,zBv,f,e,yaI]
 | true =>
   rw [hf] at f
   have hr : w % 2147483648 < 2139095040 := by simp only [isFin,yax] at hf; omega
   by_cases h0 : w % 2147483648 = 0
   · rcases (show w = 0 ∨ w = 2147483648 by omega) with rfl | rfl
     · have f2 : fcmp .eql .f32 0 0 = true := by decide +kernel
       have f3 : fcmp .lss .f32 (fop .quo .f32 1065353216 0) 0 = false := by decide +kernel
       have e : fsT 0 = [48] := by decide +kernel
       try simp -dsimp (maxSteps := 1000000) only [go_sem,↓reduceIte,yab,Tryz.f63,zBv,f,f2,f3,e,yaH]
     · have f2 : fcmp .eql .f32 2147483648 0 = true := by decide +kernel
       have f3 : fcmp .lss .f32 (fop .quo .f32 1065353216 2147483648) 0 = true := by decide +kernel
       have e : fsT 2147483648 = [45,48] := by decide +kernel
       try simp -dsimp (maxSteps := 1000000) only [go_sem,↓reduceIte,yab,Tryz.f63,zBv,f,f2,f3,e,yaH]
   have h0 : 0 < w % 2147483648 := Nat.pos_of_ne_zero h0
   have ew := zRf hw
   have l := lss0 h0 hr (decide (2147483648 ≤ w))
   have q := zTh h0 hr (decide (2147483648 ≤ w))
   rw [← ew] at l q
   have ab := zLp1 hw h0 hr
   have hT : fsT w = sgnT (decide (2147483648 ≤ w)) ++ magT (w % 2147483648) := by simp [fsT,hf,fmtT]
   obtain ⟨S,hS,sl,c31⟩ : ∃ S : Txt,fsT w = S ++ magT (w % 2147483648) ∧ S.length ≤ 1 ∧ (fcmp .lss .f32 w 0 = true ∧ S = [45] ∨ fcmp .lss .f32 w 0 = false ∧ S = []) := by
     rw [hT]
     by_cases hs : 2147483648 ≤ w
     · exact ⟨[45],by simp [sgnT,hs],by simp,.inl ⟨by rw [l]; simp [hs],rfl⟩⟩
     · exact ⟨[],by simp [sgnT,hs],by simp,.inr ⟨by rw [l]; simp [hs],rfl⟩⟩
   clear hT l
   rw [hS]
   generalize hre : w % 2147483648 = r at *
   have fw := zDf1 h0 hr
   have hmd := zSc h0 hr
   have hMp := zEt h0
   have hMl := zHq (r := r)
   have hM2 := zBt (k := 23) hMp hMl
   obtain ⟨E1,E2⟩ := zJg hr
   have hmag : magT r = Lib.itoa (mdM r) ++ [112] ++ Lib.itoa (mdE r) := by simp [magT,Nat.ne_of_gt h0]
   have svb := fun (m : Nat) (e : Int) (h0' : 0 < m) (h : SV m e (rgM single r) (rgE single r)) => zIw1 h0' h0 hr h
   have hun := fun (m : Nat) (e : Int) (h : SV m e (rgM single r) (rgE single r)) (ho : m % 2 = 1) => zCk1 (h.trans hmd.sv.symm) ho hmd.odd
   generalize hM : rgM single r = M at *
   generalize hE : rgE single r = E at *
   have n2 : ((2 : Int) = 0) = False := by simp
   have i1 : IntKind.i64.min = -9223372036854775808 := by decide
   have i2 : IntKind.i64.max = 9223372036854775807 := by decide
   have dr : ∀ a : Int,-200 ≤ a → a ≤ 200 → Dr M a := fun a h1 h2 => ⟨hMp,by omega,by omega,by omega⟩
   obtain ⟨Y0,hY0⟩ : ∃ y,y = dW M E := ⟨_,rfl⟩
   rw [← hY0] at fw
   rcases c31 with ⟨c31,rfl⟩ | ⟨c31,rfl⟩
   · skip
     try simp -dsimp (maxSteps := 1000000) only [go_sem,↓reduceIte,yab,Tryz.f63,zBv,f,q,c31,zUu,ab,fw,yaH]
     refine zBa (ι := { x : Nat × Int // x.1 = dW M x.2 ∧ x.2 ≤ E ∧ (x.2 = E ∨ 0 ≤ x.2) }) (fun a => ⟨[(3,some (.c (.im (.str ⟨([45] : Txt).toArray⟩)))),(4,some (.c (.im (.flt .f64 a.1.1)))),(5,some (.c (.im (.int .i64 (E - a.1.2)))))],[],0⟩) (fun a => (a.1.2 + 1).toNat) ⟨(Y0,E),hY0,by omega,.inl rfl⟩ ⟨[],[],by (simp only [go_sem,↓reduceIte,yab,yai,Int.sub_self]) <;> simp⟩ (fun ⟨⟨Y,a⟩,hY,ha1,ha2⟩ => ?_)
     simp only at hY ha1 ha2 ⊢
     obtain ⟨Y',hY'⟩ : ∃ y,y = dW M (a - 1) := ⟨_,rfl⟩
     by_cases hg0 : 24 ≤ a + M.log2
     · have hg : fcmp .geq .f64 Y 4715268809856909312 = true := by rw [hY,geq24 (dr a (by omega) (by omega)),decide_eq_true hg0]
       have hh := half64 (dr a (by omega) (by omega))
       rw [← hY,← hY'] at hh
       have hw1 : IntKind.i64.wrap (E - a + 1) = E - (a - 1) := by rw [zAg (by omega) (by omega)]; omega
       try simp -dsimp (maxSteps := 1000000) only [go_sem,↓reduceIte,yab,Tryz.f63,hg,hh,hw1]
       exact ⟨⟨(Y',a - 1),hY',by simp only []; omega,.inr (by simp only []; omega)⟩,by simp only []; omega,[],[],by (simp only [go_sem,↓reduceIte,yab,yai]) <;> simp⟩
     have hg : fcmp .geq .f64 Y 4715268809856909312 = false := by rw [hY,geq24 (dr a (by omega) (by omega)),decide_eq_false hg0]
     try simp -dsimp (maxSteps := 1000000) only [go_sem,↓reduceIte,yab,Tryz.f63,hg]
     refine zBa (ι := { x : Nat × Int // x.1 = dW M x.2 ∧ -149 ≤ x.2 ∧ x.2 ≤ 104 ∧ x.2 + M.log2 ≤ 23 }) (fun a => ⟨[(3,some (.c (.im (.str ⟨([45] : Txt).toArray⟩)))),(4,some (.c (.im (.flt .f64 a.1.1)))),(5,some (.c (.im (.int .i64 (E - a.1.2)))))],[],0⟩) (fun a => (-a.1.2).toNat) ⟨(Y,a),hY,by simp only []; omega,by simp only []; omega,by simp only []; omega⟩ ⟨[],[],by (simp only [go_sem,↓reduceIte,yab,yai]) <;> simp⟩ (fun ⟨⟨Y,a⟩,hY,ha1,ha2,ha3⟩ => ?_)
     simp only at hY ha1 ha2 ha3 ⊢
     obtain ⟨Y',hY'⟩ : ∃ y,y = dW M (a + 1) := ⟨_,rfl⟩
     have da := dr a (by omega) (by omega)
     have nn := zBe1 da
     obtain ⟨T,hT,hti,hcase⟩ := whole64 da ha3
     rw [← hY] at nn hti hcase
     obtain ⟨N,hN⟩ : ∃ n,n = FloatKind.f64.nearest (T : Int) := ⟨_,rfl⟩
     rw [← hN] at hcase
     have hN' := hN.symm
     have r1 : (IntKind.i64.min ≤ (T : Int) ∧ (T : Int) ≤ IntKind.i64.max) = True := eq_true (by rw [i1,i2]; omega)
     rcases hcase with ⟨hq,hsv,hT0⟩ | ⟨hq,hneg⟩
     case inr =>
       have h2 := twice64 da (dr (a + 1) (by omega) (by omega))
       rw [← hY,← hY'] at h2
       have hw1 : IntKind.i64.wrap (E - a - 1) = E - (a + 1) := by rw [zAg (by omega) (by omega)]; omega
       try simp -dsimp (maxSteps := 1000000) only [go_sem,↓reduceIte,yab,Tryz.f63,nn,hti,r1,hN',hq,h2,hw1]
       exact ⟨⟨(Y',a + 1),hY',by simp only []; omega,by simp only []; omega,by simp only []; omega⟩,by simp only []; omega,[],[],by (simp only [go_sem,↓reduceIte,yab,yai]) <;> simp⟩
     have hs0 : SV T (E - a) M E := by
       have := hsv.symm.add (E - a)
       have z1 : (0 : Int) + (E - a) = E - a := by omega
       have z2 : a + (E - a) = E := by omega
       rw [z1,z2] at this
       exact this
     try simp -dsimp (maxSteps := 1000000) only [go_sem,↓reduceIte,yab,Tryz.f63,nn,hti,r1,hN',hq]
     refine zBa (ι := { x : Nat × Int // 0 < x.1 ∧ x.1 < 16777216 ∧ SV x.1 x.2 M E }) (fun x => ⟨[(3,some (.c (.im (.str ⟨([45] : Txt).toArray⟩)))),(5,some (.c (.im (.int .i64 x.1.2)))),(6,some (.c (.im (.int .i64 (x.1.1 : Int)))))],[],0⟩) (fun x => x.1.1) ⟨(T,E - a),hT0,hT,hs0⟩ ⟨[],[],by (simp only [go_sem,↓reduceIte,yab,yai]) <;> simp⟩ (fun ⟨⟨m,e⟩,q1,q2,q3⟩ => ?_)
     simp only at q1 q2 q3 ⊢
     have hb := svb m e q1 q3
     have hl := zBt (k := 23) q1 q2
     have hm : (m : Int).tmod 2 = ((m % 2 : Nat) : Int) := by rw [Int.tmod_eq_emod_of_nonneg (by omega)]; omega
     by_cases hev : m % 2 = 0
     · have h1 : (((m % 2 : Nat) : Int) = 0) = True := eq_true (by omega)
       have hd : IntKind.i64.wrap ((m : Int).tdiv 2) = ((m / 2 : Nat) : Int) := by rw [Int.tdiv_eq_ediv_of_nonneg (by omega),zAg (by omega) (by omega)]; omega
       have he : IntKind.i64.wrap (e + 1) = e + 1 := zAg (by omega) (by omega)
       have hs1 : SV (m / 2) (e + 1) M E := by
         have := SV.shl (m / 2) (e + 1) 1
         have z1 : m / 2 * 2 ^ 1 = m := by omega
         have z2 : e + 1 - ((1 : Nat) : Int) = e := by omega
         rw [z1,z2] at this
         exact this.trans q3
       try simp -dsimp (maxSteps := 1000000) only [go_sem,↓reduceIte,yab,Tryz.f63,n2,hm,h1,hd,he]
       exact ⟨⟨(m / 2,e + 1),by simp only []; omega,by simp only []; omega,hs1⟩,by simp only []; omega,[],[],by (simp only [go_sem,↓reduceIte,yab,yai]) <;> simp⟩
     · have h1 : (((m % 2 : Nat) : Int) = 0) = False := eq_false (by omega)
       obtain ⟨u1,u2⟩ := hun m e q3 (by omega)
       have b1 : -9223372036854775807 ≤ (m : Int) ∧ (m : Int) ≤ 9223372036854775807 := by omega
       have b2 : -9223372036854775807 ≤ e ∧ e ≤ 9223372036854775807 := by omega
       have ri1 := zDl b1
       have ri2 := zDl b2
       have la := zBd (n := (m : Int)) ⟨by omega,by omega⟩
       have lb := zBd (n := e) ⟨by omega,by omega⟩
       rw [hmag,← u1,← u2]
       generalize Lib.itoa (m : Int) = A at *
       generalize Lib.itoa e = B at *
       have hfin : ([45] : Txt) ++ (A ++ [112] ++ B) = [45] ++ A ++ [112] ++ B := by simp
       rw [hfin]
       have z1 : (([45] ++ A : Txt).length ≤ 4611686018427387904) = True := eq_true (by simp; omega)
       have x0 : (1 + A.length ≤ 4611686018427387904) = True := eq_true (by omega)
       have x1 : (A.length + 1 ≤ 4611686018427387904) = True := eq_true (by omega)
       have x2 : (A.length + 1 + B.length ≤ 4611686018427387904) = True := eq_true (by omega)
       have x3 : (A.length + 1 + 1 ≤ 4611686018427387904) = True := eq_true (by omega)
       have x4 : (A.length + 1 + 1 + B.length ≤ 4611686018427387904) = True := eq_true (by omega)
       have x5 : (1 + A.length + 1 ≤ 4611686018427387904) = True := eq_true (by omega)
       have x6 : (1 + A.length + 1 + B.length ≤ 4611686018427387904) = True := eq_true (by omega)
       have x7 : (A.length ≤ 4611686018427387904) = True := eq_true (by omega)
       try simp -dsimp (maxSteps := 1000000) only [go_sem,↓reduceIte,yab,Tryz.f63,n2,hm,h1,ri1,ri2,zBo,zAp,yaX,yar,yas,List.length_nil,Nat.zero_add,x0,x1,x2,x3,x4,x5,x6,x7,yaC]
   · skip
     try simp -dsimp (maxSteps := 1000000) only [go_sem,↓reduceIte,yab,Tryz.f63,zBv,f,q,c31,zUu,ab,fw,yaH]
     refine zBa (ι := { x : Nat × Int // x.1 = dW M x.2 ∧ x.2 ≤ E ∧ (x.2 = E ∨ 0 ≤ x.2) }) (fun a => ⟨[(3,some (.c (.im (.str ⟨([] : Txt).toArray⟩)))),(4,some (.c (.im (.flt .f64 a.1.1)))),(5,some (.c (.im (.int .i64 (E - a.1.2)))))],[],0⟩) (fun a => (a.1.2 + 1).toNat) ⟨(Y0,E),hY0,by omega,.inl rfl⟩ ⟨[],[],by (simp only [go_sem,↓reduceIte,yab,yai,Int.sub_self]) <;> simp⟩ (fun ⟨⟨Y,a⟩,hY,ha1,ha2⟩ => ?_)
     simp only at hY ha1 ha2 ⊢
     obtain ⟨Y',hY'⟩ : ∃ y,y = dW M (a - 1) := ⟨_,rfl⟩
     by_cases hg0 : 24 ≤ a + M.log2
     · have hg : fcmp .geq .f64 Y 4715268809856909312 = true := by rw [hY,geq24 (dr a (by omega) (by omega)),decide_eq_true hg0]
       have hh := half64 (dr a (by omega) (by omega))
       rw [← hY,← hY'] at hh
       have hw1 : IntKind.i64.wrap (E - a + 1) = E - (a - 1) := by rw [zAg (by omega) (by omega)]; omega
       try simp -dsimp (maxSteps := 1000000) only [go_sem,↓reduceIte,yab,Tryz.f63,hg,hh,hw1]
       exact ⟨⟨(Y',a - 1),hY',by simp only []; omega,.inr (by simp only []; omega)⟩,by simp only []; omega,[],[],by (simp only [go_sem,↓reduceIte,yab,yai]) <;> simp⟩
     have hg : fcmp .geq .f64 Y 4715268809856909312 = false := by rw [hY,geq24 (dr a (by omega) (by omega)),decide_eq_false hg0]
     try simp -dsimp (maxSteps := 1000000) only [go_sem,↓reduceIte,yab,Tryz.f63,hg]
     refine zBa (ι := { x : Nat × Int // x.1 = dW M x.2 ∧ -149 ≤ x.2 ∧ x.2 ≤ 104 ∧ x.2 + M.log2 ≤ 23 }) (fun a => ⟨[(3,some (.c (.im (.str ⟨([] : Txt).toArray⟩)))),(4,some (.c (.im (.flt .f64 a.1.1)))),(5,some (.c (.im (.int .i64 (E - a.1.2)))))],[],0⟩) (fun a => (-a.1.2).toNat) ⟨(Y,a),hY,by simp only []; omega,by simp only []; omega,by simp only []; omega⟩ ⟨[],[],by (simp only [go_sem,↓reduceIte,yab,yai]) <;> simp⟩ (fun ⟨⟨Y,a⟩,hY,ha1,ha2,ha3⟩ => ?_)
     simp only at hY ha1 ha2 ha3 ⊢
     obtain ⟨Y',hY'⟩ : ∃ y,y = dW M (a + 1) := ⟨_,rfl⟩
     have da := dr a (by omega) (by omega)
     have nn := zBe1 da
     obtain ⟨T,hT,hti,hcase⟩ := whole64 da ha3
     rw [← hY] at nn hti hcase
     obtain ⟨N,hN⟩ : ∃ n,n = FloatKind.f64.nearest (T : Int) := ⟨_,rfl⟩
     rw [← hN] at hcase
     have hN' := hN.symm
     have r1 : (IntKind.i64.min ≤ (T : Int) ∧ (T : Int) ≤ IntKind.i64.max) = True := eq_true (by rw [i1,i2]; omega)
     rcases hcase with ⟨hq,hsv,hT0⟩ | ⟨hq,hneg⟩
     case inr =>
       have h2 := twice64 da (dr (a + 1) (by omega) (by omega))
       rw [← hY,← hY'] at h2
       have hw1 : IntKind.i64.wrap (E - a - 1) = E - (a + 1) := by rw [zAg (by omega) (by omega)]; omega
       try simp -dsimp (maxSteps := 1000000) only [go_sem,↓reduceIte,yab,Tryz.f63,nn,hti,r1,hN',hq,h2,hw1]
       exact ⟨⟨(Y',a + 1),hY',by simp only []; omega,by simp only []; omega,by simp only []; omega⟩,by simp only []; omega,[],[],by (simp only [go_sem,↓reduceIte,yab,yai]) <;> simp⟩
     have hs0 : SV T (E - a) M E := by
       have := hsv.symm.add (E - a)
       have z1 : (0 : Int) + (E - a) = E - a := by omega
       have z2 : a + (E - a) = E := by omega
       rw [z1,z2] at this
       exact this
     try simp -dsimp (maxSteps := 1000000) only [go_sem,↓reduceIte,yab,Tryz.f63,nn,hti,r1,hN',hq]
     refine zBa (ι := { x : Nat × Int // 0 < x.1 ∧ x.1 < 16777216 ∧ SV x.1 x.2 M E }) (fun x => ⟨[(3,some (.c (.im (.str ⟨([] : Txt).toArray⟩)))),(5,some (.c (.im (.int .i64 x.1.2)))),(6,some (.c (.im (.int .i64 (x.1.1 : Int)))))],[],0⟩) (fun x => x.1.1) ⟨(T,E - a),hT0,hT,hs0⟩ ⟨[],[],by (simp only [go_sem,↓reduceIte,yab,yai]) <;> simp⟩ (fun ⟨⟨m,e⟩,q1,q2,q3⟩ => ?_)
     simp only at q1 q2 q3 ⊢
     have hb := svb m e q1 q3
     have hl := zBt (k := 23) q1 q2
     have hm : (m : Int).tmod 2 = ((m % 2 : Nat) : Int) := by rw [Int.tmod_eq_emod_of_nonneg (by omega)]; omega
     by_cases hev : m % 2 = 0
     · have h1 : (((m % 2 : Nat) : Int) = 0) = True := eq_true (by omega)
       have hd : IntKind.i64.wrap ((m : Int).tdiv 2) = ((m / 2 : Nat) : Int) := by rw [Int.tdiv_eq_ediv_of_nonneg (by omega),zAg (by omega) (by omega)]; omega
       have he : IntKind.i64.wrap (e + 1) = e + 1 := zAg (by omega) (by omega)
       have hs1 : SV (m / 2) (e + 1) M E := by
         have := SV.shl (m / 2) (e + 1) 1
         have z1 : m / 2 * 2 ^ 1 = m := by omega
         have z2 : e + 1 - ((1 : Nat) : Int) = e := by omega
         rw [z1,z2] at this
         exact this.trans q3
       try simp -dsimp (maxSteps := 1000000) only [go_sem,↓reduceIte,yab,Tryz.f63,n2,hm,h1,hd,he]
       exact ⟨⟨(m / 2,e + 1),by simp only []; omega,by simp only []; omega,hs1⟩,by simp only []; omega,[],[],by (simp only [go_sem,↓reduceIte,yab,yai]) <;> simp⟩
     · have h1 : (((m % 2 : Nat) : Int) = 0) = False := eq_false (by omega)
       obtain ⟨u1,u2⟩ := hun m e q3 (by omega)
       have b1 : -9223372036854775807 ≤ (m : Int) ∧ (m : Int) ≤ 9223372036854775807 := by omega
       have b2 : -9223372036854775807 ≤ e ∧ e ≤ 9223372036854775807 := by omega
       have ri1 := zDl b1
       have ri2 := zDl b2
       have la := zBd (n := (m : Int)) ⟨by omega,by omega⟩
       have lb := zBd (n := e) ⟨by omega,by omega⟩
       rw [hmag,← u1,← u2]
       generalize Lib.itoa (m : Int) = A at *
       generalize Lib.itoa e = B at *
       have hfin : ([] : Txt) ++ (A ++ [112] ++ B) = [] ++ A ++ [112] ++ B := by simp
       rw [hfin]
       have z1 : (([] ++ A : Txt).length ≤ 4611686018427387904) = True := eq_true (by simp; omega)
       have x0 : (0 + A.length ≤ 4611686018427387904) = True := eq_true (by omega)
       have x1 : (A.length + 1 ≤ 4611686018427387904) = True := eq_true (by omega)
       have x2 : (A.length + 1 + B.length ≤ 4611686018427387904) = True := eq_true (by omega)
       have x3 : (A.length + 1 + 1 ≤ 4611686018427387904) = True := eq_true (by omega)
       have x4 : (A.length + 1 + 1 + B.length ≤ 4611686018427387904) = True := eq_true (by omega)
       have x5 : (1 + A.length + 1 ≤ 4611686018427387904) = True := eq_true (by omega)
       have x6 : (1 + A.length + 1 + B.length ≤ 4611686018427387904) = True := eq_true (by omega)
       have x7 : (A.length ≤ 4611686018427387904) = True := eq_true (by omega)
       try simp -dsimp (maxSteps := 1000000) only [go_sem,↓reduceIte,yab,Tryz.f63,n2,hm,h1,ri1,ri2,zBo,zAp,yaX,yar,yas,List.length_nil,Nat.zero_add,x0,x1,x2,x3,x4,x5,x6,x7,yaC]
end Go.SX
namespace Go.SX
open Go Go.Proofs Ieee
theorem zRv1 {w : Nat} (h : w < 4294967296) : (fsT w = [48]) = (w = 0) := by
 apply propext
 constructor
 · intro hf
   unfold fsT at hf
   split at hf
   · rename_i hn
     have h1 : Fin32 w := ⟨h,by simp only [isFin,yax] at hn; omega⟩
     have h2 : Fin32 0 := ⟨by omega,by omega⟩
     have e : fmtT 0 = [48] := by decide +kernel
     exact zSz h1 h2 (hf.trans e.symm)
   · cases hf
 · rintro rfl; decide +kernel
theorem zRw1 {w : Nat} (h : w < 4294967296) : (fsT w = [45,48]) = (w = 2147483648) := by
 apply propext
 constructor
 · intro hf
   unfold fsT at hf
   split at hf
   · rename_i hn
     have h1 : Fin32 w := ⟨h,by simp only [isFin,yax] at hn; omega⟩
     have h2 : Fin32 2147483648 := ⟨by omega,by omega⟩
     have e : fmtT 2147483648 = [45,48] := by decide +kernel
     exact zSz h1 h2 (hf.trans e.symm)
   · cases hf
 · rintro rfl; decide +kernel
theorem zPy {w : Nat} (h : w < 4294967296) : decide (fsT w = [48]) = nz w := by
 rw [show decide (fsT w = [48]) = decide (w = 0) from by simp only [zRv1 h]]
 unfold nz
 congr 1
 exact propext ⟨fun h => by omega,fun h => by omega⟩
abbrev Pt32 := { p : Pt // p.1 < 4294967296 ∧ p.2 < 4294967296 }
noncomputable def zQy : Ct := fam true (fun p : Pt32 => ([.c (.im (.cpx .f32 p.1.1 p.1.2))],[])) (fun p => .one { val := .c (.im (.bool (nzP p.1))) })
theorem zBe {x y : Nat} (hx : x < 4294967296) (hy : y < 4294967296) : zQy.run [.c (.im (.cpx .f32 x y))] [] = some (.one { val := .c (.im (.bool (nzP (x,y)))) }) := by
 refine zAd (args := fun p : Pt32 => ([D.c (.im (.cpx .f32 p.1.1 p.1.2))],[])) ?_ (⟨(x,y),hx,hy⟩ : Pt32)
 rintro ⟨⟨a,b⟩,_⟩ ⟨⟨c,d⟩,_⟩ h
 simp at h
 exact Subtype.ext (Prod.ext h.1 h.2)
theorem zCh : Law Tryz.prog 129 zQy := by
 refine zAi (zAc zAz zAf) hmixA Tryz.func129 rfl rfl (fun ⟨⟨x,y⟩,hx,hy⟩ => ⟨zAv rfl,by simp [Tryz.f129],?_⟩)
 simp only at hx hy ⊢
 have e1 := zPy hx
 have e2 := zPy hy
 have b1 : ((⟨(fsT x).toArray⟩ : ByteArray).toList == (⟨#[48]⟩ : ByteArray).toList) = nz x := (zAh (fsT x) [48]).trans e1
 have b2 : ((⟨(fsT y).toArray⟩ : ByteArray).toList == (⟨#[48]⟩ : ByteArray).toList) = nz y := (zAh (fsT y) [48]).trans e2
 simp only [nzP]
 cases h1 : nz x with
 | false =>
   rw [h1] at b1
   try simp -dsimp (maxSteps := 1000000) only [go_sem,↓reduceIte,yab,Tryz.f129,zAs hx,b1,yag]
 | true =>
   rw [h1] at b1
   try simp -dsimp (maxSteps := 1000000) only [go_sem,↓reduceIte,yab,Tryz.f129,zAs hx,zAs hy,b1,b2,yah]
theorem zYe {st : List Pt} {a k : Nat} {f i : Nat} {p : Pt} (hp : st[(a + i) % st.length]? = some p) : ringGo st a (f + 1) i = (nzP p && ringGo st a f (i + 1)) := by
 simp only [ringGo,List.getD_eq_getElem?_getD,hp,yaF]
structure ARgA where
 st : List Pt
 a : Int
 c : Int
 h : st.length ≤ sm
 w : ∀ p ∈ st,p.1 < 4294967296 ∧ p.2 < 4294967296
noncomputable def zOy : Ct := fam true (fun x : ARgA => ([.agg [.im (.sl 1 (rowsZ x.st)),.im (.int .i64 x.a),.im (.int .i64 x.c)]],[])) (fun x => .one { val := .c (.im (.bool (isRingF x.st x.a x.c))) })
theorem zUq {st : List Pt} (a c : Int) (h : st.length ≤ sm) (w : ∀ p ∈ st,p.1 < 4294967296 ∧ p.2 < 4294967296) : zOy.run [.agg [.im (.sl 1 (rowsZ st)),.im (.int .i64 a),.im (.int .i64 c)]] [] = some (.one { val := .c (.im (.bool (isRingF st a c))) }) := by
 refine zAd (args := fun x : ARgA => ([D.agg [.im (.sl 1 (rowsZ x.st)),.im (.int .i64 x.a),.im (.int .i64 x.c)]],[])) ?_ (⟨st,a,c,h,w⟩ : ARgA)
 rintro ⟨a,_,_,_,_⟩ ⟨b,_,_,_,_⟩ h
 simp [zBm] at h
 obtain ⟨rfl,rfl,rfl⟩ := h
 rfl
theorem zVv : Law Tryz.prog 61 zOy := by
 refine zAi (zAc zSm (zAc zCh zAf)) hmixA Tryz.func61 rfl rfl (fun ⟨st,a,c,hs,hw⟩ => ⟨zAv rfl,by simp [Tryz.f61],?_⟩)
 simp only
 have hsm : sm = 16777216 := rfl
 have c0 : isRingF st a c = (decide (ringC st a c) && ringGo st a.toNat (st.length - c.toNat) c.toNat) := rfl
 by_cases k1 : 1 ≤ st.length ∧ st.length ≤ 16
 rotate_left
 · have c1 : (decide ((1 : Int) ≤ (st.length : Int)) && decide ((st.length : Int) ≤ 16)) = false := by simp; omega
   have r : isRingF st a c = false := by rw [c0,decide_eq_false (by unfold ringC; omega)]; rfl
   try simp -dsimp (maxSteps := 1000000) only [go_sem,↓reduceIte,yab,Tryz.f61,zBk,c1,r,zAa,yaI]
 have c1 : (decide ((1 : Int) ≤ (st.length : Int)) && decide ((st.length : Int) ≤ 16)) = true := by simp; omega
 have w1 : IntKind.i64.wrap ((st.length : Int) - 1) = (st.length : Int) - 1 := zAg (by omega) (by omega)
 by_cases k2 : 0 ≤ a ∧ a < st.length
 rotate_left
 · have c2 : (decide ((0 : Int) ≤ a) && decide (a ≤ (st.length : Int) - 1)) = false := by simp; omega
   have r : isRingF st a c = false := by rw [c0,decide_eq_false (by unfold ringC; omega)]; rfl
   try simp -dsimp (maxSteps := 1000000) only [go_sem,↓reduceIte,yab,Tryz.f61,zBk,c1,c2,w1,r,zAa,yaI,yaH]
 have c2 : (decide ((0 : Int) ≤ a) && decide (a ≤ (st.length : Int) - 1)) = true := by simp; omega
 by_cases k3 : 0 ≤ c ∧ c ≤ st.length
 rotate_left
 · have c3 : (decide ((0 : Int) ≤ c) && decide (c ≤ (st.length : Int))) = false := by simp; omega
   have r : isRingF st a c = false := by rw [c0,decide_eq_false (by unfold ringC; omega)]; rfl
   try simp -dsimp (maxSteps := 1000000) only [go_sem,↓reduceIte,yab,Tryz.f61,zBk,c1,c2,c3,w1,r,zAa,yaI,yaH]
 have c3 : (decide ((0 : Int) ≤ c) && decide (c ≤ (st.length : Int))) = true := by simp; omega
 obtain ⟨A,rfl⟩ := Int.eq_ofNat_of_zero_le k2.1
 obtain ⟨C,rfl⟩ := Int.eq_ofNat_of_zero_le k3.1
 have r : isRingF st (A : Int) (C : Int) = ringGo st A (st.length - C) C := by rw [c0,decide_eq_true (by unfold ringC; omega),Int.toNat_natCast,Int.toNat_natCast]; rfl
 rw [r]
 try simp -dsimp (maxSteps := 1000000) only [go_sem,↓reduceIte,yab,Tryz.f61,zBk,c1,c2,c3,w1,zAa,yaH]
 refine zBa (ι := { k : Nat // k ≤ st.length ∧ ringGo st A (st.length - C) C = ringGo st A (st.length - k) k }) (fun k => ⟨[(1,some (.c (.ptr 0 0 0 0))),(3,some (.c (.im (.int .i64 (st.length : Int))))),(4,some (.c (.im (.int .i64 (k.1 : Int)))))],
   [(0,some (.box [.t (.im (.sl 1 (rowsZ st))),.t (.im (.int .i64 (A : Int))),.t (.im (.int .i64 (C : Int)))]))],1⟩) (fun k => st.length - k.1) ⟨C,by omega,rfl⟩ ⟨[],[],by (simp only [go_sem,↓reduceIte,yab,yai]) <;> simp [lk,zAy]⟩ (fun ⟨k,hk,hinv⟩ => ?_)
 simp only at hk hinv ⊢
 by_cases hlt : k < st.length
 rotate_left
 · have hI : ((k : Int) < (st.length : Int)) = False := eq_false (by omega)
   have z : st.length - k = 0 := by omega
   rw [z] at hinv
   simp only [ringGo] at hinv
   try simp -dsimp (maxSteps := 1000000) only [go_sem,↓reduceIte,yab,Tryz.f61,hI,hinv]
 have hI : ((k : Int) < (st.length : Int)) = True := eq_true (by omega)
 obtain ⟨q,hq⟩ : ∃ q,(A + k) % st.length = q := ⟨_,rfl⟩
 have hql : q < st.length := by rw [← hq]; exact Nat.mod_lt _ (by omega)
 obtain ⟨p,hp⟩ : ∃ p,st[q]? = some p := ⟨_,List.getElem?_eq_getElem hql⟩
 have hrow := zCt hp
 obtain ⟨hp1,hp2⟩ := hw p (List.mem_of_getElem? hp)
 have hst : ringGo st A (st.length - k) k = (nzP p && ringGo st A (st.length - (k + 1)) (k + 1)) := by
   have z : st.length - k = (st.length - (k + 1)) + 1 := by omega
   rw [z]
   exact zYe (k := 0) (by rw [hq]; exact hp)
 obtain ⟨x,y⟩ := p
 have n0 : ((st.length : Int) = 0) = False := eq_false (by omega)
 have w2 : IntKind.i64.wrap ((A : Int) + (k : Int)) = ((A + k : Nat) : Int) := by rw [zAg (by omega) (by omega)]; omega
 have hm : ((A + k : Nat) : Int).tmod (st.length : Int) = (q : Int) := by rw [Int.tmod_eq_emod_of_nonneg (by omega),← hq]; omega
 have w3 : IntKind.i64.wrap (q : Int) = (q : Int) := zAg (by omega) (by omega)
 have h0 : (0 ≤ (q : Int)) = True := by simp
 have hqI : ((q : Int) < (st.length : Int)) = True := eq_true (by omega)
 have rz := zBe hp1 hp2
 have w4 : IntKind.i64.wrap ((k : Int) + 1) = ((k + 1 : Nat) : Int) := by rw [zAg (by omega) (by omega)]; omega
 simp only at hrow
 cases hz : nzP (x,y) with
 | false =>
   rw [hz] at rz hst
   rw [hst] at hinv
   simp only [yag] at hinv
   try simp -dsimp (maxSteps := 1000000) only [go_sem,↓reduceIte,yab,Tryz.f61,hI,n0,w2,hm,w3,h0,hqI,hrow,rz,hinv,zAa,Int.toNat_natCast,yaI]
   repeat' (first
     | ((with_reducible refine sl_i ?_ ?_); focus kernel_rfl)
     | ((with_reducible refine ro_e ?_); kernel_rfl))
 | true =>
   rw [hz] at rz hst
   rw [hst] at hinv
   simp only [yah] at hinv
   try simp -dsimp (maxSteps := 1000000) only [go_sem,↓reduceIte,yab,Tryz.f61,hI,n0,w2,hm,w3,w4,h0,hqI,hrow,rz,zAa,Int.toNat_natCast,yaH]
   repeat' (first
     | ((with_reducible refine sl_i ?_ ?_); focus kernel_rfl)
     | ((with_reducible refine ro_i ?_ ?_); focus kernel_rfl))
   exact ⟨⟨k + 1,by omega,hinv⟩,by simp only []; omega,[],[],by (simp only [go_sem,↓reduceIte,yab,yai]) <;> simp [lk,zAy]⟩
end Go.SX
namespace Go.SX
open Go Go.Proofs Ieee
def restM (m : Mod) : Mod :=
 if m.kind = 1 ∨ m.kind = 2 then { m with turn := (0,0),state := (0,0) }
 else if m.kind = 3 ∨ m.kind = 7 then { m with level := 0 }
 else if m.kind = 4 then { m with store := [],rat := 0,rcnt := 0 }
 else if m.kind = 6 then { m with pts := [],lab := [],count := 0 }
 else if m.kind = 8 then { m with state := (0,0),count := 0,left := 0 }
 else m
def unuF (m : Mod) : Bool := bareF (restM m)
theorem nzP00 : nzP (0,0) = true := by decide
theorem nz00 : nz 0 = true := by decide
structure AUn where
 m : Mod
 ok : OkM m
 w : W32 m
 k : m.kind = 1 ∨ m.kind = 2 ∨ m.kind = 3 ∨ m.kind = 4 ∨ m.kind = 5 ∨ m.kind = 6 ∨ m.kind = 7 ∨ m.kind = 8
noncomputable def zHl : Ct := fam true (fun x : AUn => ([.agg (modC x.m)],[])) (fun x => .one { val := .c (.im (.bool (unuF x.m))) })
theorem zJk (x : AUn) : zHl.run [.agg (modC x.m)] [] = some (.one { val := .c (.im (.bool (unuF x.m))) }) := by
 refine zAd (args := fun x : AUn => ([D.agg (modC x.m)],[])) ?_ x
 rintro ⟨a,_,_,_⟩ ⟨b,_,_,_⟩ h
 simp only [Prod.mk.injEq,List.cons.injEq,D.agg.injEq,and_true] at h
 have := zHu h
 subst this; rfl
theorem zWf {P : Program} {f : FuncId} {ct c0 : Ct} (h0 : Law P f c0) (h : ∀ ds hs o,ct.run ds hs = some o → ∃ c,Law P f c ∧ c.sc = ct.sc ∧ c.run ds hs = some o) : Law P f ct := by
 refine ⟨⟨fun ds hs o ho => ?_,fun ds hs o ho => ?_⟩,h0.2⟩
 · obtain ⟨c,hl,hs',hr⟩ := h ds hs o ho
   rw [← hs']
   exact hl.1.ok ds hs o hr
 · obtain ⟨c,hl,hs',hr⟩ := h ds hs o ho
   exact hl.1.at_ ds hs o hr
noncomputable def zTm (k : Int) : Ct := fam true (fun x : { x : AUn // x.m.kind = k } => ([.agg (modC x.1.m)],[])) (fun x => .one { val := .c (.im (.bool (unuF x.1.m))) })
theorem zQn1 {k : Int} : ∀ a b : { x : AUn // x.m.kind = k },([D.agg (modC a.1.m)],([] : List (List B))) = ([D.agg (modC b.1.m)],[]) → a = b := by
 rintro ⟨⟨a,_,_,_⟩,_⟩ ⟨⟨b,_,_,_⟩,_⟩ h
 simp only [Prod.mk.injEq,List.cons.injEq,D.agg.injEq,and_true] at h
 have := zHu h
 subst this; rfl
end Go.SX
namespace Go.SX
open Go Go.Proofs Ieee
abbrev SNs := { s : Txt // s.length ≤ 2097152 ∧ negS s }
noncomputable def zQz : Ct := fam true (fun x : SNs => ([.c (.im (.str ⟨x.1.toArray⟩))],[])) (fun x => .one (rIB (rdF x.1)))
theorem zXy {s : Txt} (h : s.length ≤ 2097152) (hn : negS s) : zQz.run [.c (.im (.str ⟨s.toArray⟩))] [] = some (.one (rIB (rdF s))) := by
 refine zAd (args := fun x : SNs => ([D.c (.im (.str ⟨x.1.toArray⟩))],[])) ?_ ⟨s,h,hn⟩
 rintro ⟨a,_⟩ ⟨b,_⟩ h
 simp only [Prod.mk.injEq,List.cons.injEq,D.c.injEq,C.im.injEq,I.str.injEq,zHo,true_and,and_true] at h
 exact Subtype.ext h
theorem zYt : Law Tryz.prog 236 zQz := by
 refine zAi (zAc zIt zAf) hmixA Tryz.func236 rfl rfl (fun ⟨s,hs,hn⟩ => ⟨okO zFb1,by simp [Tryz.f236],?_⟩)
 simp only at hs hn ⊢
 have hr : rdF s = (-(rdB s.tail).1,(rdB s.tail).2 && decide ((rdB s.tail).1 ≠ 0)) := by unfold rdF; rw [if_pos hn]
 obtain ⟨h0,h1,h2⟩ := hn
 obtain ⟨b0,t,rfl⟩ : ∃ b0 t,s = b0 :: t := by
   cases s with
   | nil => simp at h1
   | cons a t => exact ⟨a,t,rfl⟩
 have hb0 : b0 = 45 := by simpa using h0
 subst hb0
 obtain ⟨b1,t',rfl⟩ : ∃ b1 t',t = b1 :: t' := by
   cases t with
   | nil => simp at h1
   | cons a t => exact ⟨a,t,rfl⟩
 have hb1 : ¬ b1 = 45 := fun e => h2 (by rw [e]; rfl)
 simp only [List.tail_cons] at hr
 have hnn : ¬ negS (b1 :: t') := fun hc => hb1 (by simpa using hc.1)
 have rb := zNv (s := b1 :: t') (by simp at hs ⊢; omega) hnn
 have bd := zQv1 (b1 :: t')
 have i0 : (⟨((45 : UInt8) :: b1 :: t').toArray⟩ : ByteArray)[0]? = some 45 := zDy rfl
 have i1 : (⟨((45 : UInt8) :: b1 :: t').toArray⟩ : ByteArray)[1]? = some b1 := zDy rfl
 have e0 : (((45 : UInt8).toNat : Int) = 45) = True := eq_true rfl
 have e1 : ((b1.toNat : Int) = 45) = False := eq_false (fun e => hb1 (UInt8.toNat_inj.1 (Int.ofNat_inj.1 e)))
 have hx : (⟨((45 : UInt8) :: b1 :: t').toArray⟩ : ByteArray).extract 1 (t'.length + 1 + 1) = ⟨(b1 :: t').toArray⟩ := by
   rw [zDz,List.take_of_length_le (by simp)]; rfl
 have L1 : ((1 : Int) < ((t'.length + 1 + 1 : Nat) : Int)) = True := eq_true (by omega)
 have L2 : ((1 : Int) ≤ ((t'.length + 1 + 1 : Nat) : Int)) = True := eq_true (by omega)
 obtain ⟨n,hn⟩ : ∃ n,(rdB (b1 :: t')).1 = n := ⟨_,rfl⟩
 obtain ⟨ok,hk⟩ : ∃ k,(rdB (b1 :: t')).2 = k := ⟨_,rfl⟩
 simp only [rIB] at rb
 simp only [hn,hk] at rb hr bd
 have w1 : IntKind.i64.wrap (-n) = -n := zAg (by omega) (by omega)
 have w2 : IntKind.i64.wrap (0 - n) = -n := by rw [zAg (by omega) (by omega)]; omega
 generalize hs' : (⟨((45 : UInt8) :: b1 :: t').toArray⟩ : ByteArray) = S at *
 have hS : S.size = t'.length + 1 + 1 := by rw [← hs',zAp]; rfl
 cases ok with
 | false =>
   try simp -dsimp (maxSteps := 1000000) only [go_sem,↓reduceIte,yab,Tryz.f236,rIB,hr,hS,i0,i1,e0,e1,hx,L1,L2,rb,w1,w2,yaR,yaQ,Int.reduceLE,Int.toNat_natCast,yag]
 | true =>
   by_cases hz : n = 0
   · subst hz
     try simp -dsimp (maxSteps := 1000000) only [go_sem,↓reduceIte,yab,Tryz.f236,rIB,hr,hS,i0,i1,e0,e1,hx,L1,L2,rb,w1,w2,yaR,yaQ,Int.reduceLE,Int.toNat_natCast,yah,ne_eq,ybc,yaU]
   · have hz' := eq_false hz
     try simp -dsimp (maxSteps := 1000000) only [go_sem,↓reduceIte,yab,Tryz.f236,rIB,hr,hS,i0,i1,e0,e1,hx,L1,L2,rb,w1,w2,hz',yaR,yaQ,Int.reduceLE,Int.toNat_natCast,yah,ne_eq,not_false_eq_true,yaS]
theorem zCo1 : Law Tryz.prog 236 zPc := by
 refine zWf zIt (fun ds hs o ho => ?_)
 obtain ⟨x,hx⟩ : ∃ x : SAl,([D.c (.im (.str ⟨x.1.toArray⟩))],([] : List (List B))) = (ds,hs) := by
   apply Classical.byContradiction
   intro hn
   have : zPc.run ds hs = none := dif_neg hn
   rw [this] at ho; cases ho
 injection hx with e1 e2
 subst e1; subst e2
 rw [zFl x.2] at ho
 by_cases hn : negS x.1
 · exact ⟨_,zYt,rfl,by rw [zXy x.2 hn]; exact ho⟩
 · have : rdF x.1 = rdB x.1 := by unfold rdF; rw [if_neg hn]
   exact ⟨_,zIt,rfl,by rw [zNv x.2 hn,← this]; exact ho⟩
end Go.SX
namespace Go.SX
open Go Go.Proofs Ieee
theorem zTj : ∀ (k u : Nat),0 < k → u < 10 ^ k → (Lib.decDigits u).length ≤ k
 | 0,u,h,_ => absurd h (by decide)
 | k + 1,u,_,hu => by
   rw [Lib.decDigits]
   split
   · simp
   · rename_i h10
     have hk : 0 < k := by
       refine Nat.pos_of_ne_zero fun h0 => ?_
       subst h0
       simp at hu; omega
     have := zTj k (u / 10) hk (by rw [Nat.pow_succ] at hu; omega)
     simp only [yar,yas,List.length_nil]
     omega
theorem zHp1 (u : Nat) : 1 ≤ u → ∃ c t,Lib.decDigits u = c :: t ∧ c.toNat ≠ 48 ∧ isDig c := by
 induction u using Nat.strongRecOn with
 | _ u ih =>
   intro h1
   rw [Lib.decDigits]
   split
   · rename_i h10
     refine ⟨_,_,rfl,?_,?_⟩
     · rw [zGq h10]; omega
     · unfold isDig; rw [zGq h10]; omega
   · rename_i h10
     obtain ⟨c,t,e,h2,h3⟩ := ih (u / 10) (by omega) (by omega)
     exact ⟨c,t ++ [UInt8.ofNat (48 + u % 10)],by rw [e]; rfl,h2,h3⟩
theorem zEq1 : ∀ (a : Txt) (c : UInt8) (n : Int),rdD (a ++ [c]) n = (rdD a n).bind fun m => if 48 ≤ c.toNat ∧ c.toNat ≤ 57 then some (10 * m + ((c.toNat : Int) - 48)) else none
 | [],c,n => by simp only [yaC,rdD,Option.bind_some]
 | b :: a,c,n => by
   simp only [yaB,rdD]
   split
   · exact zEq1 a c _
   · rfl
theorem zOj1 (u : Nat) : rdD (Lib.decDigits u) 0 = some (u : Int) := by
 induction u using Nat.strongRecOn with
 | _ u ih =>
   rw [Lib.decDigits]
   split
   · rename_i h10
     have e := zGq h10
     simp only [rdD,e]
     rw [if_pos (by omega)]
     congr 1
     omega
   · rename_i h10
     have e := zGq (d := u % 10) (by omega)
     rw [zEq1,ih (u / 10) (by omega),Option.bind_some,e,if_pos (by omega)]
     congr 1
     omega
theorem zEr1 {u : Nat} (h : u < 100000000000000000) : rdB (Lib.decDigits u) = ((u : Int),true) := by
 have hl := zTj 17 u (by decide) (by simpa using h)
 have hne := zDh u
 unfold rdB
 rw [if_neg,zOj1]
 intro hc
 rcases hc with hc | hc | ⟨hc,hc2⟩
 · exact hne (List.eq_nil_of_length_eq_zero (by omega))
 · omega
 · by_cases h0 : u = 0
   · subst h0
     rw [Lib.decDigits,dif_pos (by decide)] at hc2
     simp at hc2
   · obtain ⟨c,t,e,h2,_⟩ := zHp1 u (by omega)
     rw [e] at hc
     simp at hc
     exact h2 (by rw [hc]; rfl)
theorem zZh {u : Nat} {k : Nat} : (Lib.decDigits u)[k]? ≠ some 45 := by
 intro h
 have := zDp u 45 (List.mem_of_getElem? h)
 unfold isDig at this
 revert this
 decide
theorem zJr1 {n : Int} (h1 : -100000000000000000 < n) (h2 : n < 100000000000000000) : rdF (Lib.itoa n) = (n,true) := by
 unfold rdF Lib.itoa
 by_cases h : n < 0
 · rw [if_pos h]
   have hlen : 0 < (Lib.decDigits n.natAbs).length := List.length_pos_iff.2 (zDh _)
   have hs : negS (45 :: Lib.decDigits n.natAbs) := ⟨rfl,by simp; omega,by
     rw [List.getElem?_cons_succ]; exact zZh⟩
   rw [if_pos hs]
   simp only [List.tail_cons,zEr1 (u := n.natAbs) (by omega)]
   refine Prod.ext ?_ ?_
   · show -((n.natAbs : Nat) : Int) = n
     omega
   · show (true && decide (((n.natAbs : Nat) : Int) ≠ 0)) = true
     rw [Bool.true_and]
     exact decide_eq_true (by omega)
 · rw [if_neg h]
   have hs : ¬ negS (Lib.decDigits n.toNat) := fun hc => zZh hc.1
   rw [if_neg hs,zEr1 (by omega)]
   refine Prod.ext ?_ rfl
   show ((n.toNat : Nat) : Int) = n
   omega
def riD : Txt → Int → Option Int
 | [],n => some n
 | b :: s,n => if (48 ≤ b.toNat ∧ b.toNat ≤ 57) ∧ n ≤ 922337203685477580 ∧ ¬ (n = 922337203685477580 ∧ 55 < b.toNat) then riD s (10 * n + ((b.toNat : Int) - 48)) else none
def minT : Txt := [45,57,50,50,51,51,55,50,48,51,54,56,53,52,55,55,53,56,48,56]
def riT (g : Int) (t : Txt) : Int × Bool := if t.length < 1 ∨ 19 < t.length then (0,false) else match riD t 0 with
 | some n => (g * n,true)
 | none => (0,false)
def riF (s : Txt) : Int × Bool := if s = minT then (-9223372036854775808,true) else if s[0]? = some 45 then riT (-1) s.tail else riT 1 s
theorem zLw1 : ∀ (s : Txt) (n m : Int),0 ≤ n → n ≤ 9223372036854775807 → riD s n = some m → 0 ≤ m ∧ m ≤ 9223372036854775807
 | [],n,m,h0,h1,h => by simp only [riD,yay] at h; subst h; exact ⟨h0,h1⟩
 | b :: s,n,m,h0,h1,h => by
   simp only [riD] at h
   split at h
   · rename_i hd
     exact zLw1 s _ m (by omega) (by omega) h
   · cases h
theorem zLv1 (g : Int) (hg : g = 1 ∨ g = -1) (t : Txt) : i64B (riT g t).1 := by
 unfold riT
 split
 · exact ⟨by decide,by decide⟩
 · split
   · rename_i n hn
     have := zLw1 t 0 n (by omega) (by omega) hn
     rcases hg with rfl | rfl <;> exact ⟨by simp only []; omega,by simp only []; omega⟩
   · exact ⟨by decide,by decide⟩
theorem zJl (s : Txt) : i64B (riF s).1 := by
 unfold riF
 split
 · exact ⟨by decide,by decide⟩
 · split
   · exact zLv1 _ (.inr rfl) _
   · exact zLv1 _ (.inl rfl) _
theorem zEk1 : ∀ (a : Txt) (c : UInt8) (n : Int),riD (a ++ [c]) n = (riD a n).bind fun m => if (48 ≤ c.toNat ∧ c.toNat ≤ 57) ∧ m ≤ 922337203685477580 ∧ ¬ (m = 922337203685477580 ∧ 55 < c.toNat) then some (10 * m + ((c.toNat : Int) - 48)) else none
 | [],c,n => by simp only [yaC,riD,Option.bind_some]
 | b :: a,c,n => by
   simp only [yaB,riD]
   split
   · exact zEk1 a c _
   · rfl
theorem zOh1 (u : Nat) : u ≤ 9223372036854775807 → riD (Lib.decDigits u) 0 = some (u : Int) := by
 induction u using Nat.strongRecOn with
 | _ u ih =>
   intro hu
   rw [Lib.decDigits]
   split
   · rename_i h10
     have e := zGq h10
     simp only [riD,e]
     rw [if_pos (by omega)]
     congr 1
     omega
   · rename_i h10
     have e := zGq (d := u % 10) (by omega)
     rw [zEk1,ih (u / 10) (by omega) (by omega),Option.bind_some,e,if_pos (by omega)]
     congr 1
     omega
theorem zEj1 {g : Int} {u : Nat} (h : u ≤ 9223372036854775807) : riT g (Lib.decDigits u) = (g * (u : Int),true) := by
 have hl := zTj 19 u (by decide) (Nat.lt_of_le_of_lt h (by decide))
 have hne := zDh u
 unfold riT
 rw [if_neg,zOh1 u h]
 intro hc
 rcases hc with hc | hc
 · exact hne (List.eq_nil_of_length_eq_zero (by omega))
 · omega
theorem zFx {n : Int} (h : i64B n) : riF (Lib.itoa n) = (n,true) := by
 obtain ⟨h1,h2⟩ := h
 by_cases hm : n = -9223372036854775808
 · subst hm
   have : Lib.itoa (-9223372036854775808) = minT := by decide +kernel
   rw [this]
   unfold riF
   rw [if_pos rfl]
 have hne : Lib.itoa n ≠ minT := by
   intro e
   have : Lib.itoa (-9223372036854775808) = minT := by decide +kernel
   exact hm (zSv h1 h2 (by decide) (by decide) (e.trans this.symm))
 unfold riF
 rw [if_neg hne]
 unfold Lib.itoa
 by_cases h : n < 0
 · rw [if_pos h,if_pos (show (45 :: Lib.decDigits n.natAbs)[0]? = some 45 from rfl)]
   simp only [List.tail_cons]
   rw [zEj1 (by omega)]
   refine Prod.ext ?_ rfl
   show -1 * ((n.natAbs : Nat) : Int) = n
   omega
 · rw [if_neg h,if_neg zZh,zEj1 (by omega)]
   refine Prod.ext ?_ rfl
   show 1 * ((n.toNat : Nat) : Int) = n
   omega
def dS (s : Bool) (m : Nat) (e : Int) : Nat := double.nearest s m e
theorem zOv1 {m : Nat} {e : Int} (h : Dr m e) {n : Nat} {j : Int} (hv : SV m e n j) (s : Bool) : double.nearest s n j = dS s m e := by
 obtain ⟨M,last,a,b,_,_,_⟩ := zOx h
 rw [dS,zBw a b,zBw a (hv.symm.trans b)]
theorem zOi1 {m : Nat} {e : Int} (h : Dr m e) (s : Bool) : ∃ M last,double.read (dS s m e) = .number s M last ∧ SV M last m e ∧ 4503599627370496 ≤ M ∧ M < 9007199254740992 ∧ M.log2 = 52 := by
 obtain ⟨M,last,a,b,c,d,g⟩ := zOx h
 have hlt : M < 9007199254740992 := a.lt
 have hr : (last - double.leastPlace).toNat * double.binade + M < double.infRung := by
   rw [ep2,bn2,ir2]
   omega
 have e1 : dS s m e = double.word s ((last - double.leastPlace).toNat * double.binade + M) := by
   rw [dS,zBw a b,Nat.min_eq_left (by omega)]
 obtain ⟨k1,k2⟩ := zMz a
 refine ⟨M,last,?_,b.symm,g,hlt,?_⟩
 · rw [e1,zCy (by decide) hr,k1,k2]
 · have a := zGd (M := M) (k := 52) (by simpa using g)
   have b := zBt (M := M) (k := 52) (by omega) (by simpa using hlt)
   omega
theorem halfS {m : Nat} {e : Int} (h : Dr m e) (s : Bool) : fop .quo .f64 (dS s m e) 4611686018427387904 = dS s m (e - 1) := by
 obtain ⟨M,i,r,sv,g1,g2,hl⟩ := zOi1 h s
 have e2 : double.div (dS s m e) 4611686018427387904 = some (dS s m (e - 1)) := by
   unfold Format.div
   rw [r,two64]
   have l2 : (4503599627370496 : Nat).log2 = 52 := by decide +kernel
   have hf : double.fractionBits = 52 := rfl
   simp only [Datum.quotient,l2,hl,hf]
   rw [if_neg (by decide)]
   have q1 : M <<< (52 + 2 + 52 - 52) / 4503599627370496 = M * 4 := by
     rw [zDb]
     show M * 18014398509481984 / 4503599627370496 = M * 4
     omega
   have q2 : M <<< (52 + 2 + 52 - 52) % 4503599627370496 = 0 := by
     rw [zDb]
     show M * 18014398509481984 % 4503599627370496 = 0
     omega
   rw [q1,q2]
   simp only [yaK,Format.write,Bool.xor_false,bne_self_eq_false,Bool.toNat_false]
   rw [dS]
   refine congrArg some ?_
   have s1 := (SV.shl M (i - 1) 3).symm.trans (sv.add (-1))
   have s2 : M * 2 ^ 3 = 2 * (M * 4) + 0 := by omega
   rw [s2] at s1
   have s3 : i - 1 - ((3 : Nat) : Int) = i - -51 - ↑(52 + 2 + 52 - 52 : Nat) - 1 := by omega
   rw [s3] at s1
   obtain ⟨M',last,a,b,_,_,_⟩ := zOx h
   have hz : Can double M' (last - 1) ∧ SV m (e - 1) M' (last - 1) := by
     refine ⟨⟨a.pos,a.lt,?_,?_⟩,b.add (-1)⟩
     · rw [ep2]; omega
     · rcases a.form with hq | hq
       · rw [ep2] at hq; omega
       · exact .inr hq
   rw [zBw hz.1 (s1.trans hz.2),zBw hz.1 hz.2]
 show (double.div (dS s m e) _).getD _ = _
 rw [e2]; rfl
theorem twiceS {m : Nat} {e : Int} (h : Dr m e) (h' : Dr m (e + 1)) (s : Bool) : fop .mul .f64 (dS s m e) 4611686018427387904 = dS s m (e + 1) := by
 obtain ⟨M,i,r,sv,g1,g2,hl⟩ := zOi1 h s
 have e2 : double.mul (dS s m e) 4611686018427387904 = some (dS s m (e + 1)) := by
   unfold Format.mul
   rw [r,two64]
   simp only [Datum.product,yaK,Format.write,Bool.xor_false]
   congr 1
   refine zOv1 h' ?_ s
   have b : SV 1 1 4503599627370496 (-51) := SV.shl 1 1 52
   have := SV.mul sv.symm b
   rw [Nat.mul_one] at this
   exact this
 show (double.mul (dS s m e) _).getD _ = _
 rw [e2]; rfl
theorem narrowS {m : Nat} {e : Int} (h : Dr m e) {r : Nat} (h0 : 0 < r) (h1 : r < 2139095040) (hv : SV m e (rgM single r) (rgE single r)) (s : Bool) : fconv .f64 (dS s m e) .f32 = some (single.word s r) := by
 obtain ⟨M,last,a,b,_,_,_⟩ := zOi1 h s
 have he : FloatKind.f32.encode (.number s M last) = single.word s r := by
   show single.nearest s M last = single.word s r
   rw [zJp h0 (by rw [ir1]; exact h1) (b.trans hv)]
 unfold fconv
 have hd : FloatKind.f64.decode (dS s m e) = .number s M last := a
 rw [if_neg (by decide),hd]
 simp only [he]
 have hr : FloatKind.f32.decode (single.word s r) = .number s (rgM single r) (rgE single r) := by
   have := zCy (f := single) (by decide) (r := r) (by rw [ir1]; exact h1) s
   exact this
 rw [hr]
 rfl
theorem nearS {m : Nat} (h : 0 < m) (s : Bool) : FloatKind.f64.nearest (if s = true then -(m : Int) else (m : Int)) = dS s m 0 := by
 unfold FloatKind.nearest
 cases s with
 | false =>
   show double.nearest (decide ((m : Int) < 0)) (m : Int).natAbs 0 = _
   rw [decide_eq_false (by omega),Int.natAbs_natCast]; rfl
 | true =>
   show double.nearest (decide (-(m : Int) < 0)) (-(m : Int)).natAbs 0 = _
   rw [decide_eq_true (by omega),Int.natAbs_neg,Int.natAbs_natCast]; rfl
end Go.SX
namespace Go.SX
open Go Go.Proofs Ieee
theorem narrow32 (o x : Nat) : narrow o x < 4294967296 := by
 unfold narrow
 cases h : fconv .f64 x .f32 with
 | some r => exact zAy1 h
 | none => exact Nat.mod_lt _ (by decide)
end Go.SX
