/-
  spec.ParseSingle: the same as impl's.
  impl.singleOf; the reader: take, integer, single, point.
  spec.l8ReadSingle, l8ReadInt.
  impl.ParseModule.
  spec.l8Points: points, each of so many words.
  spec.l8Slicer.
  No condition.
-/
import Derived.Test.YtfmpjhjnpeheeaaGreatDoorPkI
set_option maxRecDepth 100000
set_option maxHeartbeats 16000000
set_option linter.unusedVariables false
set_option linter.unusedSimpArgs false
namespace Go.SX
open Go Go.Proofs Ieee
theorem fmt48 : fmtT 0 = [48] := by decide +kernel
theorem fmt4548 : fmtT 2147483648 = [45,48] := by decide +kernel
theorem prs48 : prsO [48] = (0,true) := by
 have := zMs (w := 0) ⟨by decide,by decide⟩
 rw [fmt48] at this
 unfold prsO; rw [this]
theorem prs4548 : prsO [45,48] = (2147483648,true) := by
 have := zMs (w := 2147483648) ⟨by decide,by decide⟩
 rw [fmt4548] at this
 unfold prsO; rw [this]
theorem zPu1 {w : Nat} (hf : Fin32 w) (h0 : 0 < w % 2147483648) : ∃ n0 : Int,n0 = (if decide (2147483648 ≤ w) = true then -((mdM (w % 2147483648) : Nat) : Int) else ((mdM (w % 2147483648) : Nat) : Int)) ∧
   splT 112 (fmtT w) = [Lib.itoa n0,Lib.itoa (mdE (w % 2147483648))] := by
 refine ⟨_,rfl,?_⟩
 have md := zSc h0 hf.fin
 have hp := md.pos
 have e : fmtT w = Lib.itoa (if decide (2147483648 ≤ w) = true then -((mdM (w % 2147483648) : Nat) : Int) else ((mdM (w % 2147483648) : Nat) : Int)) ++ 112 :: Lib.itoa (mdE (w % 2147483648)) := by
   unfold fmtT magT
   rw [if_neg (by omega)]
   by_cases hs : 2147483648 ≤ w
   · rw [decide_eq_true hs,if_pos rfl]
     unfold sgnT Lib.itoa
     rw [if_pos rfl,if_pos (show -((mdM (w % 2147483648) : Nat) : Int) < 0 by omega),if_neg (show ¬ ((mdM (w % 2147483648) : Nat) : Int) < 0 by omega),Int.natAbs_neg,Int.natAbs_natCast,Int.toNat_natCast]
     rfl
   · rw [decide_eq_false hs,if_neg (by simp)]
     rfl
 rw [e,zGv (zJw _),zEh (zJw _)]
def btw (e E : Int) : Prop := (0 ≤ e ∧ e ≤ E) ∨ (E ≤ e ∧ e ≤ 0)
theorem zMg : Law Tryz.prog 179 zFk := by
 refine zAi (zAc zIs (zAc zCo1 (zAc zSm (zAc zAz zAf)))) hmixA Tryz.func179 rfl rfl (fun ⟨s,hs⟩ => ⟨zMb1 s,by simp [Tryz.f179],?_⟩)
 simp only [oPs] at hs ⊢
 by_cases g1 : s = [48]
 · have h1 := eq_true g1
   have ho : prsO s = (0,true) := by rw [g1]; exact prs48
   rw [ho]
   clear g1 ho
   try simp -dsimp (maxSteps := 1000000) only [go_sem,↓reduceIte,yab,Tryz.f179,zAh,h1]
 by_cases g2 : s = [45,48]
 · have h1 := eq_false g1
   have h2 := eq_true g2
   have hng : Op.negFloat .f32 0 = 2147483648 := by decide
   have ho : prsO s = (2147483648,true) := by rw [g2]; exact prs4548
   rw [ho]
   clear g1 g2 ho
   generalize (2147483648 : Nat) = X at *
   try simp -dsimp (maxSteps := 1000000) only [go_sem,↓reduceIte,yab,Tryz.f179,zAh,h1,h2,hng]
 have h1 := eq_false g1
 have h2 := eq_false g2
 have rsp : zEp.run [.c (.im (.str ⟨s.toArray⟩)),.c (.im (.int .u8 112))] [] = some (.one { val := .c (.im (.sl 1 (rowsS (splT 112 s)))) }) := zFt hs 112
 have hsub := zFr 112 s
 cases hp : prsT s with
 | none =>
   have ho : prsO s = (0,false) := by unfold prsO; rw [hp]
   rw [ho]
   clear ho
   obtain ⟨ws,hws⟩ : ∃ ws,splT 112 s = ws := ⟨_,rfl⟩
   rw [hws] at rsp hsub
   by_cases hl : ws.length = 2
   rotate_left
   · have e2 : ((ws.length : Int) = 2) = False := eq_false (by omega)
     try simp -dsimp (maxSteps := 1000000) only [go_sem,↓reduceIte,yab,Tryz.f179,zAh,h1,h2,rsp,zAe,e2]
   obtain ⟨a,b,rfl⟩ : ∃ a b,ws = [a,b] := by
     match ws,hl with
     | [a,b],_ => exact ⟨a,b,rfl⟩
   have r1 := zFl (s := a) (by have := hsub a (by simp); omega)
   have r2 := zFl (s := b) (by have := hsub b (by simp); omega)
   simp only [rIB] at r1 r2
   obtain ⟨m,hm⟩ : ∃ m,(rdF a).1 = m := ⟨_,rfl⟩
   obtain ⟨one,h3⟩ : ∃ m,(rdF a).2 = m := ⟨_,rfl⟩
   obtain ⟨e,he⟩ : ∃ m,(rdF b).1 = m := ⟨_,rfl⟩
   obtain ⟨two,h4⟩ : ∃ m,(rdF b).2 = m := ⟨_,rfl⟩
   simp only [hm,h3] at r1
   simp only [he,h4] at r2
   have hne : s ≠ [] := by
     intro h0
     rw [h0] at hws
     exact absurd (congrArg List.length hws) (by simp [splT])
   have c2 : ((2 : Nat) : Int) = 2 := rfl
   cases one with
   | false =>
     try simp -dsimp (maxSteps := 1000000) only [go_sem,↓reduceIte,yab,Tryz.f179,zAh,h1,h2,rsp,zAe,zAw,zAn,r1,r2,c2,Int.reduceLE,Int.reduceLT,yaQ,yaR,yaI,yaH]
   | true =>
     cases two with
     | false =>
       try simp -dsimp (maxSteps := 1000000) only [go_sem,↓reduceIte,yab,Tryz.f179,zAh,h1,h2,rsp,zAe,zAw,zAn,r1,r2,c2,Int.reduceLE,Int.reduceLT,yaQ,yaR,yaI,yaH]
     | true =>
       cases k1 : (decide (-200 ≤ e) && decide (e ≤ 200)) with
       | false =>
         try simp -dsimp (maxSteps := 1000000) only [go_sem,↓reduceIte,yab,Tryz.f179,zAh,h1,h2,rsp,zAe,zAw,zAn,r1,r2,c2,Int.reduceLE,Int.reduceLT,yaQ,yaR,zBk,k1,yaI,yaH]
       | true =>
         cases k2 : (decide (-16777216 ≤ m) && decide (m ≤ 16777216)) with
         | false =>
           try simp -dsimp (maxSteps := 1000000) only [go_sem,↓reduceIte,yab,Tryz.f179,zAh,h1,h2,rsp,zAe,zAw,zAn,r1,r2,c2,Int.reduceLE,Int.reduceLT,yaQ,yaR,zBk,k1,k2,yaI,yaH]
         | true =>
           have ke : -200 ≤ e ∧ e ≤ 200 := by simpa using k1
           obtain ⟨y0,hy0⟩ : ∃ y,FloatKind.f64.nearest m = y := ⟨_,rfl⟩
           try simp -dsimp (maxSteps := 1000000) only [go_sem,↓reduceIte,yab,Tryz.f179,zAh,h1,h2,rsp,zAe,zAw,zAn,r1,r2,c2,Int.reduceLE,Int.reduceLT,yaQ,yaR,zBk,k1,k2,hy0,yaI,yaH]
           refine zBa (ι := { x : Int × Nat // -200 ≤ x.1 ∧ x.1 ≤ 200 }) (fun x => ⟨[(0,some (.c (.im (.str ⟨s.toArray⟩)))),(8,some (.c (.im (.int .i64 x.1.1)))),(10,some (.c (.im (.flt .f64 x.1.2))))],[],0⟩) (fun x => x.1.1.toNat) ⟨(e,y0),ke⟩ ⟨[],[],by (simp only [go_sem,↓reduceIte,yab,yai]) <;> simp⟩ (fun ⟨⟨e,y⟩,ke1,ke2⟩ => ?_)
           simp only at ke1 ke2 ⊢
           by_cases hpos : 0 < e
           · have hI := eq_true hpos
             have hw : IntKind.i64.wrap (e - 1) = e - 1 := zAg (by omega) (by omega)
             try simp -dsimp (maxSteps := 1000000) only [go_sem,↓reduceIte,yab,Tryz.f179,hI,hw]
             exact ⟨⟨(e - 1,fop .mul .f64 y 4611686018427387904),by simp only []; omega⟩,by simp only []; omega,[],[],by (simp only [go_sem,↓reduceIte,yab,yai]) <;> simp⟩
           have hI := eq_false hpos
           try simp -dsimp (maxSteps := 1000000) only [go_sem,↓reduceIte,yab,Tryz.f179,hI]
           refine zBa (ι := { x : Int × Nat // -200 ≤ x.1 ∧ x.1 ≤ 0 }) (fun x => ⟨[(0,some (.c (.im (.str ⟨s.toArray⟩)))),(8,some (.c (.im (.int .i64 x.1.1)))),(10,some (.c (.im (.flt .f64 x.1.2))))],[],0⟩) (fun x => (-x.1.1).toNat) ⟨(e,y),by simp only []; omega⟩ ⟨[],[],by (simp only [go_sem,↓reduceIte,yab,yai]) <;> simp⟩ (fun ⟨⟨e,y⟩,ke1,ke2⟩ => ?_)
           simp only at ke1 ke2 ⊢
           by_cases hng : e < 0
           · have hI := eq_true hng
             have hw : IntKind.i64.wrap (e + 1) = e + 1 := zAg (by omega) (by omega)
             try simp -dsimp (maxSteps := 1000000) only [go_sem,↓reduceIte,yab,Tryz.f179,hI,hw]
             exact ⟨⟨(e + 1,fop .quo .f64 y 4611686018427387904),by simp only []; omega⟩,by simp only []; omega,[],[],by (simp only [go_sem,↓reduceIte,yab,yai]) <;> simp⟩
           have hI := eq_false hng
           try simp -dsimp (maxSteps := 1000000) only [go_sem,↓reduceIte,yab,Tryz.f179,hI,zHy1]
           intro o
           have hX := narrow32 o y
           generalize narrow o y = X at hX ⊢
           have hF := eq_false (zAu1 hp hne hX)
           have rF := zAs hX
           generalize fsT X = G at *
           try simp -dsimp (maxSteps := 1000000) only [go_sem,↓reduceIte,yab,Tryz.f179,zAh,hF,rF,ne_eq,not_false_eq_true,yaS,yaI]
 | some w =>
   obtain ⟨hfin,hfm⟩ := zJo hp
   have ho : prsO s = (w,true) := by unfold prsO; rw [hp]
   rw [ho]
   clear ho
   have h0 : 0 < w % 2147483648 := by
     refine Nat.pos_of_ne_zero fun h => ?_
     have hlt := hfin.lt
     rcases (show w = 0 ∨ w = 2147483648 by omega) with rfl | rfl
     · exact g1 (by rw [← hfm]; exact fmt48)
     · exact g2 (by rw [← hfm]; exact fmt4548)
   obtain ⟨n0,hn0,hcut⟩ := zPu1 hfin h0
   have md := zSc h0 hfin.fin
   rw [hfm] at hcut
   rw [hcut] at rsp hsub
   have r1 := zFl (s := Lib.itoa n0) (by have := hsub (Lib.itoa n0) (by simp); omega)
   have r2 := zFl (s := Lib.itoa (mdE (w % 2147483648))) (by have := hsub (Lib.itoa (mdE (w % 2147483648))) (by simp); omega)
   have q1 := md.lt
   have q2 := md.lo
   have q3 := md.hi
   have q4 := md.pos
   have hb1 : -16777216 < n0 ∧ n0 < 16777216 := by rw [hn0]; split <;> omega
   rw [zJr1 (by omega) (by omega)] at r1 r2
   simp only [rIB] at r1 r2
   have hy0 := nearS q4 (decide (2147483648 ≤ w))
   rw [← hn0] at hy0
   have hnr := fun (e : Int) (he : -900 ≤ e ∧ e ≤ 900) (hv : SV (mdM (w % 2147483648)) e (rgM single (w % 2147483648)) (rgE single (w % 2147483648))) => narrowS ⟨q4,by omega,he.1,he.2⟩ h0 hfin.fin hv (decide (2147483648 ≤ w))
   have hnr := hnr (mdE (w % 2147483648)) ⟨by omega,by omega⟩ md.sv
   rw [← zRf hfin.lt] at hnr
   generalize decide (2147483648 ≤ w) = bs at *
   generalize hM : mdM (w % 2147483648) = M at *
   generalize hE : mdE (w % 2147483648) = E at *
   have k1 : (decide (-200 ≤ E) && decide (E ≤ 200)) = true := by simp; omega
   have k2 : (decide (-16777216 ≤ n0) && decide (n0 ≤ 16777216)) = true := by simp; omega
   have c2 : ((2 : Nat) : Int) = 2 := rfl
   obtain ⟨y0,hY⟩ : ∃ y,dS bs M 0 = y := ⟨_,rfl⟩
   have hy1 := hy0.trans hY
   try simp -dsimp (maxSteps := 1000000) only [go_sem,↓reduceIte,yab,Tryz.f179,zAh,h1,h2,rsp,zAe,zAw,zAn,r1,r2,c2,Int.reduceLE,Int.reduceLT,yaQ,yaR,zBk,k1,k2,hy1,yaI,yaH]
   refine zBa (ι := { x : Int × Nat // btw x.1 E ∧ dS bs M (E - x.1) = x.2 }) (fun x => ⟨[(0,some (.c (.im (.str ⟨s.toArray⟩)))),(8,some (.c (.im (.int .i64 x.1.1)))),(10,some (.c (.im (.flt .f64 x.1.2))))],[],0⟩) (fun x => x.1.1.toNat) ⟨(E,y0),by (try unfold btw); simp only []; omega,by simp only [Int.sub_self]; exact hY⟩ ⟨[],[],by (simp only [go_sem,↓reduceIte,yab,yai]) <;> simp⟩ (fun ⟨⟨e,y⟩,ke,hy⟩ => ?_)
   simp only [btw] at ke hy ⊢
   by_cases hpos : 0 < e
   · have hI := eq_true hpos
     have hw : IntKind.i64.wrap (e - 1) = e - 1 := zAg (by omega) (by omega)
     try simp -dsimp (maxSteps := 1000000) only [go_sem,↓reduceIte,yab,Tryz.f179,hI,hw]
     refine ⟨⟨(e - 1,fop .mul .f64 y 4611686018427387904),by (try unfold btw); simp only []; omega,?_⟩,by simp only []; omega,[],[],by (simp only [go_sem,↓reduceIte,yab,yai]) <;> simp⟩
     simp only
     rw [← hy,twiceS ⟨q4,by omega,by omega,by omega⟩ ⟨q4,by omega,by omega,by omega⟩,show E - (e - 1) = E - e + 1 by omega]
   have hI := eq_false hpos
   try simp -dsimp (maxSteps := 1000000) only [go_sem,↓reduceIte,yab,Tryz.f179,hI]
   refine zBa (ι := { x : Int × Nat // (btw x.1 E ∧ x.1 ≤ 0) ∧ dS bs M (E - x.1) = x.2 }) (fun x => ⟨[(0,some (.c (.im (.str ⟨s.toArray⟩)))),(8,some (.c (.im (.int .i64 x.1.1)))),(10,some (.c (.im (.flt .f64 x.1.2))))],[],0⟩) (fun x => (-x.1.1).toNat) ⟨(e,y),by (try unfold btw); simp only []; omega,hy⟩ ⟨[],[],by (simp only [go_sem,↓reduceIte,yab,yai]) <;> simp⟩ (fun ⟨⟨e,y⟩,ke,hy⟩ => ?_)
   simp only [btw] at ke hy ⊢
   by_cases hng : e < 0
   · have hI := eq_true hng
     have hw : IntKind.i64.wrap (e + 1) = e + 1 := zAg (by omega) (by omega)
     try simp -dsimp (maxSteps := 1000000) only [go_sem,↓reduceIte,yab,Tryz.f179,hI,hw]
     refine ⟨⟨(e + 1,fop .quo .f64 y 4611686018427387904),by (try unfold btw); simp only []; omega,?_⟩,by simp only []; omega,[],[],by (simp only [go_sem,↓reduceIte,yab,yai]) <;> simp⟩
     simp only
     rw [← hy,halfS ⟨q4,by omega,by omega,by omega⟩,show E - (e + 1) = E - e - 1 by omega]
   have hI := eq_false hng
   have he0 : e = 0 := by omega
   subst he0
   rw [Int.sub_zero] at hy
   rw [hy] at hnr
   have rF := zAs hfin.lt
   rw [zHc1 hfin,hfm] at rF
   try simp -dsimp (maxSteps := 1000000) only [go_sem,↓reduceIte,yab,Tryz.f179,hI,hnr,rF,zAh,ne_eq,ybc,yaU,yaS,yaH]
end Go.SX
namespace Go.SX
open Go Go.Proofs Ieee
noncomputable def oSg (s : Txt) : Outs := .one { val := .tup [.c (.im (.flt .f32 (sglP s).1)),.c (.im (.bool (sglP s).2))] }
theorem zMa1 (s : Txt) {sc : Bool} : ∀ res,(oSg s).mem res → OkR sc res := okO ⟨.tup _ (by intro d hd; simp at hd; rcases hd with rfl | rfl <;> exact .inl ⟨_,rfl,zFn rfl⟩),by simp,by simp⟩
noncomputable def zIx : Ct := fam true (fun s : S21 => ([.c (.im (.str ⟨s.1.toArray⟩))],[])) (fun s => oSg s.1)
theorem zEi {s : Txt} (h : s.length ≤ 2097152) : zIx.run [.c (.im (.str ⟨s.toArray⟩))] [] = some (oSg s) :=
 zAd (args := fun s : S21 => ([D.c (.im (.str ⟨s.1.toArray⟩))],[])) zZm ⟨s,h⟩
theorem zRx1 : fconv .f64 9221120237041090561 .f32 = some (qn .f32) := by decide +kernel
theorem zRy1 : fconv .f64 9218868437227405312 .f32 = some 2139095040 := by decide +kernel
theorem zPz1 : fconv .f64 18442240474082181120 .f32 = some 4286578688 := by decide +kernel
theorem zVt : Law Tryz.prog 103 zIx := by
 refine zAi (zAc zKm1 (zAc zKn1 (zAc zOn zAf))) hmixA Tryz.func103 rfl rfl (fun ⟨s,hs⟩ => ⟨zMa1 s,by simp [Tryz.f103],?_⟩)
 simp only [oSg] at hs ⊢
 have r1 := zJj1
 have r2 := zEb1
 have r3 := zEa1
 have f1 := zRx1
 have f2 := zRy1
 have f3 := zPz1
 by_cases h1 : s = [110,97,110]
 · have ho : sglP s = (qn .f32,true) := by simp [sglP,h1,nanT]
   have h1 := eq_true h1
   rw [ho]
   generalize qn .f32 = Q at *
   generalize (9221120237041090561 : Nat) = X1 at *
   try simp -dsimp (maxSteps := 1000000) only [go_sem,↓reduceIte,yab,Tryz.f103,zAh,h1,r1,f1]
 by_cases h2 : s = [105,110,102]
 · have ho : sglP s = (2139095040,true) := by simp [sglP,h2,nanT,infT]
   have h1 := eq_false h1
   have h2 := eq_true h2
   rw [ho]
   generalize (9218868437227405312 : Nat) = X1 at *
   generalize (2139095040 : Nat) = X2 at *
   try simp -dsimp (maxSteps := 1000000) only [go_sem,↓reduceIte,yab,Tryz.f103,zAh,h1,h2,r2,f2]
 by_cases h3 : s = [45,105,110,102]
 · have ho : sglP s = (4286578688,true) := by simp [sglP,h3,nanT,infT,ninfT]
   have h1 := eq_false h1
   have h2 := eq_false h2
   have h3 := eq_true h3
   rw [ho]
   generalize (18442240474082181120 : Nat) = X1 at *
   generalize (4286578688 : Nat) = X2 at *
   try simp -dsimp (maxSteps := 1000000) only [go_sem,↓reduceIte,yab,Tryz.f103,zAh,h1,h2,h3,r3,f3]
 have ho : sglP s = prsO s := by unfold sglP prsO; rw [if_neg (show ¬ s = nanT from h1),if_neg (show ¬ s = infT from h2),if_neg (show ¬ s = ninfT from h3)]; cases prsT s <;> rfl
 have rp := zGz hs
 simp only [oPs] at rp
 rw [ho]
 have h1 := eq_false h1
 have h2 := eq_false h2
 have h3 := eq_false h3
 clear r1 r2 r3 f1 f2 f3
 try simp -dsimp (maxSteps := 1000000) only [go_sem,↓reduceIte,yab,Tryz.f103,zAh,h1,h2,h3,rp]
def hsRd (ps : List Txt) (bad : Bool) : List (List B) := [[.t (.im (.sl 1 (rowsS ps))),.t (.im (.bool bad))]]
theorem zKx1 {a b : List Txt} {x y : Bool} (h : hsRd a x = hsRd b y) : a = b ∧ x = y := by
 simp only [hsRd,List.cons.injEq,B.t.injEq,T.im.injEq,I.sl.injEq,I.bool.injEq,zMp,true_and,and_true] at h
 exact h
structure ARd where
 ps : List Txt
 bad : Bool
 h : ps.length ≤ sm
 s : ∀ p ∈ ps,p.length ≤ 2097152
theorem zMt {v : D} {ps : List Txt} {bad : Bool} (hv : OkD false 0 v) : OkR false { val := v,places := hsRd ps bad } := by
 refine ⟨hv,by simp,fun c hc x hx => ?_⟩
 simp only [hsRd,yae,yaf,or_false] at hc
 subst hc
 simp only [yae,yaf,or_false] at hx
 rcases hx with rfl | rfl
 · exact .t _ (.im _ (.inl rfl))
 · exact .t _ (.im _ (.inl rfl))
def takF (ps : List Txt) (bad : Bool) : Txt × List Txt × Bool := match ps with
 | [] => ([],[],true)
 | p :: t => (p,t,bad)
theorem zZw : ∀ a b : ARd,([D.c (.ptr 0 0 0 0)],hsRd a.ps a.bad) = ([D.c (.ptr 0 0 0 0)],hsRd b.ps b.bad) → a = b := by
 rintro ⟨a,x,_,_⟩ ⟨b,y,_,_⟩ h
 simp only [Prod.mk.injEq,true_and] at h
 obtain ⟨rfl,rfl⟩ := zKx1 h
 rfl
noncomputable def zTn : Ct := fam false (fun x : ARd => ([.c (.ptr 0 0 0 0)],hsRd x.ps x.bad)) (fun x => .one { val := .c (.im (.str ⟨(takF x.ps x.bad).1.toArray⟩)),places := hsRd (takF x.ps x.bad).2.1 (takF x.ps x.bad).2.2 })
theorem zRn {ps : List Txt} {bad : Bool} (h : ps.length ≤ sm) (s : ∀ p ∈ ps,p.length ≤ 2097152) : zTn.run [.c (.ptr 0 0 0 0)] [[.t (.im (.sl 1 (rowsS ps))),.t (.im (.bool bad))]] = some (.one { val := .c (.im (.str ⟨(takF ps bad).1.toArray⟩)),places := hsRd (takF ps bad).2.1 (takF ps bad).2.2 }) :=
 zAd (args := fun x : ARd => ([D.c (.ptr 0 0 0 0)],hsRd x.ps x.bad)) zZw ⟨ps,bad,h,s⟩
theorem zSh : Law Tryz.prog 40 zTn := by
 refine zAi zAf hmixA Tryz.func40 rfl rfl (fun ⟨ps,bad,h,hs⟩ => ⟨okO (zMt (.c _ (.im _ (.inl rfl)))),by simp [Tryz.f40],?_⟩)
 simp only [hsRd]
 have c0 : ((0 : Nat) : Int) = 0 := rfl
 cases ps with
 | nil =>
   simp only [takF,zAn]
   try simp -dsimp (maxSteps := 1000000) only [go_sem,↓reduceIte,yab,Tryz.f40,c0]
 | cons p t =>
   have h1 : (((t.length + 1 : Nat) : Int) = 0) = False := eq_false (by omega)
   have h2 : ((0 : Int) < ((t.length + 1 : Nat) : Int)) = True := eq_true (by omega)
   have h3 : ((1 : Int) ≤ ((t.length + 1 : Nat) : Int)) = True := eq_true (by omega)
   have h4 : List.drop 1 (List.take (t.length + 1) ([I.str ⟨p.toArray⟩] :: rowsS t)) = rowsS t := by rw [List.take_of_length_le (by simp [zAe])]; rfl
   simp only [takF,zAw]
   try simp -dsimp (maxSteps := 1000000) only [go_sem,↓reduceIte,yab,Tryz.f40,h4,zAe,h1,h2,h3,yaR,Int.toNat_natCast,yaY,Int.reduceLE,zAw]
theorem zJe1 : sglP [] = (0,false) := by
 have hp : prsT [] = none := by
   cases h : prsT [] with
   | none => rfl
   | some w =>
     obtain ⟨h1,h2⟩ := zJo h
     exact absurd h2 (zPw1 h1)
 unfold sglP
 rw [if_neg (by decide),if_neg (by decide),if_neg (by decide),hp]
theorem zJx1 : numF [] = (0,false) := by decide
theorem zNn : (zTn.sc = true) = False := by simp [zTn,fam]
noncomputable def zFq : Ct := fam false (fun x : ARd => ([.c (.ptr 0 0 0 0)],hsRd x.ps x.bad)) (fun x => .one { val := .c (.im (.flt .f32 (rdS x.ps x.bad).1)),places := hsRd (rdS x.ps x.bad).2.1 (rdS x.ps x.bad).2.2 })
theorem zHr {ps : List Txt} {bad : Bool} (h : ps.length ≤ sm) (s : ∀ p ∈ ps,p.length ≤ 2097152) : zFq.run [.c (.ptr 0 0 0 0)] [[.t (.im (.sl 1 (rowsS ps))),.t (.im (.bool bad))]] = some (.one { val := .c (.im (.flt .f32 (rdS ps bad).1)),places := hsRd (rdS ps bad).2.1 (rdS ps bad).2.2 }) :=
 zAd (args := fun x : ARd => ([D.c (.ptr 0 0 0 0)],hsRd x.ps x.bad)) zZw ⟨ps,bad,h,s⟩
theorem zQn : Law Tryz.prog 43 zFq := by
 refine zAi (zAc zSh (zAc zVt zAf)) hmixA Tryz.func43 rfl rfl (fun ⟨ps,bad,h,hs⟩ => ⟨okO (zMt (.c _ (.im _ (.inl rfl)))),by simp [Tryz.f43],?_⟩)
 simp only [hsRd]
 have rt := zRn (bad := bad) h hs
 cases ps with
 | nil =>
   have r0 := zEi (s := []) (by simp)
   simp only [oSg,zJe1] at r0
   simp only [takF,hsRd,zAn] at rt
   simp only [rdS,zAn]
   try simp -dsimp (maxSteps := 1000000) only [go_sem,↓reduceIte,yab,Tryz.f43,rt,zNn,r0,yaI,yaO,yaM]
 | cons p t =>
   have r0 := zEi (s := p) (hs p (by simp))
   simp only [oSg] at r0
   simp only [takF,hsRd,zAw] at rt
   simp only [rdS,zAw]
   cases ho : (sglP p).2 <;> rw [ho] at r0 <;> cases bad
   all_goals (
     try simp -dsimp (maxSteps := 1000000) only [go_sem,↓reduceIte,yab,Tryz.f43,rt,zNn,r0,yaI,yaH,yaO,yaM,yaN,Bool.or_false])
noncomputable def zHz : Ct := fam false (fun x : ARd => ([.c (.ptr 0 0 0 0)],hsRd x.ps x.bad)) (fun x => .one { val := .c (.im (.int .i64 (rdI x.ps x.bad).1)),places := hsRd (rdI x.ps x.bad).2.1 (rdI x.ps x.bad).2.2 })
theorem zEw {ps : List Txt} {bad : Bool} (h : ps.length ≤ sm) (s : ∀ p ∈ ps,p.length ≤ 2097152) : zHz.run [.c (.ptr 0 0 0 0)] [[.t (.im (.sl 1 (rowsS ps))),.t (.im (.bool bad))]] = some (.one { val := .c (.im (.int .i64 (rdI ps bad).1)),places := hsRd (rdI ps bad).2.1 (rdI ps bad).2.2 }) :=
 zAd (args := fun x : ARd => ([D.c (.ptr 0 0 0 0)],hsRd x.ps x.bad)) zZw ⟨ps,bad,h,s⟩
theorem zYu : Law Tryz.prog 44 zHz := by
 refine zAi (zAc zSh (zAc zKu zAf)) hmixA Tryz.func44 rfl rfl (fun ⟨ps,bad,h,hs⟩ => ⟨okO (zMt (.c _ (.im _ (.inl rfl)))),by simp [Tryz.f44],?_⟩)
 simp only [hsRd]
 have rt := zRn (bad := bad) h hs
 cases ps with
 | nil =>
   have r0 := zDe (s := []) (by simp)
   simp only [zJx1] at r0
   simp only [takF,hsRd,zAn] at rt
   simp only [rdI,zAn]
   try simp -dsimp (maxSteps := 1000000) only [go_sem,↓reduceIte,yab,Tryz.f44,rt,zNn,r0,yaI,yaO,yaM]
 | cons p t =>
   have r0 := zDe (s := p) (hs p (by simp))
   simp only [takF,hsRd,zAw] at rt
   simp only [rdI,zAw]
   cases ho : (numF p).2 <;> rw [ho] at r0 <;> cases bad
   all_goals (
     try simp -dsimp (maxSteps := 1000000) only [go_sem,↓reduceIte,yab,Tryz.f44,rt,zNn,r0,yaI,yaH,yaO,yaM,yaN,Bool.or_false])
noncomputable def zMx : Ct := fam false (fun x : ARd => ([.c (.ptr 0 0 0 0)],hsRd x.ps x.bad)) (fun x => .one { val := .c (.im (.cpx .f32 (rdP x.ps x.bad).1.1 (rdP x.ps x.bad).1.2)),places := hsRd (rdP x.ps x.bad).2.1 (rdP x.ps x.bad).2.2 })
theorem zEu {ps : List Txt} {bad : Bool} (h : ps.length ≤ sm) (s : ∀ p ∈ ps,p.length ≤ 2097152) : zMx.run [.c (.ptr 0 0 0 0)] [[.t (.im (.sl 1 (rowsS ps))),.t (.im (.bool bad))]] = some (.one { val := .c (.im (.cpx .f32 (rdP ps bad).1.1 (rdP ps bad).1.2)),places := hsRd (rdP ps bad).2.1 (rdP ps bad).2.2 }) :=
 zAd (args := fun x : ARd => ([D.c (.ptr 0 0 0 0)],hsRd x.ps x.bad)) zZw ⟨ps,bad,h,s⟩
theorem zYf {ps : List Txt} {bad : Bool} (s : ∀ p ∈ ps,p.length ≤ 2097152) : ∀ p ∈ (rdS ps bad).2.1,p.length ≤ 2097152 := by
 cases ps with
 | nil => simp [rdS]
 | cons a t => exact fun p hp => s p (List.mem_cons_of_mem _ hp)
theorem zKo {ps : List Txt} {bad : Bool} (s : ∀ p ∈ ps,p.length ≤ 2097152) : ∀ p ∈ (rdI ps bad).2.1,p.length ≤ 2097152 := by
 cases ps with
 | nil => simp [rdI]
 | cons a t => exact fun p hp => s p (List.mem_cons_of_mem _ hp)
theorem zRw {ps : List Txt} {bad : Bool} (s : ∀ p ∈ ps,p.length ≤ 2097152) : ∀ p ∈ (rdP ps bad).2.1,p.length ≤ 2097152 := zYf (zYf s)
theorem zGf1 : Law Tryz.prog 42 zMx := by
 refine zAi (zAc zQn zAf) hmixA Tryz.func42 rfl rfl (fun ⟨ps,bad,h,hs⟩ => ⟨okO (zMt (.c _ (.im _ (.inl rfl)))),by simp [Tryz.f42],?_⟩)
 simp only [hsRd,rdP]
 have r1 := zHr (bad := bad) h hs
 have r2 := zHr (ps := (rdS ps bad).2.1) (bad := (rdS ps bad).2.2) (by rw [zEo1]; omega) (zYf hs)
 simp only [hsRd] at r1 r2
 generalize rdS (rdS ps bad).2.1 (rdS ps bad).2.2 = Y at *
 generalize rdS ps bad = X at *
 have sc1 : (zFq.sc = true) = False := by simp [zFq,fam]
 try simp -dsimp (maxSteps := 1000000) only [go_sem,↓reduceIte,yab,Tryz.f42,r1,r2,sc1]
end Go.SX
namespace Go.SX
open Go Go.Proofs Ieee
theorem zGm : Law Tryz.prog 96 zIx := by
 refine zAi (zAc zMg zAf) hmixA Tryz.func96 rfl rfl (fun ⟨s,hs⟩ => ⟨zMa1 s,by simp [Tryz.f96],?_⟩)
 simp only [oSg] at hs ⊢
 have f1 : fop .quo .f32 0 0 = qn .f32 := by decide +kernel
 have f2 : fop .quo .f32 1065353216 0 = 2139095040 := by decide +kernel
 have f3 : fop .quo .f32 3212836864 0 = 4286578688 := by decide +kernel
 by_cases h1 : s = [110,97,110]
 · have ho : sglP s = (qn .f32,true) := by simp [sglP,h1,nanT]
   have h1 := eq_true h1
   rw [ho]
   generalize qn .f32 = Q at *
   try simp -dsimp (maxSteps := 1000000) only [go_sem,↓reduceIte,yab,Tryz.f96,zAh,h1,f1]
 by_cases h2 : s = [105,110,102]
 · have ho : sglP s = (2139095040,true) := by simp [sglP,h2,nanT,infT]
   have h1 := eq_false h1
   have h2 := eq_true h2
   rw [ho]
   generalize (2139095040 : Nat) = X2 at *
   try simp -dsimp (maxSteps := 1000000) only [go_sem,↓reduceIte,yab,Tryz.f96,zAh,h1,h2,f2]
 by_cases h3 : s = [45,105,110,102]
 · have ho : sglP s = (4286578688,true) := by simp [sglP,h3,nanT,infT,ninfT]
   have h1 := eq_false h1
   have h2 := eq_false h2
   have h3 := eq_true h3
   rw [ho]
   generalize (4286578688 : Nat) = X2 at *
   try simp -dsimp (maxSteps := 1000000) only [go_sem,↓reduceIte,yab,Tryz.f96,zAh,h1,h2,h3,f3]
 have ho : sglP s = prsO s := by unfold sglP prsO; rw [if_neg (show ¬ s = nanT from h1),if_neg (show ¬ s = infT from h2),if_neg (show ¬ s = ninfT from h3)]; cases prsT s <;> rfl
 have rp := zGz hs
 simp only [oPs] at rp
 rw [ho]
 have h1 := eq_false h1
 have h2 := eq_false h2
 have h3 := eq_false h3
 clear f1 f2 f3
 try simp -dsimp (maxSteps := 1000000) only [go_sem,↓reduceIte,yab,Tryz.f96,zAh,h1,h2,h3,rp]
theorem zZv {s : Txt} {i : Nat} {b : UInt8} {n : Int} (h : s[i]? = some b) : riD (s.drop i) n = if (48 ≤ b.toNat ∧ b.toNat ≤ 57) ∧ n ≤ 922337203685477580 ∧ ¬ (n = 922337203685477580 ∧ 55 < b.toNat) then riD (s.drop (i + 1)) (10 * n + ((b.toNat : Int) - 48)) else none := by
 have hlt : i < s.length := (List.getElem?_eq_some_iff.1 h).1
 have hb : s[i] = b := by rw [List.getElem?_eq_getElem hlt] at h; injection h
 rw [List.drop_eq_getElem_cons hlt,hb]
 rfl
noncomputable def zLx : Ct := fam true (fun x : SAl => ([.c (.im (.str ⟨x.1.toArray⟩))],[])) (fun x => .one (rIB (riF x.1)))
theorem zCs {s : Txt} (h : s.length ≤ 2097152) : zLx.run [.c (.im (.str ⟨s.toArray⟩))] [] = some (.one (rIB (riF s))) :=
 zAd (args := fun x : SAl => ([D.c (.im (.str ⟨x.1.toArray⟩))],[])) zIe1 ⟨s,h⟩
theorem zGe : Law Tryz.prog 74 zLx := by
 refine zAi zAf hmixA Tryz.func74 rfl rfl (fun ⟨s,hs⟩ => ⟨okO zFb1,by simp [Tryz.f74],?_⟩)
 simp only at hs ⊢
 have hmt : (s = [45,57,50,50,51,51,55,50,48,51,54,56,53,52,55,55,53,56,48,56]) = (s = minT) := rfl
 by_cases hm : s = minT
 · have hr : riF s = (-9223372036854775808,true) := by unfold riF; rw [if_pos hm]
   have h1 := eq_true hm
   rw [hr]
   simp only [rIB]
   try simp -dsimp (maxSteps := 1000000) only [go_sem,↓reduceIte,yab,Tryz.f74,zAh,hmt,h1]
 have h1 := eq_false hm
 by_cases h45 : s[0]? = some 45
 · obtain ⟨t,rfl⟩ : ∃ t,s = 45 :: t := by
     cases s with
     | nil => simp at h45
     | cons a t => exact ⟨t,by simp at h45; rw [h45]⟩
   have hr : riF (45 :: t) = riT (-1) t := by unfold riF; rw [if_neg hm,if_pos h45]; rfl
   have i0 : (⟨((45 : UInt8) :: t).toArray⟩ : ByteArray)[0]? = some 45 := zDy rfl
   have e0 : (((45 : UInt8).toNat : Int) = 45) = True := eq_true rfl
   have hx : (⟨((45 : UInt8) :: t).toArray⟩ : ByteArray).extract 1 (t.length + 1) = ⟨t.toArray⟩ := by
     rw [zDz,List.take_of_length_le (by simp)]; rfl
   have K1 : ((0 : Int) < ((t.length + 1 : Nat) : Int)) = True := eq_true (by omega)
   have K2 : ((1 : Int) ≤ ((t.length + 1 : Nat) : Int)) = True := eq_true (by omega)
   have h45t : ((45 :: t : Txt) = minT) = False := h1
   have hq0 : (⟨((45 : UInt8) :: t).toArray⟩ : ByteArray).toList = (⟨((45 : UInt8) :: t).toArray⟩ : ByteArray).toList := rfl
   by_cases hbad : t.length < 1 ∨ 19 < t.length
   · have hq : riT (-1) t = (0,false) := by unfold riT; rw [if_pos hbad]
     rw [hr,hq]
     simp only [rIB]
     by_cases hz : t.length < 1
     · have L1 : ((t.length : Int) < 1) = True := eq_true (by omega)
       try simp -dsimp (maxSteps := 1000000) only [go_sem,↓reduceIte,yab,Tryz.f74,zAh,hmt,h1,zAp,i0,e0,hx,K1,K2,yaQ,yaR,Int.reduceLE,Int.toNat_natCast,L1]
     · have L1 : ((t.length : Int) < 1) = False := eq_false (by omega)
       have L2 : ((19 : Int) < (t.length : Int)) = True := eq_true (by omega)
       try simp -dsimp (maxSteps := 1000000) only [go_sem,↓reduceIte,yab,Tryz.f74,zAh,hmt,h1,zAp,i0,e0,hx,K1,K2,yaQ,yaR,Int.reduceLE,Int.toNat_natCast,L1,L2]
   have hq : riT (-1) t = match riD t 0 with | some n => ((-1) * n,true) | none => (0,false) := by unfold riT; rw [if_neg hbad]; cases riD t 0 <;> rfl
   have L1 : ((t.length : Int) < 1) = False := eq_false (by omega)
   have L2 : ((19 : Int) < (t.length : Int)) = False := eq_false (by omega)
   rw [hr,hq]
   try simp -dsimp (maxSteps := 1000000) only [go_sem,↓reduceIte,yab,Tryz.f74,zAh,hmt,h1,zAp,i0,e0,hx,K1,K2,yaQ,yaR,Int.reduceLE,Int.toNat_natCast,L1,L2]
   refine zBa (ι := { x : Nat × Int // x.1 ≤ t.length ∧ riD t 0 = riD (t.drop x.1) x.2 ∧ 0 ≤ x.2 ∧ x.2 ≤ 9223372036854775807 }) (fun x => ⟨[(0,some (.c (.im (.str ⟨t.toArray⟩)))),(4,some (.c (.im (.int .i64 (-1))))),(5,some (.c (.im (.int .i64 x.1.2)))),(6,some (.c (.im (.int .i64 (x.1.1 : Int)))))],[],0⟩) (fun x => t.length - x.1.1) ⟨(0,0),by simp⟩ ⟨[],[],by ((simp only [go_sem,↓reduceIte,yab,yai]) <;> (try (simp -dsimp only [go_sem,↓reduceIte,yab,yai]))) <;> simp⟩ (fun ⟨⟨i,n⟩,hi,hinv,hn0,hn1⟩ => ?_)
   simp only at hi hinv hn0 hn1 ⊢
   by_cases hlt : i < t.length
   · obtain ⟨b,hb⟩ : ∃ b,t[i]? = some b := ⟨_,List.getElem?_eq_getElem hlt⟩
     have hrow := zDy hb
     have hI : ((i : Int) < (t.length : Int)) = True := eq_true (by omega)
     have h0 : (0 ≤ (i : Int)) = True := eq_true (by omega)
     have hb8 := b.toNat_lt
     have hd := zZv (n := n) hb
     have hw : IntKind.i64.wrap ((i : Int) + 1) = ((i + 1 : Nat) : Int) := by rw [zAg (by omega) (by omega)]; omega
     have w0 : IntKind.i64.wrap (b.toNat : Int) = (b.toNat : Int) := zAg (by omega) (by omega)
     have w1 : IntKind.i64.wrap ((b.toNat : Int) - 48) = (b.toNat : Int) - 48 := zAg (by omega) (by omega)
     by_cases g1 : b.toNat < 48
     · have g1' : ((b.toNat : Int) - 48 < 0) = True := eq_true (by omega)
       rw [if_neg (by omega)] at hd
       rw [hinv,hd]
       simp only [rIB]
       try simp -dsimp (maxSteps := 1000000) only [go_sem,↓reduceIte,yab,Tryz.f74,zAp,hI,h0,hrow,w0,w1,g1',Int.toNat_natCast]
     have g1' : ((b.toNat : Int) - 48 < 0) = False := eq_false (by omega)
     by_cases g2 : 57 < b.toNat
     · have g2' : (9 < (b.toNat : Int) - 48) = True := eq_true (by omega)
       rw [if_neg (by omega)] at hd
       rw [hinv,hd]
       simp only [rIB]
       try simp -dsimp (maxSteps := 1000000) only [go_sem,↓reduceIte,yab,Tryz.f74,zAp,hI,h0,hrow,w0,w1,g1',g2',Int.toNat_natCast]
     have g2' : (9 < (b.toNat : Int) - 48) = False := eq_false (by omega)
     by_cases g3 : 922337203685477580 < n
     · have g3' := eq_true g3
       rw [if_neg (by omega)] at hd
       rw [hinv,hd]
       simp only [rIB]
       try simp -dsimp (maxSteps := 1000000) only [go_sem,↓reduceIte,yab,Tryz.f74,zAp,hI,h0,hrow,w0,w1,g1',g2',g3',Int.toNat_natCast]
     have g3' := eq_false g3
     by_cases g4 : n = 922337203685477580
     · have g4' := eq_true g4
       by_cases g5 : 55 < b.toNat
       · have g5' : (7 < (b.toNat : Int) - 48) = True := eq_true (by omega)
         rw [if_neg (by omega)] at hd
         rw [hinv,hd]
         simp only [rIB]
         try simp -dsimp (maxSteps := 1000000) only [go_sem,↓reduceIte,yab,Tryz.f74,zAp,hI,h0,hrow,w0,w1,g1',g2',g3',g4',g5',Int.toNat_natCast]
       have g5' : (7 < (b.toNat : Int) - 48) = False := eq_false (by omega)
       rw [if_pos (by omega)] at hd
       have w3 : IntKind.i64.wrap (10 * n) = 10 * n := zAg (by omega) (by omega)
       have w4 : IntKind.i64.wrap (10 * n + ((b.toNat : Int) - 48)) = 10 * n + ((b.toNat : Int) - 48) := zAg (by omega) (by omega)
       try simp -dsimp (maxSteps := 1000000) only [go_sem,↓reduceIte,yab,Tryz.f74,zAp,hI,h0,hrow,w0,w1,g1',g2',g3',g4',g5',hw,w3,w4,Int.toNat_natCast]
       exact ⟨⟨(i + 1,10 * n + ((b.toNat : Int) - 48)),by simp only []; omega,by rw [hinv,hd],by simp only []; omega,by simp only []; omega⟩,by simp only []; omega,[],[],by (simp only [go_sem,↓reduceIte,yab,yai]) <;> simp⟩
     have g4' := eq_false g4
     rw [if_pos (by omega)] at hd
     have w3 : IntKind.i64.wrap (10 * n) = 10 * n := zAg (by omega) (by omega)
     have w4 : IntKind.i64.wrap (10 * n + ((b.toNat : Int) - 48)) = 10 * n + ((b.toNat : Int) - 48) := zAg (by omega) (by omega)
     try simp -dsimp (maxSteps := 1000000) only [go_sem,↓reduceIte,yab,Tryz.f74,zAp,hI,h0,hrow,w0,w1,g1',g2',g3',g4',hw,w3,w4,Int.toNat_natCast]
     exact ⟨⟨(i + 1,10 * n + ((b.toNat : Int) - 48)),by simp only []; omega,by rw [hinv,hd],by simp only []; omega,by simp only []; omega⟩,by simp only []; omega,[],[],by (simp only [go_sem,↓reduceIte,yab,yai]) <;> simp⟩
   have hI : ((i : Int) < (t.length : Int)) = False := eq_false (by omega)
   have hie : i = t.length := by omega
   subst hie
   have hrr : riD t 0 = some n := by rw [hinv,List.drop_length]; rfl
   rw [hrr]
   have w5 : IntKind.i64.wrap ((-1) * n) = (-1) * n := zAg (by omega) (by omega)
   simp only [rIB]
   try simp -dsimp (maxSteps := 1000000) only [go_sem,↓reduceIte,yab,Tryz.f74,zAp,hI,w5]
 have hr : riF s = riT 1 s := by unfold riF; rw [if_neg hm,if_neg h45]
 cases s with
 | nil =>
   have c0 : ((0 : Nat) : Int) = 0 := rfl
   rw [hr]
   have hq : riT 1 [] = (0,false) := rfl
   rw [hq]
   simp only [rIB]
   try simp -dsimp (maxSteps := 1000000) only [go_sem,↓reduceIte,yab,Tryz.f74,zAh,h1,hmt,zAp,c0,Int.reduceLT]
 | cons b0 t0 =>
   have i0 : (⟨(b0 :: t0).toArray⟩ : ByteArray)[0]? = some b0 := zDy rfl
   have hb0 : ¬ b0 = 45 := fun e => h45 (by rw [e]; rfl)
   have e0 : ((b0.toNat : Int) = 45) = False := eq_false (fun e => hb0 (UInt8.toNat_inj.1 (Int.ofNat_inj.1 e)))
   generalize hs' : b0 :: t0 = s at *
   have hls : s.length = t0.length + 1 := by rw [← hs']; rfl
   have K1 : ((0 : Int) < (s.length : Int)) = True := eq_true (by omega)
   by_cases hbad : s.length < 1 ∨ 19 < s.length
   · have hq : riT (1) s = (0,false) := by unfold riT; rw [if_pos hbad]
     rw [hr,hq]
     simp only [rIB]
     by_cases hz : s.length < 1
     · have L1 : ((s.length : Int) < 1) = True := eq_true (by omega)
       try simp -dsimp (maxSteps := 1000000) only [go_sem,↓reduceIte,yab,Tryz.f74,zAh,hmt,h1,zAp,i0,e0,K1,yaQ,yaR,Int.reduceLE,Int.toNat_natCast,L1]
     · have L1 : ((s.length : Int) < 1) = False := eq_false (by omega)
       have L2 : ((19 : Int) < (s.length : Int)) = True := eq_true (by omega)
       try simp -dsimp (maxSteps := 1000000) only [go_sem,↓reduceIte,yab,Tryz.f74,zAh,hmt,h1,zAp,i0,e0,K1,yaQ,yaR,Int.reduceLE,Int.toNat_natCast,L1,L2]
   have hq : riT (1) s = match riD s 0 with | some n => ((1) * n,true) | none => (0,false) := by unfold riT; rw [if_neg hbad]; cases riD s 0 <;> rfl
   have L1 : ((s.length : Int) < 1) = False := eq_false (by omega)
   have L2 : ((19 : Int) < (s.length : Int)) = False := eq_false (by omega)
   rw [hr,hq]
   try simp -dsimp (maxSteps := 1000000) only [go_sem,↓reduceIte,yab,Tryz.f74,zAh,hmt,h1,zAp,i0,e0,K1,yaQ,yaR,Int.reduceLE,Int.toNat_natCast,L1,L2]
   refine zBa (ι := { x : Nat × Int // x.1 ≤ s.length ∧ riD s 0 = riD (s.drop x.1) x.2 ∧ 0 ≤ x.2 ∧ x.2 ≤ 9223372036854775807 }) (fun x => ⟨[(0,some (.c (.im (.str ⟨s.toArray⟩)))),(4,some (.c (.im (.int .i64 (1))))),(5,some (.c (.im (.int .i64 x.1.2)))),(6,some (.c (.im (.int .i64 (x.1.1 : Int)))))],[],0⟩) (fun x => s.length - x.1.1) ⟨(0,0),by simp⟩ ⟨[],[],by ((simp only [go_sem,↓reduceIte,yab,yai]) <;> (try (simp -dsimp only [go_sem,↓reduceIte,yab,yai]))) <;> simp⟩ (fun ⟨⟨i,n⟩,hi,hinv,hn0,hn1⟩ => ?_)
   simp only at hi hinv hn0 hn1 ⊢
   by_cases hlt : i < s.length
   · obtain ⟨b,hb⟩ : ∃ b,s[i]? = some b := ⟨_,List.getElem?_eq_getElem hlt⟩
     have hrow := zDy hb
     have hI : ((i : Int) < (s.length : Int)) = True := eq_true (by omega)
     have h0 : (0 ≤ (i : Int)) = True := eq_true (by omega)
     have hb8 := b.toNat_lt
     have hd := zZv (n := n) hb
     have hw : IntKind.i64.wrap ((i : Int) + 1) = ((i + 1 : Nat) : Int) := by rw [zAg (by omega) (by omega)]; omega
     have w0 : IntKind.i64.wrap (b.toNat : Int) = (b.toNat : Int) := zAg (by omega) (by omega)
     have w1 : IntKind.i64.wrap ((b.toNat : Int) - 48) = (b.toNat : Int) - 48 := zAg (by omega) (by omega)
     by_cases g1 : b.toNat < 48
     · have g1' : ((b.toNat : Int) - 48 < 0) = True := eq_true (by omega)
       rw [if_neg (by omega)] at hd
       rw [hinv,hd]
       simp only [rIB]
       try simp -dsimp (maxSteps := 1000000) only [go_sem,↓reduceIte,yab,Tryz.f74,zAp,hI,h0,hrow,w0,w1,g1',Int.toNat_natCast]
     have g1' : ((b.toNat : Int) - 48 < 0) = False := eq_false (by omega)
     by_cases g2 : 57 < b.toNat
     · have g2' : (9 < (b.toNat : Int) - 48) = True := eq_true (by omega)
       rw [if_neg (by omega)] at hd
       rw [hinv,hd]
       simp only [rIB]
       try simp -dsimp (maxSteps := 1000000) only [go_sem,↓reduceIte,yab,Tryz.f74,zAp,hI,h0,hrow,w0,w1,g1',g2',Int.toNat_natCast]
     have g2' : (9 < (b.toNat : Int) - 48) = False := eq_false (by omega)
     by_cases g3 : 922337203685477580 < n
     · have g3' := eq_true g3
       rw [if_neg (by omega)] at hd
       rw [hinv,hd]
       simp only [rIB]
       try simp -dsimp (maxSteps := 1000000) only [go_sem,↓reduceIte,yab,Tryz.f74,zAp,hI,h0,hrow,w0,w1,g1',g2',g3',Int.toNat_natCast]
     have g3' := eq_false g3
     by_cases g4 : n = 922337203685477580
     · have g4' := eq_true g4
       by_cases g5 : 55 < b.toNat
       · have g5' : (7 < (b.toNat : Int) - 48) = True := eq_true (by omega)
         rw [if_neg (by omega)] at hd
         rw [hinv,hd]
         simp only [rIB]
         try simp -dsimp (maxSteps := 1000000) only [go_sem,↓reduceIte,yab,Tryz.f74,zAp,hI,h0,hrow,w0,w1,g1',g2',g3',g4',g5',Int.toNat_natCast]
       have g5' : (7 < (b.toNat : Int) - 48) = False := eq_false (by omega)
       rw [if_pos (by omega)] at hd
       have w3 : IntKind.i64.wrap (10 * n) = 10 * n := zAg (by omega) (by omega)
       have w4 : IntKind.i64.wrap (10 * n + ((b.toNat : Int) - 48)) = 10 * n + ((b.toNat : Int) - 48) := zAg (by omega) (by omega)
       try simp -dsimp (maxSteps := 1000000) only [go_sem,↓reduceIte,yab,Tryz.f74,zAp,hI,h0,hrow,w0,w1,g1',g2',g3',g4',g5',hw,w3,w4,Int.toNat_natCast]
       exact ⟨⟨(i + 1,10 * n + ((b.toNat : Int) - 48)),by simp only []; omega,by rw [hinv,hd],by simp only []; omega,by simp only []; omega⟩,by simp only []; omega,[],[],by (simp only [go_sem,↓reduceIte,yab,yai]) <;> simp⟩
     have g4' := eq_false g4
     rw [if_pos (by omega)] at hd
     have w3 : IntKind.i64.wrap (10 * n) = 10 * n := zAg (by omega) (by omega)
     have w4 : IntKind.i64.wrap (10 * n + ((b.toNat : Int) - 48)) = 10 * n + ((b.toNat : Int) - 48) := zAg (by omega) (by omega)
     try simp -dsimp (maxSteps := 1000000) only [go_sem,↓reduceIte,yab,Tryz.f74,zAp,hI,h0,hrow,w0,w1,g1',g2',g3',g4',hw,w3,w4,Int.toNat_natCast]
     exact ⟨⟨(i + 1,10 * n + ((b.toNat : Int) - 48)),by simp only []; omega,by rw [hinv,hd],by simp only []; omega,by simp only []; omega⟩,by simp only []; omega,[],[],by (simp only [go_sem,↓reduceIte,yab,yai]) <;> simp⟩
   have hI : ((i : Int) < (s.length : Int)) = False := eq_false (by omega)
   have hie : i = s.length := by omega
   subst hie
   have hrr : riD s 0 = some n := by rw [hinv,List.drop_length]; rfl
   rw [hrr]
   have w5 : IntKind.i64.wrap ((1) * n) = (1) * n := zAg (by omega) (by omega)
   simp only [rIB]
   try simp -dsimp (maxSteps := 1000000) only [go_sem,↓reduceIte,yab,Tryz.f74,zAp,hI,w5]
end Go.SX
namespace Go.SX
open Go Go.Proofs Ieee
theorem zRh (l : List Pt) (x y : Nat) : tI (rowsZ l) ++ [[T.im (.cpx .f32 x y)]] = tI (rowsZ (l ++ [(x,y)])) := by simp [tI,rowsZ]
theorem zZr (l : List Int) (x : Int) : tI (rowsN l) ++ [[T.im (.int .i64 x)]] = tI (rowsN (l ++ [x])) := by simp [tI,rowsN]
theorem zIg1 (l : List Int) : MvR false (.arr 1 (tI (rowsN l))) = True := eq_true (zCn _ _)
def kNms : List Txt := [[],[115,111,117,114,99,101],[109,105,120,101,114],[103,97,105,110],[100,101,108,97,121],[115,117,109],[115,108,105,99,101,114],[109,101,116,101,114],[104,111,108,100]]
theorem zPs : zHm.run [] [] = some (.one { val := .c (.view 0 1 0 9),roots := [.arr 1 (tI (rowsS kNms))] }) := zBr
theorem zJf1 (l : List Txt) : ∀ r ∈ rowsS l,∀ i ∈ r,scI i = true := by
 intro r hr i hi
 simp only [rowsS,List.mem_map] at hr
 obtain ⟨p,_,rfl⟩ := hr
 simp only [yaG] at hi
 subst hi; rfl
def kdF (w : Txt) : Nat → Int
 | 0 => 0
 | k + 1 => if 0 < k ∧ kNms.getD k [] = w then (k : Int) else kdF w k
theorem zPp1 (w : Txt) : kdF w 9 = kindT w := by
 simp only [kdF,kNms,kindT,sourceT,mixerT,gainT,delayT,sumT,slicerT,meterT,holdT,List.getD_cons_succ,List.getD_cons_zero]
 by_cases h1 : [115,111,117,114,99,101] = w
 · subst h1; decide
 by_cases h2 : [109,105,120,101,114] = w
 · subst h2; decide
 by_cases h3 : [103,97,105,110] = w
 · subst h3; decide
 by_cases h4 : [100,101,108,97,121] = w
 · subst h4; decide
 by_cases h5 : [115,117,109] = w
 · subst h5; decide
 by_cases h6 : [115,108,105,99,101,114] = w
 · subst h6; decide
 by_cases h7 : [109,101,116,101,114] = w
 · subst h7; decide
 by_cases h8 : [104,111,108,100] = w
 · subst h8; decide
 simp [h1,h2,h3,h4,h5,h6,h7,h8,Ne.symm h1,Ne.symm h2,Ne.symm h3,Ne.symm h4,Ne.symm h5,Ne.symm h6,Ne.symm h7,Ne.symm h8]
def rModB (m : Mod) (b : Bool) : Res := { val := .tup [.agg [.im (.int .i64 m.kind),.im (.cpx .f32 m.turn.1 m.turn.2),.im (.cpx .f32 m.state.1 m.state.2),.im (.flt .f32 m.level),.view 0 1 0 m.store.length,.im (.int .i64 m.rat),.im (.int .i64 m.rcnt),.view 1 1 0 m.pts.length,.view 2 1 0 m.lab.length,.im (.int .i64 m.count),.im (.int .i64 m.left)],.c (.im (.bool b))],roots := [.arr 1 (tI (rowsZ m.store)),.arr 1 (tI (rowsZ m.pts)),.arr 1 (tI (rowsN m.lab))] }
theorem zAa1 {sc : Bool} {m : Mod} {b : Bool} : OkR sc (rModB m b) := by
 refine ⟨.tup _ (fun d hd => ?_),fun r hr => ?_,by simp [rModB]⟩
 · simp only [rModB,yae,yaf,or_false] at hd
   rcases hd with rfl | rfl
   · refine .inr ⟨_,rfl,fun x hx => ?_⟩
     simp only [yae,yaf,or_false] at hx
     rcases hx with rfl | rfl | rfl | rfl | rfl | rfl | rfl | rfl | rfl | rfl | rfl <;> first | exact zFn rfl | exact .view _ _ _ _ (by simp [rModB])
   · exact .inl ⟨_,rfl,zFn rfl⟩
 · simp only [rModB,yae,yaf,or_false] at hr
   rcases hr with rfl | rfl | rfl
   · exact zLl (zRm _)
   · exact zLl (zRm _)
   · exact zLl (zMn _)
abbrev S20 := { s : Txt // s.length ≤ 1048576 }
noncomputable def oPm (s : Txt) : Outs := match implM s with
 | some m => .one (rModB m true)
 | none => .one (rModB (mod0 0) false)
noncomputable def zIj : Ct := fam true (fun s : S20 => ([.c (.im (.str ⟨s.1.toArray⟩))],[])) (fun s => oPm s.1)
theorem zTx : ∀ a b : S20,([D.c (.im (.str ⟨a.1.toArray⟩))],([] : List (List B))) = ([D.c (.im (.str ⟨b.1.toArray⟩))],[]) → a = b := by
 rintro ⟨a,_⟩ ⟨b,_⟩ h
 simp only [Prod.mk.injEq,List.cons.injEq,D.c.injEq,C.im.injEq,I.str.injEq,zHo,true_and,and_true] at h
 exact Subtype.ext h
theorem zNy {s : Txt} (h : s.length ≤ 1048576) : zIj.run [.c (.im (.str ⟨s.toArray⟩))] [] = some (oPm s) :=
 zAd (args := fun s : S20 => ([D.c (.im (.str ⟨s.1.toArray⟩))],[])) zTx ⟨s,h⟩
theorem zRf1 (s : Txt) {sc : Bool} : ∀ res,(oPm s).mem res → OkR sc res := by
 unfold oPm
 cases implM s with
 | none => exact okO zAa1
 | some m => exact okO zAa1
theorem zSo1 : qn .f32 < 4294967296 := by decide
theorem zNl (s : Txt) : (sglP s).1 < 4294967296 := by
 unfold sglP
 split
 · exact zSo1
 split
 · decide
 split
 · decide
 · cases h : prsT s with
   | none => simp
   | some w => exact (zJo h).1.lt
theorem zVe (ps : List Txt) (bad : Bool) : (rdS ps bad).1 < 4294967296 := by
 cases ps with
 | nil => simp [rdS]
 | cons p t => exact zNl p
theorem zRx (ps : List Txt) (bad : Bool) : i64B (rdI ps bad).1 := by
 cases ps with
 | nil => simp [rdI,i64B]
 | cons p t => exact zYj p
theorem zIf (ps : List Txt) (bad : Bool) : (rdP ps bad).1.1 < 4294967296 ∧ (rdP ps bad).1.2 < 4294967296 := ⟨zVe _ _,zVe _ _⟩
theorem zZg : ∀ (n : Nat) (ps : List Txt) (bad : Bool),ps.length ≤ n → (dlyP ps bad).1.length ≤ ps.length ∧ ∀ p ∈ (dlyP ps bad).1,p.1 < 4294967296 ∧ p.2 < 4294967296
 | 0,ps,bad,h => by
   have : ps = [] := List.eq_nil_of_length_eq_zero (by omega)
   subst this
   unfold dlyP; simp
 | n + 1,ps,bad,h => by
   unfold dlyP
   split
   · rename_i hc
     have hl : 0 < ps.length := List.length_pos_iff.2 hc.1
     have ih := zZg n (rdP ps bad).2.1 (rdP ps bad).2.2 (by rw [zFg]; omega)
     rw [zFg] at ih
     refine ⟨by simp only [yas]; omega,fun p hp => ?_⟩
     rcases List.mem_cons.1 hp with rfl | hp
     · exact zIf _ _
     · exact ih.2 p hp
   · simp
theorem zRl : ∀ (n : Nat) (ps : List Txt) (bad : Bool),ps.length ≤ n → (slcP ps bad).1.length ≤ ps.length ∧ (slcP ps bad).2.1.length = (slcP ps bad).1.length ∧ (∀ p ∈ (slcP ps bad).1,p.1 < 4294967296 ∧ p.2 < 4294967296) ∧ ∀ x ∈ (slcP ps bad).2.1,i64B x
 | 0,ps,bad,h => by
   have : ps = [] := List.eq_nil_of_length_eq_zero (by omega)
   subst this
   unfold slcP; simp
 | n + 1,ps,bad,h => by
   unfold slcP
   split
   · rename_i hc
     have hl : 0 < ps.length := List.length_pos_iff.2 hc.1
     have ih := zRl n (rdI (rdP ps bad).2.1 (rdP ps bad).2.2).2.1 (rdI (rdP ps bad).2.1 (rdP ps bad).2.2).2.2 (by rw [zFz,zFg]; omega)
     rw [zFz,zFg] at ih
     refine ⟨by simp only [yas]; omega,by simp only [yas]; omega,fun p hp => ?_,fun x hx => ?_⟩
     · rcases List.mem_cons.1 hp with rfl | hp
       · exact zIf _ _
       · exact ih.2.2.1 p hp
     · rcases List.mem_cons.1 hx with rfl | hx
       · exact zRx _ _
       · exact ih.2.2.2 x hx
   · simp
theorem zAx : (zGj.sc = true) = True := by simp [zGj,fam]
theorem zCa : (zMx.sc = true) = False := by simp [zMx,fam]
theorem zCv : (zFq.sc = true) = False := by simp [zFq,fam]
theorem zDd : (zHz.sc = true) = False := by simp [zHz,fam]
theorem zSa {s w : Txt} {ps rest : List Txt} {M : Mod} {bd : Bool} (hws : splT 32 s = w :: ps) (hR : readM (kindT w) ps = (M,rest,bd)) :
   oPm s = if bd = false ∧ rest = [] ∧ isModuleF M = true ∧ fmtM M = s then .one (rModB M true) else .one (rModB (mod0 0) false) := by
 have h : implM s = if bd = false ∧ rest = [] ∧ isModuleF M = true ∧ fmtM M = s then some M else none := by
   unfold implM
   rw [hws]
   simp only [hR]
 unfold oPm
 rw [h]
 by_cases hc : bd = false ∧ rest = [] ∧ isModuleF M = true ∧ fmtM M = s
 · rw [if_pos hc,if_pos hc]
 · rw [if_neg hc,if_neg hc]
theorem zYy (w : Txt) : kindT w = 1 ∨ kindT w = 2 ∨ kindT w = 3 ∨ kindT w = 4 ∨ kindT w = 5 ∨ kindT w = 6 ∨ kindT w = 7 ∨ kindT w = 8 ∨ kindT w = 0 := by
 unfold kindT
 repeat' split
 all_goals simp
theorem zOo : Law Tryz.prog 8 zIj := by
 refine zCo (zAc zWg (zAc zSh (zAc zJu (zAc zGf1 (zAc zQn (zAc zYu (zAc zHi (zAc zMi zAf)))))))) hmixA Tryz.func8 rfl rfl (fun ⟨s,hs⟩ => ⟨zRf1 s,by simp [Tryz.f8],?_⟩)
 simp only at hs ⊢
 have hsm : sm = 16777216 := rfl
 have c9 : ((9 : Nat) : Int) = 9 := rfl
 have zPp : MvR false (.arr 1 (tI (rowsS kNms))) = True := eq_true (zLl (zJf1 _))
 have rsp := zVb (s := s) (by omega) 32
 obtain ⟨w,ps,hws⟩ : ∃ w ps,splT 32 s = w :: ps := by
   cases h : splT 32 s with
   | nil => exact absurd h (zEr _ _)
   | cons w ps => exact ⟨w,ps,rfl⟩
 have hlen := zRj 32 s
 have hsub := zFr 32 s
 rw [hws] at hlen hsub rsp
 have hlp : (w :: ps).length ≤ sm := by omega
 have hp21 : ∀ p ∈ w :: ps,p.length ≤ 2097152 := fun p hp => by have := hsub p hp; omega
 have rt := zRn (ps := w :: ps) (bad := false) hlp hp21
 simp only [takF,hsRd] at rt
 try simp -dsimp (maxSteps := 1000000) only [go_sem,↓reduceIte,yab,Tryz.f8,rsp,zEc,rt,zNn,zPs]
 refine zBa (ι := { k : Nat // k ≤ 9 }) (fun k => ⟨[(0,some (.c (.im (.str ⟨s.toArray⟩)))),(2,some (.c (.ptr 0 0 0 0))),(4,some (.c (.ptr 1 0 0 0))),(5,some (.c (.im (.str ⟨w.toArray⟩)))),(6,some (.c (.ptr 2 0 0 0))),(16,some (.c (.view 3 1 0 9))),(17,some (.c (.im (.int .i64 9)))),(18,some (.c (.im (.int .i64 (k.1 : Int)))))],
   [(0,some (.box [.t (.im (.int .i64 0)),.t (.im (.cpx .f32 0 0)),.t (.im (.cpx .f32 0 0)),.t (.im (.flt .f32 0)),.t .nil,.t (.im (.int .i64 0)),.t (.im (.int .i64 0)),.t .nil,.t .nil,.t (.im (.int .i64 0)),.t (.im (.int .i64 0))])),
    (1,some (.box [.t (.im (.sl 1 (rowsS ps))),.t (.im (.bool false))])),
    (2,some (.box [.t (.im (.int .i64 (kdF w k.1))),.t (.im (.cpx .f32 0 0)),.t (.im (.cpx .f32 0 0)),.t (.im (.flt .f32 0)),.t (.lent 4 1 0),.t (.im (.int .i64 0)),.t (.im (.int .i64 0)),.t (.lent 5 1 0),.t (.lent 6 1 0),.t (.im (.int .i64 0)),.t (.im (.int .i64 0))])),
    (3,some (.arr 1 (tI (rowsS kNms)))),(4,some (.arr 1 [])),(5,some (.arr 1 [])),(6,some (.arr 1 []))],7⟩) (fun k => 9 - k.1) ⟨0,by omega⟩ ⟨[.nilT 2 0 4 1,.nilT 2 0 7 1,.nilT 2 0 8 1,.unf 2 0 4,.unf 2 0 7,.unf 2 0 8],[0,1,2,3,4,5,6],?sub⟩ (fun ⟨k,hk⟩ => ?_)
 case sub =>
   ((simp only [go_sem,↓reduceIte,yab,yai,yaK,c9,kdF,zPp,zAy,zGk]) <;> (try (simp -dsimp only [go_sem,↓reduceIte,yab,yai,yaK,c9,kdF,zPp,zAy,zGk])))
   all_goals simp [lk,zAy,zGk]
 simp only
 by_cases hk9 : k < 9
 · obtain ⟨q,hq⟩ : ∃ q,kNms[k]? = some q := ⟨kNms[k]'(by simpa [kNms] using hk9),List.getElem?_eq_getElem _⟩
   have hrow : (tI (rowsS kNms))[k]? = some [T.im (.str ⟨q.toArray⟩)] := by simp [tI,rowsS,hq]
   have hI : ((k : Int) < 9) = True := eq_true (by omega)
   have b0 : (0 ≤ (k : Int)) = True := eq_true (by omega)
   have hwr : IntKind.i64.wrap ((k : Int) + 1) = ((k + 1 : Nat) : Int) := by rw [zAg (by omega) (by omega)]; omega
   have hln : (tI (rowsS kNms)).length = 9 := rfl
   have hgd : kNms.getD k [] = q := by rw [List.getD_eq_getElem?_getD,hq]; rfl
   by_cases hk0 : 0 < k
   · have g0 := eq_true (show (0 : Int) < (k : Int) by omega)
     by_cases he : q = w
     · have he' := eq_true he
       have hkd : kdF w (k + 1) = (k : Int) := by simp only [kdF,hgd]; rw [if_pos ⟨hk0,he⟩]
       try simp -dsimp (maxSteps := 1000000) only [go_sem,↓reduceIte,yab,Tryz.f8,hI,b0,hrow,hln,hwr,c9,g0,zAh,he',Int.toNat_natCast]
       refine ⟨⟨k + 1,by omega⟩,by simp only []; omega,[],[0,1,2,3,4,5,6],?_⟩
       (simp only [go_sem,↓reduceIte,yab,yai,hkd,zPp,zAy])
       all_goals simp [lk,zAy,zGk]
     · have he' := eq_false he
       have hkd : kdF w (k + 1) = kdF w k := by simp only [kdF,hgd]; rw [if_neg (fun h => he h.2)]
       try simp -dsimp (maxSteps := 1000000) only [go_sem,↓reduceIte,yab,Tryz.f8,hI,b0,hrow,hln,hwr,c9,g0,zAh,he',Int.toNat_natCast]
       refine ⟨⟨k + 1,by omega⟩,by simp only []; omega,[],[0,1,2,3,4,5,6],?_⟩
       (simp only [go_sem,↓reduceIte,yab,yai,hkd,zPp,zAy])
       all_goals simp [lk,zAy,zGk]
   · have hke : k = 0 := by omega
     subst hke
     have hkd : kdF w (0 + 1) = kdF w 0 := by simp [kdF]
     have g0 : ((0 : Int) < ((0 : Nat) : Int)) = False := by simp
     try simp -dsimp (maxSteps := 1000000) only [go_sem,↓reduceIte,yab,Tryz.f8,hI,b0,hrow,hln,hwr,c9,g0,Int.toNat_natCast]
     refine ⟨⟨0 + 1,by omega⟩,by simp only []; omega,[],[0,1,2,3,4,5,6],?_⟩
     (simp only [go_sem,↓reduceIte,yab,yai,hkd,zPp,zAy])
     all_goals simp [lk,zAy,zGk]
 have hI : ((k : Int) < 9) = False := eq_false (by omega)
 have hke : k = 9 := by omega
 subst hke
 rw [zPp1]
 have hlps : ps.length ≤ sm := by simp only [yas] at hlp; omega
 have hsps : ∀ p ∈ ps,p.length ≤ 2097152 := fun p hp => hp21 p (List.mem_cons_of_mem _ hp)
 clear rsp rt hI hlp hp21
 have c0 : ((0 : Nat) : Int) = 0 := rfl
 rcases zYy w with hK | hK | hK | hK | hK | hK | hK | hK | hK
 · have hR : readM (kindT w) ps = (⟨1,(rdP ps false).1,(rdP (rdP ps false).2.1 (rdP ps false).2.2).1,0,[],0,0,[],[],0,0⟩,(rdP (rdP ps false).2.1 (rdP ps false).2.2).2) := by rw [hK]; simp [readM,mod0]
   have r1 := zEu (bad := false) hlps hsps
   have r2 := zEu (ps := (rdP ps false).2.1) (bad := (rdP ps false).2.2) (by rw [zFg]; omega) (zRw hsps)
   have w1 := zIf ps false
   have w2 := zIf (rdP ps false).2.1 (rdP ps false).2.2
   simp only [hsRd] at r1 r2
   rw [hK]
   generalize rdP (rdP ps false).2.1 (rdP ps false).2.2 = Y at *
   generalize rdP ps false = X at *
   obtain ⟨⟨t1,t2⟩,ps1,b1⟩ := X
   obtain ⟨⟨s1,s2⟩,rest,bd⟩ := Y
   simp only at r1 r2 w1 w2 hR
   have ho := zSa hws hR
   cases bd with
   | true =>
     rw [ho,if_neg (by simp)]
     try simp -dsimp (maxSteps := 1000000) only [go_sem,↓reduceIte,yab,Tryz.f8,c9,r1,r2,zCa,zAx,List.take_nil,yan,Int.reduceLT,Int.reduceEq,yaH,yaI,yaJ,yaM,yaN,yaO,zAe]
     refine zAm [.nilT 0 0 4 1,.nilT 0 0 7 1,.nilT 0 0 8 1,.unf 0 0 4,.unf 0 0 7,.unf 0 0 8] ?_
     simp -dsimp (maxSteps := 1000000) only [go_sem,↓reduceIte,yab,yaK,rModB,mod0]
     refine ⟨[7,8,9],?_,?_,?_,rfl,rfl,rfl⟩ <;> simp [rtOk,tI,rowsZ,rowsN]
   | false =>
   cases rest with
   | cons p0 t0 =>
     have hg : ((0 : Int) < ((t0.length + 1 : Nat) : Int)) = True := eq_true (by omega)
     rw [ho,if_neg (by simp)]
     try simp -dsimp (maxSteps := 1000000) only [go_sem,↓reduceIte,yab,Tryz.f8,c9,r1,r2,zCa,zAx,List.take_nil,yan,Int.reduceLT,Int.reduceEq,yaH,yaI,yaJ,yaM,yaN,yaO,zAe,hg]
     refine zAm [.nilT 0 0 4 1,.nilT 0 0 7 1,.nilT 0 0 8 1,.unf 0 0 4,.unf 0 0 7,.unf 0 0 8] ?_
     simp -dsimp (maxSteps := 1000000) only [go_sem,↓reduceIte,yab,yaK,rModB,mod0]
     refine ⟨[7,8,9],?_,?_,?_,rfl,rfl,rfl⟩ <;> simp [rtOk,tI,rowsZ,rowsN]
   | nil =>
   have ri := zBh (k := 1) (t1 := t1) (t2 := t2) (s1 := s1) (s2 := s2) (lv := 0) (st := []) (ra := 0) (rc := 0) (pts := []) (lab := []) (c := 0) (l := 0) (by simp) (by simp) (by simp)
   have rf := zBb ⟨⟨1,(t1,t2),(s1,s2),0,[],0,0,[],[],0,0⟩,⟨by simp,by simp,by simp⟩,⟨w1,w2,by simp,by simp,by simp⟩,by simp [i64B],by simp [i64B],by simp [i64B],by simp⟩
   simp only [modC,zAj,zAl] at ri rf
   cases hv : isModuleF ⟨1,(t1,t2),(s1,s2),0,[],0,0,[],[],0,0⟩ with
   | false =>
     rw [hv] at ri
     rw [ho,if_neg (by simp [hv])]
     try simp -dsimp (maxSteps := 1000000) only [go_sem,↓reduceIte,yab,Tryz.f8,c9,r1,r2,zCa,zAx,List.take_nil,yan,Int.reduceLT,Int.reduceEq,yaH,yaI,yaJ,yaM,yaN,yaO,zAn,c0,ri]
     refine zAm [.nilT 0 0 4 1,.nilT 0 0 7 1,.nilT 0 0 8 1,.unf 0 0 4,.unf 0 0 7,.unf 0 0 8] ?_
     simp -dsimp (maxSteps := 1000000) only [go_sem,↓reduceIte,yab,yaK,rModB,mod0]
     refine ⟨[7,8,9],?_,?_,?_,rfl,rfl,rfl⟩ <;> simp [rtOk,tI,rowsZ,rowsN]
   | true =>
   rw [hv] at ri
   by_cases hf : fmtM ⟨1,(t1,t2),(s1,s2),0,[],0,0,[],[],0,0⟩ = s
   · have hf' := eq_true hf
     rw [ho,if_pos ⟨rfl,rfl,hv,hf⟩]
     try simp -dsimp (maxSteps := 1000000) only [go_sem,↓reduceIte,yab,Tryz.f8,c9,r1,r2,zCa,zAx,List.take_nil,yan,Int.reduceLT,Int.reduceEq,yaH,yaI,yaJ,yaM,yaN,yaO,zAn,c0,ri,rf,zAq,zAh,hf']
     refine zAm [] ?_
     simp -dsimp (maxSteps := 1000000) only [go_sem,↓reduceIte,yab,rModB]
     refine ⟨[4,5,6],?_,?_,?_,rfl,rfl,rfl⟩ <;> simp [rtOk,tI,rowsZ,rowsN]
   · have hf' := eq_false hf
     rw [ho,if_neg (fun h => hf h.2.2.2)]
     try simp -dsimp (maxSteps := 1000000) only [go_sem,↓reduceIte,yab,Tryz.f8,c9,r1,r2,zCa,zAx,List.take_nil,yan,Int.reduceLT,Int.reduceEq,yaH,yaI,yaJ,yaM,yaN,yaO,zAn,c0,ri,rf,zAq,zAh,hf']
     refine zAm [.nilT 0 0 4 1,.nilT 0 0 7 1,.nilT 0 0 8 1,.unf 0 0 4,.unf 0 0 7,.unf 0 0 8] ?_
     simp -dsimp (maxSteps := 1000000) only [go_sem,↓reduceIte,yab,yaK,rModB,mod0]
     refine ⟨[7,8,9],?_,?_,?_,rfl,rfl,rfl⟩ <;> simp [rtOk,tI,rowsZ,rowsN]
 · have hR : readM (kindT w) ps = (⟨2,(rdP ps false).1,(rdP (rdP ps false).2.1 (rdP ps false).2.2).1,0,[],0,0,[],[],0,0⟩,(rdP (rdP ps false).2.1 (rdP ps false).2.2).2) := by rw [hK]; simp [readM,mod0]
   have r1 := zEu (bad := false) hlps hsps
   have r2 := zEu (ps := (rdP ps false).2.1) (bad := (rdP ps false).2.2) (by rw [zFg]; omega) (zRw hsps)
   have w1 := zIf ps false
   have w2 := zIf (rdP ps false).2.1 (rdP ps false).2.2
   simp only [hsRd] at r1 r2
   rw [hK]
   generalize rdP (rdP ps false).2.1 (rdP ps false).2.2 = Y at *
   generalize rdP ps false = X at *
   obtain ⟨⟨t1,t2⟩,ps1,b1⟩ := X
   obtain ⟨⟨s1,s2⟩,rest,bd⟩ := Y
   simp only at r1 r2 w1 w2 hR
   have ho := zSa hws hR
   cases bd with
   | true =>
     rw [ho,if_neg (by simp)]
     try simp -dsimp (maxSteps := 1000000) only [go_sem,↓reduceIte,yab,Tryz.f8,c9,r1,r2,zCa,zAx,List.take_nil,yan,Int.reduceLT,Int.reduceEq,yaH,yaI,yaJ,yaM,yaN,yaO,zAe]
     refine zAm [.nilT 0 0 4 1,.nilT 0 0 7 1,.nilT 0 0 8 1,.unf 0 0 4,.unf 0 0 7,.unf 0 0 8] ?_
     simp -dsimp (maxSteps := 1000000) only [go_sem,↓reduceIte,yab,yaK,rModB,mod0]
     refine ⟨[7,8,9],?_,?_,?_,rfl,rfl,rfl⟩ <;> simp [rtOk,tI,rowsZ,rowsN]
   | false =>
   cases rest with
   | cons p0 t0 =>
     have hg : ((0 : Int) < ((t0.length + 1 : Nat) : Int)) = True := eq_true (by omega)
     rw [ho,if_neg (by simp)]
     try simp -dsimp (maxSteps := 1000000) only [go_sem,↓reduceIte,yab,Tryz.f8,c9,r1,r2,zCa,zAx,List.take_nil,yan,Int.reduceLT,Int.reduceEq,yaH,yaI,yaJ,yaM,yaN,yaO,zAe,hg]
     refine zAm [.nilT 0 0 4 1,.nilT 0 0 7 1,.nilT 0 0 8 1,.unf 0 0 4,.unf 0 0 7,.unf 0 0 8] ?_
     simp -dsimp (maxSteps := 1000000) only [go_sem,↓reduceIte,yab,yaK,rModB,mod0]
     refine ⟨[7,8,9],?_,?_,?_,rfl,rfl,rfl⟩ <;> simp [rtOk,tI,rowsZ,rowsN]
   | nil =>
   have ri := zBh (k := 2) (t1 := t1) (t2 := t2) (s1 := s1) (s2 := s2) (lv := 0) (st := []) (ra := 0) (rc := 0) (pts := []) (lab := []) (c := 0) (l := 0) (by simp) (by simp) (by simp)
   have rf := zBb ⟨⟨2,(t1,t2),(s1,s2),0,[],0,0,[],[],0,0⟩,⟨by simp,by simp,by simp⟩,⟨w1,w2,by simp,by simp,by simp⟩,by simp [i64B],by simp [i64B],by simp [i64B],by simp⟩
   simp only [modC,zAj,zAl] at ri rf
   cases hv : isModuleF ⟨2,(t1,t2),(s1,s2),0,[],0,0,[],[],0,0⟩ with
   | false =>
     rw [hv] at ri
     rw [ho,if_neg (by simp [hv])]
     try simp -dsimp (maxSteps := 1000000) only [go_sem,↓reduceIte,yab,Tryz.f8,c9,r1,r2,zCa,zAx,List.take_nil,yan,Int.reduceLT,Int.reduceEq,yaH,yaI,yaJ,yaM,yaN,yaO,zAn,c0,ri]
     refine zAm [.nilT 0 0 4 1,.nilT 0 0 7 1,.nilT 0 0 8 1,.unf 0 0 4,.unf 0 0 7,.unf 0 0 8] ?_
     simp -dsimp (maxSteps := 1000000) only [go_sem,↓reduceIte,yab,yaK,rModB,mod0]
     refine ⟨[7,8,9],?_,?_,?_,rfl,rfl,rfl⟩ <;> simp [rtOk,tI,rowsZ,rowsN]
   | true =>
   rw [hv] at ri
   by_cases hf : fmtM ⟨2,(t1,t2),(s1,s2),0,[],0,0,[],[],0,0⟩ = s
   · have hf' := eq_true hf
     rw [ho,if_pos ⟨rfl,rfl,hv,hf⟩]
     try simp -dsimp (maxSteps := 1000000) only [go_sem,↓reduceIte,yab,Tryz.f8,c9,r1,r2,zCa,zAx,List.take_nil,yan,Int.reduceLT,Int.reduceEq,yaH,yaI,yaJ,yaM,yaN,yaO,zAn,c0,ri,rf,zAq,zAh,hf']
     refine zAm [] ?_
     simp -dsimp (maxSteps := 1000000) only [go_sem,↓reduceIte,yab,rModB]
     refine ⟨[4,5,6],?_,?_,?_,rfl,rfl,rfl⟩ <;> simp [rtOk,tI,rowsZ,rowsN]
   · have hf' := eq_false hf
     rw [ho,if_neg (fun h => hf h.2.2.2)]
     try simp -dsimp (maxSteps := 1000000) only [go_sem,↓reduceIte,yab,Tryz.f8,c9,r1,r2,zCa,zAx,List.take_nil,yan,Int.reduceLT,Int.reduceEq,yaH,yaI,yaJ,yaM,yaN,yaO,zAn,c0,ri,rf,zAq,zAh,hf']
     refine zAm [.nilT 0 0 4 1,.nilT 0 0 7 1,.nilT 0 0 8 1,.unf 0 0 4,.unf 0 0 7,.unf 0 0 8] ?_
     simp -dsimp (maxSteps := 1000000) only [go_sem,↓reduceIte,yab,yaK,rModB,mod0]
     refine ⟨[7,8,9],?_,?_,?_,rfl,rfl,rfl⟩ <;> simp [rtOk,tI,rowsZ,rowsN]
 · have hR : readM (kindT w) ps = (⟨3,(0,0),(0,0),(rdS ps false).1,[],0,0,[],[],0,0⟩,(rdS ps false).2) := by rw [hK]; simp [readM,mod0]
   have r1 := zHr (bad := false) hlps hsps
   have w1 := zVe ps false
   simp only [hsRd] at r1
   rw [hK]
   generalize rdS ps false = X at *
   obtain ⟨lv,rest,bd⟩ := X
   simp only at r1 w1 hR
   have ho := zSa hws hR
   cases bd with
   | true =>
     rw [ho,if_neg (by simp)]
     try simp -dsimp (maxSteps := 1000000) only [go_sem,↓reduceIte,yab,Tryz.f8,c9,r1,zCv,zAx,List.take_nil,yan,Int.reduceLT,Int.reduceEq,yaH,yaI,yaJ,yaM,yaN,yaO,zAe]
     refine zAm [.nilT 0 0 4 1,.nilT 0 0 7 1,.nilT 0 0 8 1,.unf 0 0 4,.unf 0 0 7,.unf 0 0 8] ?_
     simp -dsimp (maxSteps := 1000000) only [go_sem,↓reduceIte,yab,yaK,rModB,mod0]
     refine ⟨[7,8,9],?_,?_,?_,rfl,rfl,rfl⟩ <;> simp [rtOk,tI,rowsZ,rowsN]
   | false =>
   cases rest with
   | cons p0 t0 =>
     have hg : ((0 : Int) < ((t0.length + 1 : Nat) : Int)) = True := eq_true (by omega)
     rw [ho,if_neg (by simp)]
     try simp -dsimp (maxSteps := 1000000) only [go_sem,↓reduceIte,yab,Tryz.f8,c9,r1,zCv,zAx,List.take_nil,yan,Int.reduceLT,Int.reduceEq,yaH,yaI,yaJ,yaM,yaN,yaO,zAe,hg]
     refine zAm [.nilT 0 0 4 1,.nilT 0 0 7 1,.nilT 0 0 8 1,.unf 0 0 4,.unf 0 0 7,.unf 0 0 8] ?_
     simp -dsimp (maxSteps := 1000000) only [go_sem,↓reduceIte,yab,yaK,rModB,mod0]
     refine ⟨[7,8,9],?_,?_,?_,rfl,rfl,rfl⟩ <;> simp [rtOk,tI,rowsZ,rowsN]
   | nil =>
   have ri := zBh (k := 3) (t1 := 0) (t2 := 0) (s1 := 0) (s2 := 0) (lv := lv) (st := []) (ra := 0) (rc := 0) (pts := []) (lab := []) (c := 0) (l := 0) (by simp) (by simp) (by simp)
   have rf := zBb ⟨⟨3,(0,0),(0,0),lv,[],0,0,[],[],0,0⟩,⟨by simp,by simp,by simp⟩,⟨⟨by simp,by simp⟩,⟨by simp,by simp⟩,w1,by simp,by simp⟩,by simp [i64B],by simp [i64B],by simp [i64B],by simp⟩
   simp only [modC,zAj,zAl] at ri rf
   cases hv : isModuleF ⟨3,(0,0),(0,0),lv,[],0,0,[],[],0,0⟩ with
   | false =>
     rw [hv] at ri
     rw [ho,if_neg (by simp [hv])]
     try simp -dsimp (maxSteps := 1000000) only [go_sem,↓reduceIte,yab,Tryz.f8,c9,r1,zCv,zAx,List.take_nil,yan,Int.reduceLT,Int.reduceEq,yaH,yaI,yaJ,yaM,yaN,yaO,zAn,c0,ri]
     refine zAm [.nilT 0 0 4 1,.nilT 0 0 7 1,.nilT 0 0 8 1,.unf 0 0 4,.unf 0 0 7,.unf 0 0 8] ?_
     simp -dsimp (maxSteps := 1000000) only [go_sem,↓reduceIte,yab,yaK,rModB,mod0]
     refine ⟨[7,8,9],?_,?_,?_,rfl,rfl,rfl⟩ <;> simp [rtOk,tI,rowsZ,rowsN]
   | true =>
   rw [hv] at ri
   by_cases hf : fmtM ⟨3,(0,0),(0,0),lv,[],0,0,[],[],0,0⟩ = s
   · have hf' := eq_true hf
     rw [ho,if_pos ⟨rfl,rfl,hv,hf⟩]
     try simp -dsimp (maxSteps := 1000000) only [go_sem,↓reduceIte,yab,Tryz.f8,c9,r1,zCv,zAx,List.take_nil,yan,Int.reduceLT,Int.reduceEq,yaH,yaI,yaJ,yaM,yaN,yaO,zAn,c0,ri,rf,zAq,zAh,hf']
     refine zAm [] ?_
     simp -dsimp (maxSteps := 1000000) only [go_sem,↓reduceIte,yab,rModB]
     refine ⟨[4,5,6],?_,?_,?_,rfl,rfl,rfl⟩ <;> simp [rtOk,tI,rowsZ,rowsN]
   · have hf' := eq_false hf
     rw [ho,if_neg (fun h => hf h.2.2.2)]
     try simp -dsimp (maxSteps := 1000000) only [go_sem,↓reduceIte,yab,Tryz.f8,c9,r1,zCv,zAx,List.take_nil,yan,Int.reduceLT,Int.reduceEq,yaH,yaI,yaJ,yaM,yaN,yaO,zAn,c0,ri,rf,zAq,zAh,hf']
     refine zAm [.nilT 0 0 4 1,.nilT 0 0 7 1,.nilT 0 0 8 1,.unf 0 0 4,.unf 0 0 7,.unf 0 0 8] ?_
     simp -dsimp (maxSteps := 1000000) only [go_sem,↓reduceIte,yab,yaK,rModB,mod0]
     refine ⟨[7,8,9],?_,?_,?_,rfl,rfl,rfl⟩ <;> simp [rtOk,tI,rowsZ,rowsN]
 · have hR : readM (kindT w) ps = (⟨4,(0,0),(0,0),0,(dlyP (rdI ps false).2.1 (rdI ps false).2.2).1,(rdI ps false).1,((dlyP (rdI ps false).2.1 (rdI ps false).2.2).1.length : Int),[],[],0,0⟩,(dlyP (rdI ps false).2.1 (rdI ps false).2.2).2) := by rw [hK]; simp [readM,mod0]
   have r1 := zEw (bad := false) hlps hsps
   have w1 := zRx ps false
   have l1 := zFz ps false
   have s1 := zKo (bad := false) hsps
   simp only [hsRd] at r1
   rw [hK]
   generalize rdI ps false = X at *
   obtain ⟨ra,ps1,b1⟩ := X
   simp only at r1 w1 l1 s1 hR
   have hl1 : ps1.length ≤ 1048576 := by simp only [yas] at hlen; omega
   have hdk := zZg _ ps1 b1 (Nat.le_refl _)
   try simp -dsimp (maxSteps := 1000000) only [go_sem,↓reduceIte,yab,Tryz.f8,c9,r1,zDd,Int.reduceLT,Int.reduceEq]
   refine zBa (ι := { x : List Pt × List Txt × Bool // dlyP ps1 b1 = (x.1 ++ (dlyP x.2.1 x.2.2).1,(dlyP x.2.1 x.2.2).2) ∧ x.2.1.length ≤ ps1.length ∧ x.1.length ≤ ps1.length ∧ ∀ p ∈ x.2.1,p.length ≤ 2097152 }) (fun x => ⟨[(0,some (.c (.im (.str ⟨s.toArray⟩)))),(2,some (.c (.ptr 0 0 0 0))),(4,some (.c (.ptr 1 0 0 0))),(6,some (.c (.ptr 2 0 0 0)))],
     [(0,some (.box [.t (.im (.int .i64 0)),.t (.im (.cpx .f32 0 0)),.t (.im (.cpx .f32 0 0)),.t (.im (.flt .f32 0)),.t .nil,.t (.im (.int .i64 0)),.t (.im (.int .i64 0)),.t .nil,.t .nil,.t (.im (.int .i64 0)),.t (.im (.int .i64 0))])),
      (1,some (.box [.t (.im (.sl 1 (rowsS x.1.2.1))),.t (.im (.bool x.1.2.2))])),
      (2,some (.box [.t (.im (.int .i64 4)),.t (.im (.cpx .f32 0 0)),.t (.im (.cpx .f32 0 0)),.t (.im (.flt .f32 0)),.t (.lent 4 1 x.1.1.length),.t (.im (.int .i64 ra)),.t (.im (.int .i64 0)),.t (.lent 5 1 0),.t (.lent 6 1 0),.t (.im (.int .i64 0)),.t (.im (.int .i64 0))])),
      (4,some (.arr 1 (tI (rowsZ x.1.1)))),(5,some (.arr 1 [])),(6,some (.arr 1 []))],7⟩) (fun x => x.1.2.1.length) ⟨([],ps1,b1),by simp,by simp,by simp,s1⟩ ⟨[],[0,1,2,4,5,6],?sub⟩ (fun ⟨⟨acc,qs,b⟩,hinv,hq1,hq2,hq3⟩ => ?_)
   case sub =>
     ((simp only [go_sem,↓reduceIte,yab,yai,zPz,zAy,zAj,zZq]) <;> (try (simp -dsimp only [go_sem,↓reduceIte,yab,yai,zPz,zAy,zAj,zZq])))
     all_goals simp [lk,zAy,zGk,tI,rowsZ]
   simp only at hinv hq1 hq2 hq3 ⊢
   by_cases hgo : qs ≠ [] ∧ b = false
   · obtain ⟨hne,rfl⟩ := hgo
     have hql : 0 < qs.length := List.length_pos_iff.2 hne
     have hu : dlyP qs false = ((rdP qs false).1 :: (dlyP (rdP qs false).2.1 (rdP qs false).2.2).1,(dlyP (rdP qs false).2.1 (rdP qs false).2.2).2) := by
       conv => lhs; unfold dlyP
       rw [dif_pos ⟨hne,rfl⟩]
     rw [hu] at hinv
     have rp := zEu (ps := qs) (bad := false) (by omega) hq3
     have pl := zFg qs false
     have psb := zRw (bad := false) hq3
     have hal : (acc ++ (rdP qs false).1 :: (dlyP (rdP qs false).2.1 (rdP qs false).2.2).1).length ≤ ps1.length := by
       have := hdk.1; rw [hinv] at this; exact this
     simp only [hsRd] at rp
     generalize rdP qs false = Y at *
     obtain ⟨⟨u,v⟩,qs2,b2⟩ := Y
     simp only at rp pl psb hinv hal
     have hal2 : acc.length + 1 ≤ ps1.length := by simp only [yar,yas] at hal; omega
     have hg : ((0 : Int) < (qs.length : Int)) = True := eq_true (by omega)
     have hb1 : ((acc.length + 1) * 8 ≤ 140737488355328) = True := eq_true (by omega)
     have tk : List.take acc.length (tI (rowsZ acc)) = tI (rowsZ acc) := List.take_of_length_le (by rw [zAt,zAa]; omega)
     try simp -dsimp (maxSteps := 1000000) only [go_sem,↓reduceIte,yab,Tryz.f8,zAe,hg,rp,zCa,hb1,tk,zRh,zAt,zAa,appendH,srcRows,List.take_succ_cons,yan,yao,yap,okT,yaq,yar,yaI,Nat.sub_zero,yaP]
     repeat' (first
       | ((with_reducible refine sl_i ?_ ?_); focus kernel_rfl)
       | ((with_reducible refine ro_i ?_ ?_); focus kernel_rfl))
     refine ⟨⟨(acc ++ [(u,v)],qs2,b2),by rw [hinv]; simp,by simp only []; omega,by simp only [yar,yas,List.length_nil]; omega,psb⟩,by simp only []; omega,[],[0,1,2,55,5,6],?_⟩
     (simp only [go_sem,↓reduceIte,yab,yai,zPz,zAy,yar,yas,List.length_nil])
   · have hdq : dlyP qs b = ([],qs,b) := by unfold dlyP; rw [dif_neg hgo]
     rw [hdq,List.append_nil] at hinv
     rw [hinv] at hR hdk
     simp only at hR hdk
     have hal : acc.length ≤ 1048576 := Nat.le_trans hq2 hl1
     have tkl : List.take acc.length (tI (rowsZ acc)) = tI (rowsZ acc) := List.take_of_length_le (by rw [zAt,zAa]; omega)
     have hg : ((0 : Int) < ((0 : Nat) : Int)) = False := eq_false (by omega)
     have ri := zBh (k := 4) (t1 := 0) (t2 := 0) (s1 := 0) (s2 := 0) (lv := 0) (st := acc) (ra := ra) (rc := (acc.length : Int)) (pts := []) (lab := []) (c := 0) (l := 0) (by simp only [sm]; omega) (by simp) (by simp)
     have rf := zBb ⟨⟨4,(0,0),(0,0),0,acc,ra,(acc.length : Int),[],[],0,0⟩,⟨by simp only [sm]; omega,by simp,by simp⟩,⟨⟨by simp,by simp⟩,⟨by simp,by simp⟩,by simp,hdk.2,by simp⟩,w1,by simp [i64B],by simp [i64B],by simp⟩
     simp only [modC,zAj,zAl] at ri rf
     have ho := zSa hws hR
     cases b with
     | true =>
       rw [ho,if_neg (by simp)]
       cases qs with
       | nil =>
         try simp -dsimp (maxSteps := 1000000) only [go_sem,↓reduceIte,yab,Tryz.f8,c9,zAx,List.take_nil,yan,Int.reduceLT,Int.reduceEq,yaH,yaI,yaJ,yaM,yaN,yaO,zAt,zCj,zAa,tkl,zAn,c0,hg]
         refine zAm [.nilT 0 0 4 1,.nilT 0 0 7 1,.nilT 0 0 8 1,.unf 0 0 4,.unf 0 0 7,.unf 0 0 8] ?_
         simp -dsimp (maxSteps := 1000000) only [go_sem,↓reduceIte,yab,yaK,rModB,mod0]
         refine ⟨[7,8,9],?_,?_,?_,rfl,rfl,rfl⟩ <;> simp [rtOk,tI,rowsZ,rowsN]
       | cons p0 t0 =>
         have hg2 : ((0 : Int) < ((t0.length + 1 : Nat) : Int)) = True := eq_true (by omega)
         try simp -dsimp (maxSteps := 1000000) only [go_sem,↓reduceIte,yab,Tryz.f8,c9,zAx,List.take_nil,yan,Int.reduceLT,Int.reduceEq,yaH,yaI,yaJ,yaM,yaN,yaO,zAt,zCj,zAa,tkl,zAe,zAw,yas,hg2]
         refine zAm [.nilT 0 0 4 1,.nilT 0 0 7 1,.nilT 0 0 8 1,.unf 0 0 4,.unf 0 0 7,.unf 0 0 8] ?_
         simp -dsimp (maxSteps := 1000000) only [go_sem,↓reduceIte,yab,yaK,rModB,mod0]
         refine ⟨[7,8,9],?_,?_,?_,rfl,rfl,rfl⟩ <;> simp [rtOk,tI,rowsZ,rowsN]
     | false =>
       cases qs with
       | cons p0 t0 => exact absurd ⟨by simp,rfl⟩ hgo
       | nil =>
       cases hv : isModuleF ⟨4,(0,0),(0,0),0,acc,ra,(acc.length : Int),[],[],0,0⟩ with
       | false =>
         rw [hv] at ri
         rw [ho,if_neg (by simp [hv])]
         try simp -dsimp (maxSteps := 1000000) only [go_sem,↓reduceIte,yab,Tryz.f8,c9,zAx,List.take_nil,yan,Int.reduceLT,Int.reduceEq,yaH,yaI,yaJ,yaM,yaN,yaO,zAt,zCj,zAa,tkl,zAn,c0,hg,ri]
         refine zAm [.nilT 0 0 4 1,.nilT 0 0 7 1,.nilT 0 0 8 1,.unf 0 0 4,.unf 0 0 7,.unf 0 0 8] ?_
         simp -dsimp (maxSteps := 1000000) only [go_sem,↓reduceIte,yab,yaK,rModB,mod0]
         refine ⟨[7,8,9],?_,?_,?_,rfl,rfl,rfl⟩ <;> simp [rtOk,tI,rowsZ,rowsN]
       | true =>
       rw [hv] at ri
       by_cases hf : fmtM ⟨4,(0,0),(0,0),0,acc,ra,(acc.length : Int),[],[],0,0⟩ = s
       · have hf' := eq_true hf
         rw [ho,if_pos ⟨rfl,rfl,hv,hf⟩]
         try simp -dsimp (maxSteps := 1000000) only [go_sem,↓reduceIte,yab,Tryz.f8,c9,zAx,List.take_nil,yan,Int.reduceLT,Int.reduceEq,yaH,yaI,yaJ,yaM,yaN,yaO,zAt,zCj,zAa,tkl,zAn,c0,hg,ri,rf,zAq,zAh,hf']
         refine zAm [] ?_
         simp -dsimp (maxSteps := 1000000) only [go_sem,↓reduceIte,yab,rModB]
         refine ⟨[4,5,6],?_,?_,?_,rfl,rfl,rfl⟩ <;> simp [rtOk,tI,rowsZ,rowsN]
       · have hf' := eq_false hf
         rw [ho,if_neg (fun h => hf h.2.2.2)]
         try simp -dsimp (maxSteps := 1000000) only [go_sem,↓reduceIte,yab,Tryz.f8,c9,zAx,List.take_nil,yan,Int.reduceLT,Int.reduceEq,yaH,yaI,yaJ,yaM,yaN,yaO,zAt,zCj,zAa,tkl,zAn,c0,hg,ri,rf,zAq,zAh,hf']
         refine zAm [.nilT 0 0 4 1,.nilT 0 0 7 1,.nilT 0 0 8 1,.unf 0 0 4,.unf 0 0 7,.unf 0 0 8] ?_
         simp -dsimp (maxSteps := 1000000) only [go_sem,↓reduceIte,yab,yaK,rModB,mod0]
         refine ⟨[7,8,9],?_,?_,?_,rfl,rfl,rfl⟩ <;> simp [rtOk,tI,rowsZ,rowsN]
 · have hR : readM (kindT w) ps = (⟨5,(0,0),(0,0),0,[],0,0,[],[],0,0⟩,ps,false) := by rw [hK]; simp [readM,mod0]
   rw [hK]
   generalize ps = rest at *
   have ho := zSa hws hR
   cases rest with
   | cons p0 t0 =>
     have hg : ((0 : Int) < ((t0.length + 1 : Nat) : Int)) = True := eq_true (by omega)
     rw [ho,if_neg (by simp)]
     try simp -dsimp (maxSteps := 1000000) only [go_sem,↓reduceIte,yab,Tryz.f8,c9,c9,zAx,List.take_nil,yan,Int.reduceLT,Int.reduceEq,yaH,yaI,yaJ,yaM,yaN,yaO,zAe,hg]
     refine zAm [.nilT 0 0 4 1,.nilT 0 0 7 1,.nilT 0 0 8 1,.unf 0 0 4,.unf 0 0 7,.unf 0 0 8] ?_
     simp -dsimp (maxSteps := 1000000) only [go_sem,↓reduceIte,yab,yaK,rModB,mod0]
     refine ⟨[7,8,9],?_,?_,?_,rfl,rfl,rfl⟩ <;> simp [rtOk,tI,rowsZ,rowsN]
   | nil =>
   have ri := zBh (k := 5) (t1 := 0) (t2 := 0) (s1 := 0) (s2 := 0) (lv := 0) (st := []) (ra := 0) (rc := 0) (pts := []) (lab := []) (c := 0) (l := 0) (by simp) (by simp) (by simp)
   have rf := zBb ⟨⟨5,(0,0),(0,0),0,[],0,0,[],[],0,0⟩,⟨by simp,by simp,by simp⟩,⟨⟨by simp,by simp⟩,⟨by simp,by simp⟩,by simp,by simp,by simp⟩,by simp [i64B],by simp [i64B],by simp [i64B],by simp⟩
   simp only [modC,zAj,zAl] at ri rf
   cases hv : isModuleF ⟨5,(0,0),(0,0),0,[],0,0,[],[],0,0⟩ with
   | false =>
     rw [hv] at ri
     rw [ho,if_neg (by simp [hv])]
     try simp -dsimp (maxSteps := 1000000) only [go_sem,↓reduceIte,yab,Tryz.f8,c9,c9,zAx,List.take_nil,yan,Int.reduceLT,Int.reduceEq,yaH,yaI,yaJ,yaM,yaN,yaO,zAn,c0,ri]
     refine zAm [.nilT 0 0 4 1,.nilT 0 0 7 1,.nilT 0 0 8 1,.unf 0 0 4,.unf 0 0 7,.unf 0 0 8] ?_
     simp -dsimp (maxSteps := 1000000) only [go_sem,↓reduceIte,yab,yaK,rModB,mod0]
     refine ⟨[7,8,9],?_,?_,?_,rfl,rfl,rfl⟩ <;> simp [rtOk,tI,rowsZ,rowsN]
   | true =>
   rw [hv] at ri
   by_cases hf : fmtM ⟨5,(0,0),(0,0),0,[],0,0,[],[],0,0⟩ = s
   · have hf' := eq_true hf
     rw [ho,if_pos ⟨rfl,rfl,hv,hf⟩]
     try simp -dsimp (maxSteps := 1000000) only [go_sem,↓reduceIte,yab,Tryz.f8,c9,c9,zAx,List.take_nil,yan,Int.reduceLT,Int.reduceEq,yaH,yaI,yaJ,yaM,yaN,yaO,zAn,c0,ri,rf,zAq,zAh,hf']
     refine zAm [] ?_
     simp -dsimp (maxSteps := 1000000) only [go_sem,↓reduceIte,yab,rModB]
     refine ⟨[4,5,6],?_,?_,?_,rfl,rfl,rfl⟩ <;> simp [rtOk,tI,rowsZ,rowsN]
   · have hf' := eq_false hf
     rw [ho,if_neg (fun h => hf h.2.2.2)]
     try simp -dsimp (maxSteps := 1000000) only [go_sem,↓reduceIte,yab,Tryz.f8,c9,c9,zAx,List.take_nil,yan,Int.reduceLT,Int.reduceEq,yaH,yaI,yaJ,yaM,yaN,yaO,zAn,c0,ri,rf,zAq,zAh,hf']
     refine zAm [.nilT 0 0 4 1,.nilT 0 0 7 1,.nilT 0 0 8 1,.unf 0 0 4,.unf 0 0 7,.unf 0 0 8] ?_
     simp -dsimp (maxSteps := 1000000) only [go_sem,↓reduceIte,yab,yaK,rModB,mod0]
     refine ⟨[7,8,9],?_,?_,?_,rfl,rfl,rfl⟩ <;> simp [rtOk,tI,rowsZ,rowsN]
 · have hR : readM (kindT w) ps = (⟨6,(0,0),(0,0),0,[],0,0,(slcP (rdI ps false).2.1 (rdI ps false).2.2).1,(slcP (rdI ps false).2.1 (rdI ps false).2.2).2.1,(rdI ps false).1,0⟩,(slcP (rdI ps false).2.1 (rdI ps false).2.2).2.2) := by rw [hK]; simp [readM,mod0]
   have r1 := zEw (bad := false) hlps hsps
   have w1 := zRx ps false
   have l1 := zFz ps false
   have s1 := zKo (bad := false) hsps
   simp only [hsRd] at r1
   rw [hK]
   generalize rdI ps false = X at *
   obtain ⟨ra,ps1,b1⟩ := X
   simp only at r1 w1 l1 s1 hR
   have hl1 : ps1.length ≤ 1048576 := by simp only [yas] at hlen; omega
   have hdk := zRl _ ps1 b1 (Nat.le_refl _)
   try simp -dsimp (maxSteps := 1000000) only [go_sem,↓reduceIte,yab,Tryz.f8,c9,r1,zDd,Int.reduceLT,Int.reduceEq]
   refine zBa (ι := { x : List Pt × List Int × List Txt × Bool // slcP ps1 b1 = (x.1 ++ (slcP x.2.2.1 x.2.2.2).1,x.2.1 ++ (slcP x.2.2.1 x.2.2.2).2.1,(slcP x.2.2.1 x.2.2.2).2.2) ∧ x.2.2.1.length ≤ ps1.length ∧ x.1.length ≤ ps1.length ∧ x.2.1.length ≤ ps1.length ∧ ∀ p ∈ x.2.2.1,p.length ≤ 2097152 }) (fun x => ⟨[(0,some (.c (.im (.str ⟨s.toArray⟩)))),(2,some (.c (.ptr 0 0 0 0))),(4,some (.c (.ptr 1 0 0 0))),(6,some (.c (.ptr 2 0 0 0)))],
     [(0,some (.box [.t (.im (.int .i64 0)),.t (.im (.cpx .f32 0 0)),.t (.im (.cpx .f32 0 0)),.t (.im (.flt .f32 0)),.t .nil,.t (.im (.int .i64 0)),.t (.im (.int .i64 0)),.t .nil,.t .nil,.t (.im (.int .i64 0)),.t (.im (.int .i64 0))])),
      (1,some (.box [.t (.im (.sl 1 (rowsS x.1.2.2.1))),.t (.im (.bool x.1.2.2.2))])),
      (2,some (.box [.t (.im (.int .i64 6)),.t (.im (.cpx .f32 0 0)),.t (.im (.cpx .f32 0 0)),.t (.im (.flt .f32 0)),.t (.lent 4 1 0),.t (.im (.int .i64 0)),.t (.im (.int .i64 0)),.t (.lent 5 1 x.1.1.length),.t (.lent 6 1 x.1.2.1.length),.t (.im (.int .i64 ra)),.t (.im (.int .i64 0))])),
      (4,some (.arr 1 [])),(5,some (.arr 1 (tI (rowsZ x.1.1)))),(6,some (.arr 1 (tI (rowsN x.1.2.1))))],7⟩) (fun x => x.1.2.2.1.length) ⟨([],[],ps1,b1),by simp,by simp,by simp,by simp,s1⟩ ⟨[],[0,1,2,4,5,6],?sub⟩ (fun ⟨⟨acc,acl,qs,b⟩,hinv,hq1,hq2,hq4,hq3⟩ => ?_)
   case sub =>
     ((simp only [go_sem,↓reduceIte,yab,yai,zPz,zIg1,zAy,zAj,zAl,zZq]) <;> (try (simp -dsimp only [go_sem,↓reduceIte,yab,yai,zPz,zIg1,zAy,zAj,zAl,zZq])))
     all_goals simp [lk,zAy,zGk,tI,rowsZ,rowsN]
   simp only at hinv hq1 hq2 hq3 hq4 ⊢
   by_cases hgo : qs ≠ [] ∧ b = false
   · obtain ⟨hne,rfl⟩ := hgo
     have hql : 0 < qs.length := List.length_pos_iff.2 hne
     have hu : slcP qs false = ((rdP qs false).1 :: (slcP (rdI (rdP qs false).2.1 (rdP qs false).2.2).2.1 (rdI (rdP qs false).2.1 (rdP qs false).2.2).2.2).1,
         (rdI (rdP qs false).2.1 (rdP qs false).2.2).1 :: (slcP (rdI (rdP qs false).2.1 (rdP qs false).2.2).2.1 (rdI (rdP qs false).2.1 (rdP qs false).2.2).2.2).2.1,
         (slcP (rdI (rdP qs false).2.1 (rdP qs false).2.2).2.1 (rdI (rdP qs false).2.1 (rdP qs false).2.2).2.2).2.2) := by
       conv => lhs; unfold slcP
       rw [dif_pos ⟨hne,rfl⟩]
     rw [hu] at hinv
     have rp := zEu (ps := qs) (bad := false) (by omega) hq3
     have pl := zFg qs false
     have psb := zRw (bad := false) hq3
     have rn := zEw (ps := (rdP qs false).2.1) (bad := (rdP qs false).2.2) (by rw [pl]; omega) psb
     have nl := zFz (rdP qs false).2.1 (rdP qs false).2.2
     have nsb := zKo (bad := (rdP qs false).2.2) psb
     have hal : (acc ++ (rdP qs false).1 :: (slcP (rdI (rdP qs false).2.1 (rdP qs false).2.2).2.1 (rdI (rdP qs false).2.1 (rdP qs false).2.2).2.2).1).length ≤ ps1.length := by
       have := hdk.1; rw [hinv] at this; exact this
     have hal' : (acl ++ (rdI (rdP qs false).2.1 (rdP qs false).2.2).1 :: (slcP (rdI (rdP qs false).2.1 (rdP qs false).2.2).2.1 (rdI (rdP qs false).2.1 (rdP qs false).2.2).2.2).2.1).length ≤ ps1.length := by
       have := hdk.1; have h2 := hdk.2.1; rw [hinv] at this h2; simp only at this h2; omega
     simp only [hsRd] at rp rn
     generalize rdI (rdP qs false).2.1 (rdP qs false).2.2 = Y2 at *
     generalize rdP qs false = Y at *
     obtain ⟨⟨u,v⟩,qs2,b2⟩ := Y
     obtain ⟨lb,qs3,b3⟩ := Y2
     simp only at rp pl psb rn nl nsb hinv hal hal'
     have hal2 : acc.length + 1 ≤ ps1.length := by simp only [yar,yas] at hal; omega
     have hal3 : acl.length + 1 ≤ ps1.length := by simp only [yar,yas] at hal'; omega
     have hg : ((0 : Int) < (qs.length : Int)) = True := eq_true (by omega)
     have hb1 : ((acc.length + 1) * 8 ≤ 140737488355328) = True := eq_true (by omega)
     have hb2 : ((acl.length + 1) * 8 ≤ 140737488355328) = True := eq_true (by omega)
     have tk : List.take acc.length (tI (rowsZ acc)) = tI (rowsZ acc) := List.take_of_length_le (by rw [zAt,zAa]; omega)
     have tkn : List.take acl.length (tI (rowsN acl)) = tI (rowsN acl) := List.take_of_length_le (by rw [zAt,zAb]; omega)
     try simp -dsimp (maxSteps := 1000000) only [go_sem,↓reduceIte,yab,Tryz.f8,zAe,hg,rp,rn,zCa,zDd,hb1,hb2,tk,tkn,zRh,zZr,zAt,zAa,zAb,appendH,srcRows,List.take_succ_cons,yan,yao,yap,okT,yaq,yar,yaI,Nat.sub_zero,yaP]
     repeat' (first
       | ((with_reducible refine sl_i ?_ ?_); focus kernel_rfl)
       | ((with_reducible refine ro_i ?_ ?_); focus kernel_rfl))
     refine ⟨⟨(acc ++ [(u,v)],acl ++ [lb],qs3,b3),by rw [hinv]; simp,by simp only []; omega,by simp only [yar,yas,List.length_nil]; omega,by simp only [yar,yas,List.length_nil]; omega,nsb⟩,by simp only []; omega,[],[0,1,2,4,55,135],?_⟩
     (simp only [go_sem,↓reduceIte,yab,yai,zPz,zIg1,zAy,yar,yas,List.length_nil])
   · have hdq : slcP qs b = ([],[],qs,b) := by unfold slcP; rw [dif_neg hgo]
     rw [hdq,List.append_nil,List.append_nil] at hinv
     rw [hinv] at hR hdk
     simp only at hR hdk
     have hal : acc.length ≤ 1048576 := Nat.le_trans hq2 hl1
     have hall : acl.length ≤ 1048576 := Nat.le_trans hq4 hl1
     have tkl : List.take acc.length (tI (rowsZ acc)) = tI (rowsZ acc) := List.take_of_length_le (by rw [zAt,zAa]; omega)
     have tkm : List.take acl.length (tI (rowsN acl)) = tI (rowsN acl) := List.take_of_length_le (by rw [zAt,zAb]; omega)
     have hg : ((0 : Int) < ((0 : Nat) : Int)) = False := eq_false (by omega)
     have ri := zBh (k := 6) (t1 := 0) (t2 := 0) (s1 := 0) (s2 := 0) (lv := 0) (st := []) (ra := 0) (rc := 0) (pts := acc) (lab := acl) (c := ra) (l := 0) (by simp) (by simp only [sm]; omega) (by simp only [sm]; omega)
     have rf := zBb ⟨⟨6,(0,0),(0,0),0,[],0,0,acc,acl,ra,0⟩,⟨by simp,by simp only [sm]; omega,by simp only [sm]; omega⟩,⟨⟨by simp,by simp⟩,⟨by simp,by simp⟩,by simp,by simp,hdk.2.2.1⟩,by simp [i64B],w1,by simp [i64B],hdk.2.2.2⟩
     simp only [modC,zAj,zAl] at ri rf
     have ho := zSa hws hR
     cases b with
     | true =>
       rw [ho,if_neg (by simp)]
       cases qs with
       | nil =>
         try simp -dsimp (maxSteps := 1000000) only [go_sem,↓reduceIte,yab,Tryz.f8,c9,zAx,List.take_nil,yan,Int.reduceLT,Int.reduceEq,yaH,yaI,yaJ,yaM,yaN,yaO,zAt,zCj,zAa,zAb,tkl,tkm,zAn,c0,hg]
         refine zAm [.nilT 0 0 4 1,.nilT 0 0 7 1,.nilT 0 0 8 1,.unf 0 0 4,.unf 0 0 7,.unf 0 0 8] ?_
         simp -dsimp (maxSteps := 1000000) only [go_sem,↓reduceIte,yab,yaK,rModB,mod0]
         refine ⟨[7,8,9],?_,?_,?_,rfl,rfl,rfl⟩ <;> simp [rtOk,tI,rowsZ,rowsN]
       | cons p0 t0 =>
         have hg2 : ((0 : Int) < ((t0.length + 1 : Nat) : Int)) = True := eq_true (by omega)
         try simp -dsimp (maxSteps := 1000000) only [go_sem,↓reduceIte,yab,Tryz.f8,c9,zAx,List.take_nil,yan,Int.reduceLT,Int.reduceEq,yaH,yaI,yaJ,yaM,yaN,yaO,zAt,zCj,zAa,zAb,tkl,tkm,zAe,zAw,yas,hg2]
         refine zAm [.nilT 0 0 4 1,.nilT 0 0 7 1,.nilT 0 0 8 1,.unf 0 0 4,.unf 0 0 7,.unf 0 0 8] ?_
         simp -dsimp (maxSteps := 1000000) only [go_sem,↓reduceIte,yab,yaK,rModB,mod0]
         refine ⟨[7,8,9],?_,?_,?_,rfl,rfl,rfl⟩ <;> simp [rtOk,tI,rowsZ,rowsN]
     | false =>
       cases qs with
       | cons p0 t0 => exact absurd ⟨by simp,rfl⟩ hgo
       | nil =>
       cases hv : isModuleF ⟨6,(0,0),(0,0),0,[],0,0,acc,acl,ra,0⟩ with
       | false =>
         rw [hv] at ri
         rw [ho,if_neg (by simp [hv])]
         try simp -dsimp (maxSteps := 1000000) only [go_sem,↓reduceIte,yab,Tryz.f8,c9,zAx,List.take_nil,yan,Int.reduceLT,Int.reduceEq,yaH,yaI,yaJ,yaM,yaN,yaO,zAt,zCj,zAa,zAb,tkl,tkm,zAn,c0,hg,ri]
         refine zAm [.nilT 0 0 4 1,.nilT 0 0 7 1,.nilT 0 0 8 1,.unf 0 0 4,.unf 0 0 7,.unf 0 0 8] ?_
         simp -dsimp (maxSteps := 1000000) only [go_sem,↓reduceIte,yab,yaK,rModB,mod0]
         refine ⟨[7,8,9],?_,?_,?_,rfl,rfl,rfl⟩ <;> simp [rtOk,tI,rowsZ,rowsN]
       | true =>
       rw [hv] at ri
       by_cases hf : fmtM ⟨6,(0,0),(0,0),0,[],0,0,acc,acl,ra,0⟩ = s
       · have hf' := eq_true hf
         rw [ho,if_pos ⟨rfl,rfl,hv,hf⟩]
         try simp -dsimp (maxSteps := 1000000) only [go_sem,↓reduceIte,yab,Tryz.f8,c9,zAx,List.take_nil,yan,Int.reduceLT,Int.reduceEq,yaH,yaI,yaJ,yaM,yaN,yaO,zAt,zCj,zAa,zAb,tkl,tkm,zAn,c0,hg,ri,rf,zAq,zAh,hf']
         refine zAm [] ?_
         simp -dsimp (maxSteps := 1000000) only [go_sem,↓reduceIte,yab,rModB]
         refine ⟨[4,5,6],?_,?_,?_,rfl,rfl,rfl⟩ <;> simp [rtOk,tI,rowsZ,rowsN]
       · have hf' := eq_false hf
         rw [ho,if_neg (fun h => hf h.2.2.2)]
         try simp -dsimp (maxSteps := 1000000) only [go_sem,↓reduceIte,yab,Tryz.f8,c9,zAx,List.take_nil,yan,Int.reduceLT,Int.reduceEq,yaH,yaI,yaJ,yaM,yaN,yaO,zAt,zCj,zAa,zAb,tkl,tkm,zAn,c0,hg,ri,rf,zAq,zAh,hf']
         refine zAm [.nilT 0 0 4 1,.nilT 0 0 7 1,.nilT 0 0 8 1,.unf 0 0 4,.unf 0 0 7,.unf 0 0 8] ?_
         simp -dsimp (maxSteps := 1000000) only [go_sem,↓reduceIte,yab,yaK,rModB,mod0]
         refine ⟨[7,8,9],?_,?_,?_,rfl,rfl,rfl⟩ <;> simp [rtOk,tI,rowsZ,rowsN]
 · have hR : readM (kindT w) ps = (⟨7,(0,0),(0,0),(rdS ps false).1,[],0,0,[],[],0,0⟩,(rdS ps false).2) := by rw [hK]; simp [readM,mod0]
   have r1 := zHr (bad := false) hlps hsps
   have w1 := zVe ps false
   simp only [hsRd] at r1
   rw [hK]
   generalize rdS ps false = X at *
   obtain ⟨lv,rest,bd⟩ := X
   simp only at r1 w1 hR
   have ho := zSa hws hR
   cases bd with
   | true =>
     rw [ho,if_neg (by simp)]
     try simp -dsimp (maxSteps := 1000000) only [go_sem,↓reduceIte,yab,Tryz.f8,c9,r1,zCv,zAx,List.take_nil,yan,Int.reduceLT,Int.reduceEq,yaH,yaI,yaJ,yaM,yaN,yaO,zAe]
     refine zAm [.nilT 0 0 4 1,.nilT 0 0 7 1,.nilT 0 0 8 1,.unf 0 0 4,.unf 0 0 7,.unf 0 0 8] ?_
     simp -dsimp (maxSteps := 1000000) only [go_sem,↓reduceIte,yab,yaK,rModB,mod0]
     refine ⟨[7,8,9],?_,?_,?_,rfl,rfl,rfl⟩ <;> simp [rtOk,tI,rowsZ,rowsN]
   | false =>
   cases rest with
   | cons p0 t0 =>
     have hg : ((0 : Int) < ((t0.length + 1 : Nat) : Int)) = True := eq_true (by omega)
     rw [ho,if_neg (by simp)]
     try simp -dsimp (maxSteps := 1000000) only [go_sem,↓reduceIte,yab,Tryz.f8,c9,r1,zCv,zAx,List.take_nil,yan,Int.reduceLT,Int.reduceEq,yaH,yaI,yaJ,yaM,yaN,yaO,zAe,hg]
     refine zAm [.nilT 0 0 4 1,.nilT 0 0 7 1,.nilT 0 0 8 1,.unf 0 0 4,.unf 0 0 7,.unf 0 0 8] ?_
     simp -dsimp (maxSteps := 1000000) only [go_sem,↓reduceIte,yab,yaK,rModB,mod0]
     refine ⟨[7,8,9],?_,?_,?_,rfl,rfl,rfl⟩ <;> simp [rtOk,tI,rowsZ,rowsN]
   | nil =>
   have ri := zBh (k := 7) (t1 := 0) (t2 := 0) (s1 := 0) (s2 := 0) (lv := lv) (st := []) (ra := 0) (rc := 0) (pts := []) (lab := []) (c := 0) (l := 0) (by simp) (by simp) (by simp)
   have rf := zBb ⟨⟨7,(0,0),(0,0),lv,[],0,0,[],[],0,0⟩,⟨by simp,by simp,by simp⟩,⟨⟨by simp,by simp⟩,⟨by simp,by simp⟩,w1,by simp,by simp⟩,by simp [i64B],by simp [i64B],by simp [i64B],by simp⟩
   simp only [modC,zAj,zAl] at ri rf
   cases hv : isModuleF ⟨7,(0,0),(0,0),lv,[],0,0,[],[],0,0⟩ with
   | false =>
     rw [hv] at ri
     rw [ho,if_neg (by simp [hv])]
     try simp -dsimp (maxSteps := 1000000) only [go_sem,↓reduceIte,yab,Tryz.f8,c9,r1,zCv,zAx,List.take_nil,yan,Int.reduceLT,Int.reduceEq,yaH,yaI,yaJ,yaM,yaN,yaO,zAn,c0,ri]
     refine zAm [.nilT 0 0 4 1,.nilT 0 0 7 1,.nilT 0 0 8 1,.unf 0 0 4,.unf 0 0 7,.unf 0 0 8] ?_
     simp -dsimp (maxSteps := 1000000) only [go_sem,↓reduceIte,yab,yaK,rModB,mod0]
     refine ⟨[7,8,9],?_,?_,?_,rfl,rfl,rfl⟩ <;> simp [rtOk,tI,rowsZ,rowsN]
   | true =>
   rw [hv] at ri
   by_cases hf : fmtM ⟨7,(0,0),(0,0),lv,[],0,0,[],[],0,0⟩ = s
   · have hf' := eq_true hf
     rw [ho,if_pos ⟨rfl,rfl,hv,hf⟩]
     try simp -dsimp (maxSteps := 1000000) only [go_sem,↓reduceIte,yab,Tryz.f8,c9,r1,zCv,zAx,List.take_nil,yan,Int.reduceLT,Int.reduceEq,yaH,yaI,yaJ,yaM,yaN,yaO,zAn,c0,ri,rf,zAq,zAh,hf']
     refine zAm [] ?_
     simp -dsimp (maxSteps := 1000000) only [go_sem,↓reduceIte,yab,rModB]
     refine ⟨[4,5,6],?_,?_,?_,rfl,rfl,rfl⟩ <;> simp [rtOk,tI,rowsZ,rowsN]
   · have hf' := eq_false hf
     rw [ho,if_neg (fun h => hf h.2.2.2)]
     try simp -dsimp (maxSteps := 1000000) only [go_sem,↓reduceIte,yab,Tryz.f8,c9,r1,zCv,zAx,List.take_nil,yan,Int.reduceLT,Int.reduceEq,yaH,yaI,yaJ,yaM,yaN,yaO,zAn,c0,ri,rf,zAq,zAh,hf']
     refine zAm [.nilT 0 0 4 1,.nilT 0 0 7 1,.nilT 0 0 8 1,.unf 0 0 4,.unf 0 0 7,.unf 0 0 8] ?_
     simp -dsimp (maxSteps := 1000000) only [go_sem,↓reduceIte,yab,yaK,rModB,mod0]
     refine ⟨[7,8,9],?_,?_,?_,rfl,rfl,rfl⟩ <;> simp [rtOk,tI,rowsZ,rowsN]
 · have hR : readM (kindT w) ps = (⟨8,(0,0),(rdP (rdI (rdI ps false).2.1 (rdI ps false).2.2).2.1 (rdI (rdI ps false).2.1 (rdI ps false).2.2).2.2).1,0,[],0,0,[],[],(rdI ps false).1,(rdI (rdI ps false).2.1 (rdI ps false).2.2).1⟩,(rdP (rdI (rdI ps false).2.1 (rdI ps false).2.2).2.1 (rdI (rdI ps false).2.1 (rdI ps false).2.2).2.2).2) := by rw [hK]; simp [readM,mod0]
   have r1 := zEw (bad := false) hlps hsps
   have r2 := zEw (ps := (rdI ps false).2.1) (bad := (rdI ps false).2.2) (by rw [zFz]; omega) (zKo hsps)
   have r3 := zEu (ps := (rdI (rdI ps false).2.1 (rdI ps false).2.2).2.1) (bad := (rdI (rdI ps false).2.1 (rdI ps false).2.2).2.2) (by rw [zFz,zFz]; omega) (zKo (zKo hsps))
   have w1 := zRx ps false
   have w2 := zRx (rdI ps false).2.1 (rdI ps false).2.2
   have w3 := zIf (rdI (rdI ps false).2.1 (rdI ps false).2.2).2.1 (rdI (rdI ps false).2.1 (rdI ps false).2.2).2.2
   simp only [hsRd] at r1 r2 r3
   rw [hK]
   generalize rdP (rdI (rdI ps false).2.1 (rdI ps false).2.2).2.1 (rdI (rdI ps false).2.1 (rdI ps false).2.2).2.2 = Z at *
   generalize rdI (rdI ps false).2.1 (rdI ps false).2.2 = Y at *
   generalize rdI ps false = X at *
   obtain ⟨c,ps1,b1⟩ := X
   obtain ⟨lf,ps2,b2⟩ := Y
   obtain ⟨⟨s1,s2⟩,rest,bd⟩ := Z
   simp only at r1 r2 r3 w1 w2 w3 hR
   have ho := zSa hws hR
   cases bd with
   | true =>
     rw [ho,if_neg (by simp)]
     try simp -dsimp (maxSteps := 1000000) only [go_sem,↓reduceIte,yab,Tryz.f8,c9,r1,r2,r3,zDd,zCa,zAx,List.take_nil,yan,Int.reduceLT,Int.reduceEq,yaH,yaI,yaJ,yaM,yaN,yaO,zAe]
     refine zAm [.nilT 0 0 4 1,.nilT 0 0 7 1,.nilT 0 0 8 1,.unf 0 0 4,.unf 0 0 7,.unf 0 0 8] ?_
     simp -dsimp (maxSteps := 1000000) only [go_sem,↓reduceIte,yab,yaK,rModB,mod0]
     refine ⟨[7,8,9],?_,?_,?_,rfl,rfl,rfl⟩ <;> simp [rtOk,tI,rowsZ,rowsN]
   | false =>
   cases rest with
   | cons p0 t0 =>
     have hg : ((0 : Int) < ((t0.length + 1 : Nat) : Int)) = True := eq_true (by omega)
     rw [ho,if_neg (by simp)]
     try simp -dsimp (maxSteps := 1000000) only [go_sem,↓reduceIte,yab,Tryz.f8,c9,r1,r2,r3,zDd,zCa,zAx,List.take_nil,yan,Int.reduceLT,Int.reduceEq,yaH,yaI,yaJ,yaM,yaN,yaO,zAe,hg]
     refine zAm [.nilT 0 0 4 1,.nilT 0 0 7 1,.nilT 0 0 8 1,.unf 0 0 4,.unf 0 0 7,.unf 0 0 8] ?_
     simp -dsimp (maxSteps := 1000000) only [go_sem,↓reduceIte,yab,yaK,rModB,mod0]
     refine ⟨[7,8,9],?_,?_,?_,rfl,rfl,rfl⟩ <;> simp [rtOk,tI,rowsZ,rowsN]
   | nil =>
   have ri := zBh (k := 8) (t1 := 0) (t2 := 0) (s1 := s1) (s2 := s2) (lv := 0) (st := []) (ra := 0) (rc := 0) (pts := []) (lab := []) (c := c) (l := lf) (by simp) (by simp) (by simp)
   have rf := zBb ⟨⟨8,(0,0),(s1,s2),0,[],0,0,[],[],c,lf⟩,⟨by simp,by simp,by simp⟩,⟨⟨by simp,by simp⟩,w3,by simp,by simp,by simp⟩,by simp [i64B],w1,w2,by simp⟩
   simp only [modC,zAj,zAl] at ri rf
   cases hv : isModuleF ⟨8,(0,0),(s1,s2),0,[],0,0,[],[],c,lf⟩ with
   | false =>
     rw [hv] at ri
     rw [ho,if_neg (by simp [hv])]
     try simp -dsimp (maxSteps := 1000000) only [go_sem,↓reduceIte,yab,Tryz.f8,c9,r1,r2,r3,zDd,zCa,zAx,List.take_nil,yan,Int.reduceLT,Int.reduceEq,yaH,yaI,yaJ,yaM,yaN,yaO,zAn,c0,ri]
     refine zAm [.nilT 0 0 4 1,.nilT 0 0 7 1,.nilT 0 0 8 1,.unf 0 0 4,.unf 0 0 7,.unf 0 0 8] ?_
     simp -dsimp (maxSteps := 1000000) only [go_sem,↓reduceIte,yab,yaK,rModB,mod0]
     refine ⟨[7,8,9],?_,?_,?_,rfl,rfl,rfl⟩ <;> simp [rtOk,tI,rowsZ,rowsN]
   | true =>
   rw [hv] at ri
   by_cases hf : fmtM ⟨8,(0,0),(s1,s2),0,[],0,0,[],[],c,lf⟩ = s
   · have hf' := eq_true hf
     rw [ho,if_pos ⟨rfl,rfl,hv,hf⟩]
     try simp -dsimp (maxSteps := 1000000) only [go_sem,↓reduceIte,yab,Tryz.f8,c9,r1,r2,r3,zDd,zCa,zAx,List.take_nil,yan,Int.reduceLT,Int.reduceEq,yaH,yaI,yaJ,yaM,yaN,yaO,zAn,c0,ri,rf,zAq,zAh,hf']
     refine zAm [] ?_
     simp -dsimp (maxSteps := 1000000) only [go_sem,↓reduceIte,yab,rModB]
     refine ⟨[4,5,6],?_,?_,?_,rfl,rfl,rfl⟩ <;> simp [rtOk,tI,rowsZ,rowsN]
   · have hf' := eq_false hf
     rw [ho,if_neg (fun h => hf h.2.2.2)]
     try simp -dsimp (maxSteps := 1000000) only [go_sem,↓reduceIte,yab,Tryz.f8,c9,r1,r2,r3,zDd,zCa,zAx,List.take_nil,yan,Int.reduceLT,Int.reduceEq,yaH,yaI,yaJ,yaM,yaN,yaO,zAn,c0,ri,rf,zAq,zAh,hf']
     refine zAm [.nilT 0 0 4 1,.nilT 0 0 7 1,.nilT 0 0 8 1,.unf 0 0 4,.unf 0 0 7,.unf 0 0 8] ?_
     simp -dsimp (maxSteps := 1000000) only [go_sem,↓reduceIte,yab,yaK,rModB,mod0]
     refine ⟨[7,8,9],?_,?_,?_,rfl,rfl,rfl⟩ <;> simp [rtOk,tI,rowsZ,rowsN]
 · have hR : readM (kindT w) ps = (⟨0,(0,0),(0,0),0,[],0,0,[],[],0,0⟩,ps,false) := by rw [hK]; simp [readM,mod0]
   rw [hK]
   generalize ps = rest at *
   have ho := zSa hws hR
   cases rest with
   | cons p0 t0 =>
     have hg : ((0 : Int) < ((t0.length + 1 : Nat) : Int)) = True := eq_true (by omega)
     rw [ho,if_neg (by simp)]
     try simp -dsimp (maxSteps := 1000000) only [go_sem,↓reduceIte,yab,Tryz.f8,c9,c9,zAx,List.take_nil,yan,Int.reduceLT,Int.reduceEq,yaH,yaI,yaJ,yaM,yaN,yaO,zAe,hg]
     refine zAm [.nilT 0 0 4 1,.nilT 0 0 7 1,.nilT 0 0 8 1,.unf 0 0 4,.unf 0 0 7,.unf 0 0 8] ?_
     simp -dsimp (maxSteps := 1000000) only [go_sem,↓reduceIte,yab,yaK,rModB,mod0]
     refine ⟨[7,8,9],?_,?_,?_,rfl,rfl,rfl⟩ <;> simp [rtOk,tI,rowsZ,rowsN]
   | nil =>
   have ri := zBh (k := 0) (t1 := 0) (t2 := 0) (s1 := 0) (s2 := 0) (lv := 0) (st := []) (ra := 0) (rc := 0) (pts := []) (lab := []) (c := 0) (l := 0) (by simp) (by simp) (by simp)
   have rf := zBb ⟨⟨0,(0,0),(0,0),0,[],0,0,[],[],0,0⟩,⟨by simp,by simp,by simp⟩,⟨⟨by simp,by simp⟩,⟨by simp,by simp⟩,by simp,by simp,by simp⟩,by simp [i64B],by simp [i64B],by simp [i64B],by simp⟩
   simp only [modC,zAj,zAl] at ri rf
   cases hv : isModuleF ⟨0,(0,0),(0,0),0,[],0,0,[],[],0,0⟩ with
   | false =>
     rw [hv] at ri
     rw [ho,if_neg (by simp [hv])]
     try simp -dsimp (maxSteps := 1000000) only [go_sem,↓reduceIte,yab,Tryz.f8,c9,c9,zAx,List.take_nil,yan,Int.reduceLT,Int.reduceEq,yaH,yaI,yaJ,yaM,yaN,yaO,zAn,c0,ri]
     refine zAm [.nilT 0 0 4 1,.nilT 0 0 7 1,.nilT 0 0 8 1,.unf 0 0 4,.unf 0 0 7,.unf 0 0 8] ?_
     simp -dsimp (maxSteps := 1000000) only [go_sem,↓reduceIte,yab,yaK,rModB,mod0]
     refine ⟨[7,8,9],?_,?_,?_,rfl,rfl,rfl⟩ <;> simp [rtOk,tI,rowsZ,rowsN]
   | true =>
   rw [hv] at ri
   by_cases hf : fmtM ⟨0,(0,0),(0,0),0,[],0,0,[],[],0,0⟩ = s
   · have hf' := eq_true hf
     rw [ho,if_pos ⟨rfl,rfl,hv,hf⟩]
     try simp -dsimp (maxSteps := 1000000) only [go_sem,↓reduceIte,yab,Tryz.f8,c9,c9,zAx,List.take_nil,yan,Int.reduceLT,Int.reduceEq,yaH,yaI,yaJ,yaM,yaN,yaO,zAn,c0,ri,rf,zAq,zAh,hf']
     refine zAm [] ?_
     simp -dsimp (maxSteps := 1000000) only [go_sem,↓reduceIte,yab,rModB]
     refine ⟨[4,5,6],?_,?_,?_,rfl,rfl,rfl⟩ <;> simp [rtOk,tI,rowsZ,rowsN]
   · have hf' := eq_false hf
     rw [ho,if_neg (fun h => hf h.2.2.2)]
     try simp -dsimp (maxSteps := 1000000) only [go_sem,↓reduceIte,yab,Tryz.f8,c9,c9,zAx,List.take_nil,yan,Int.reduceLT,Int.reduceEq,yaH,yaI,yaJ,yaM,yaN,yaO,zAn,c0,ri,rf,zAq,zAh,hf']
     refine zAm [.nilT 0 0 4 1,.nilT 0 0 7 1,.nilT 0 0 8 1,.unf 0 0 4,.unf 0 0 7,.unf 0 0 8] ?_
     simp -dsimp (maxSteps := 1000000) only [go_sem,↓reduceIte,yab,yaK,rModB,mod0]
     refine ⟨[7,8,9],?_,?_,?_,rfl,rfl,rfl⟩ <;> simp [rtOk,tI,rowsZ,rowsN]
end Go.SX
namespace Go.SX
open Go Go.Proofs Ieee
noncomputable def ptsG (k : Nat) : Nat → List Txt → Option (List Pt)
 | 0,_ => some []
 | f + 1,ws => if k ≤ ws.length then
     (if (sglP (ws.getD 0 [])).2 = true ∧ (sglP (ws.getD 1 [])).2 = true then (ptsG k f (ws.drop k)).map (((sglP (ws.getD 0 [])).1,(sglP (ws.getD 1 [])).1) :: ·) else none)
   else some []
noncomputable def ptsO (k : Nat) (ws : List Txt) : Option (List Pt) := ptsG k (ws.length + 1) ws
noncomputable def pPts (k : Nat) (ws : List Txt) : List Pt × Bool := match ptsO k ws with
 | some l => (l,decide (ws.length % k = 0))
 | none => ([],false)
structure AWs where
 ws : List Txt
 k : Nat
 len : ws.length ≤ 1024
 sub : ∀ p ∈ ws,p.length ≤ 2097152
 hk : k = 2 ∨ k = 3
def rPB (x : List Pt × Bool) : Res := { val := .tup [.c (.im (.sl 1 (rowsZ x.1))),.c (.im (.bool x.2))] }
theorem zRa1 {x : List Pt × Bool} : OkR false (rPB x) := by
 refine ⟨.tup _ (fun d hd => ?_),by simp [rPB],by simp [rPB]⟩
 simp only [yae,yaf,or_false] at hd
 rcases hd with rfl | rfl <;> exact .inl ⟨_,rfl,.im _ (.inl rfl)⟩
noncomputable def zPa : Ct := fam false (fun x : AWs => ([.c (.im (.sl 1 (rowsS x.ws))),.c (.im (.int .i64 (x.k : Int)))],[])) (fun x => .one (rPB (pPts x.k x.ws)))
theorem zFa {ws : List Txt} {k : Nat} (h1 : ws.length ≤ 1024) (h2 : ∀ p ∈ ws,p.length ≤ 2097152) (h3 : k = 2 ∨ k = 3) : zPa.run [.c (.im (.sl 1 (rowsS ws))),.c (.im (.int .i64 (k : Int)))] [] = some (.one (rPB (pPts k ws))) := by
 refine zAd (args := fun x : AWs => ([D.c (.im (.sl 1 (rowsS x.ws))),.c (.im (.int .i64 (x.k : Int)))],[])) ?_ ⟨ws,k,h1,h2,h3⟩
 rintro ⟨a,k,_,_,_⟩ ⟨b,k',_,_,_⟩ h
 simp only [Prod.mk.injEq,List.cons.injEq,D.c.injEq,C.im.injEq,I.sl.injEq,I.int.injEq,zMp,true_and,and_true] at h
 obtain ⟨rfl,h⟩ := h
 have := Int.ofNat_inj.1 h
 subst this; rfl
structure Pts (k : Nat) (ws : List Txt) (f i : Nat) (out : List Pt) : Prop where
 le : i ≤ ws.length
 fu : ws.length < f + i
 ln : out.length ≤ i
 eq : ptsO k ws = (ptsG k f (ws.drop i)).map (out ++ ·)
theorem zFp {ws : List Txt} {i j : Nat} {a : Txt} (h : ws[i + j]? = some a) : (ws.drop i).getD j [] = a := by
 rw [List.getD_eq_getElem?_getD,List.getElem?_drop,h]; rfl
theorem zOk1 {k : Nat} {ws : List Txt} {f i : Nat} {out : List Pt} (h : Pts k ws f i out) (hk : 0 < k) (hi : i + k ≤ ws.length) {a b : Txt} (ha : ws[i]? = some a) (hb : ws[i + 1]? = some b) (h1 : (sglP a).2 = true) (h2 : (sglP b).2 = true) :
   ∃ f',f = f' + 1 ∧ Pts k ws f' (i + k) (out ++ [((sglP a).1,(sglP b).1)]) := by
 obtain ⟨q1,q2,q3,q4⟩ := h
 match f,q2,q4 with
 | 0,q2,q4 => exfalso; omega
 | f' + 1,q2,q4 =>
   refine ⟨f',rfl,hi,by omega,by simp; omega,?_⟩
   rw [q4,ptsG,if_pos (by rw [List.length_drop]; omega),zFp (j := 0) ha,zFp (j := 1) hb,if_pos ⟨h1,h2⟩,List.drop_drop,Option.map_map]
   congr 1
   funext l
   simp
theorem zEs1 {k : Nat} {ws : List Txt} {f i : Nat} {out : List Pt} (h : Pts k ws f i out) (hi : i + k ≤ ws.length) (hk : 0 < k) {a b : Txt} (ha : ws[i]? = some a) (hb : ws[i + 1]? = some b) (h1 : ¬ ((sglP a).2 = true ∧ (sglP b).2 = true)) : pPts k ws = ([],false) := by
 obtain ⟨q1,q2,q3,q4⟩ := h
 match f,q2,q4 with
 | 0,q2,q4 => exfalso; omega
 | f' + 1,q2,q4 =>
   unfold pPts
   rw [q4,ptsG,if_pos (by rw [List.length_drop]; omega),zFp (j := 0) ha,zFp (j := 1) hb,if_neg h1]
   rfl
theorem zOl1 {k : Nat} {ws : List Txt} {f i : Nat} {out : List Pt} (h : Pts k ws f i out) (hi : ¬ i + k ≤ ws.length) : pPts k ws = (out,decide (ws.length % k = 0)) := by
 obtain ⟨q1,q2,q3,q4⟩ := h
 have e : ptsG k f (ws.drop i) = some [] := by
   match f with
   | 0 => rfl
   | f' + 1 => rw [ptsG,if_neg (by rw [List.length_drop]; omega)]
 unfold pPts
 rw [q4,e]
 simp
theorem zLq : Law Tryz.prog 97 zPa := by
 refine zCo (zAc zGm zAf) hmixA Tryz.func97 rfl rfl (fun ⟨ws,k,hl,hsub,hk⟩ => ⟨okO zRa1,by simp [Tryz.f97],?_⟩)
 simp only at hl hsub hk ⊢
 try simp -dsimp (maxSteps := 1000000) only [go_sem,↓reduceIte,yab,Tryz.f97]
 refine zBa (ι := { x : Nat × Nat × List Pt // Pts k ws x.1 x.2.1 x.2.2 }) (fun x => ⟨[(0,some (.c (.im (.sl 1 (rowsS ws))))),(1,some (.c (.im (.int .i64 (k : Int))))),(6,some (.c (.view 0 1 0 x.1.2.2.length))),(7,some (.c (.im (.int .i64 (x.1.2.1 : Int)))))],
   [(0,some (.arr 1 (tI (rowsZ x.1.2.2))))],1⟩) (fun x => x.1.1) ⟨(ws.length + 1,0,[]),⟨by simp,by simp,by simp,by simp [ptsO]⟩⟩ ⟨[],[0],by ((simp only [go_sem,↓reduceIte,yab,yai,zPz,zAj]) <;> (try (simp -dsimp only [go_sem,↓reduceIte,yab,yai,zPz,zAj]))) <;> simp [lk,tI,zAj]⟩ (fun ⟨⟨f,i,out⟩,hP⟩ => ?_)
 simp only at hP ⊢
 have q1 := hP.le
 have q3 := hP.ln
 have w1 : IntKind.i64.wrap ((i : Int) + (k : Int)) = ((i + k : Nat) : Int) := by rw [zAg (by omega) (by omega)]; omega
 have w2 : IntKind.i64.wrap ((i : Int) + 1) = ((i + 1 : Nat) : Int) := by rw [zAg (by omega) (by omega)]; omega
 by_cases hi : i + k ≤ ws.length
 · have hI : (((i + k : Nat) : Int) ≤ (ws.length : Int)) = True := eq_true (by omega)
   obtain ⟨a,ha⟩ : ∃ a,ws[i]? = some a := ⟨_,List.getElem?_eq_getElem (by omega)⟩
   obtain ⟨b,hb⟩ : ∃ b,ws[i + 1]? = some b := ⟨_,List.getElem?_eq_getElem (by omega)⟩
   have ra := zMq ha
   have rb := zMq hb
   have r1 := zEi (hsub a (List.mem_of_getElem? ha))
   have r2 := zEi (hsub b (List.mem_of_getElem? hb))
   simp only [oSg] at r1 r2
   have h0 : (0 ≤ (i : Int)) = True := eq_true (by omega)
   have h0' : (0 ≤ ((i + 1 : Nat) : Int)) = True := eq_true (by omega)
   have hI1 : ((i : Int) < (ws.length : Int)) = True := eq_true (by omega)
   have hI2 : (((i + 1 : Nat) : Int) < (ws.length : Int)) = True := eq_true (by omega)
   cases e1 : (sglP a).2 with
   | false =>
     rw [zEs1 hP hi (by omega) ha hb (by simp [e1])]
     simp only [e1] at r1
     simp only [rPB]
     try simp -dsimp (maxSteps := 1000000) only [go_sem,↓reduceIte,yab,Tryz.f97,w1,w2,hI,hI1,hI2,h0,h0',ra,rb,r1,r2,zAe,Int.toNat_natCast,yaI,yaH]
     refine zAm [.nilI 1 [.s 4]] ?_
     simp -dsimp (maxSteps := 1000000) only [go_sem,↓reduceIte,yab,zAj]
   | true =>
     simp only [e1] at r1
     cases e2 : (sglP b).2 with
     | false =>
       rw [zEs1 hP hi (by omega) ha hb (by simp [e2])]
       simp only [e2] at r2
       simp only [rPB]
       try simp -dsimp (maxSteps := 1000000) only [go_sem,↓reduceIte,yab,Tryz.f97,w1,w2,hI,hI1,hI2,h0,h0',ra,rb,r1,r2,zAe,Int.toNat_natCast,yaI,yaH]
       refine zAm [.nilI 1 [.s 4]] ?_
       simp -dsimp (maxSteps := 1000000) only [go_sem,↓reduceIte,yab,zAj]
     | true =>
       simp only [e2] at r2
       obtain ⟨f',rfl,hn⟩ := zOk1 hP (by omega) hi ha hb e1 e2
       generalize (sglP a).1 = X at *
       generalize (sglP b).1 = Y at *
       have hby : ((out.length + 1) * 8 ≤ 140737488355328) = True := eq_true (by omega)
       have hap := zRh out X Y
       try simp -dsimp (maxSteps := 1000000) only [go_sem,↓reduceIte,yab,Tryz.f97,w1,w2,hI,hI1,hI2,h0,h0',ra,rb,r1,r2,zAe,Int.toNat_natCast,yaI,yaH,hby,hap,zAt,zAa,appendH,srcRows,List.take_succ_cons,yan,yao,yap,okT,yaq,yar]
       exact ⟨⟨(f',i + k,out ++ [(X,Y)]),hn⟩,by simp only []; omega,[],[2],by ((simp only [go_sem,↓reduceIte,yab,yai,zPz]) <;> (try (simp -dsimp only [go_sem,↓reduceIte,yab,yai,zPz]))) <;> simp [lk]⟩
 · have hI : (((i + k : Nat) : Int) ≤ (ws.length : Int)) = False := eq_false (by omega)
   rw [zOl1 hP hi]
   have hk0 : ((k : Int) = 0) = False := eq_false (by omega)
   have hm : (ws.length : Int).tmod (k : Int) = ((ws.length % k : Nat) : Int) := by rw [Int.tmod_eq_emod_of_nonneg (by omega)]; exact (Int.natCast_emod _ _).symm
   have hd : decide (((ws.length % k : Nat) : Int) = 0) = decide (ws.length % k = 0) := by
     by_cases h : ws.length % k = 0
     · rw [decide_eq_true h,decide_eq_true (by omega)]
     · rw [decide_eq_false h,decide_eq_false (by omega)]
   have hmp : mapO (mapO imT) (tI (rowsZ out)) = some (rowsZ out) := zQc _
   simp only [rPB]
   try simp -dsimp (maxSteps := 1000000) only [go_sem,↓reduceIte,yab,Tryz.f97,w1,hI,hk0,hm,zAe,zAt,zAa]
   repeat' (first
     | ((with_reducible refine sl_i ?_ ?_); focus kernel_rfl)
     | ((with_reducible refine ro_i ?_ ?_); focus kernel_rfl))
   refine zAm [.frz 0 [.s 4]] ?_
   simp -dsimp (maxSteps := 1000000) only [go_sem,↓reduceIte,yab,hmp,hd,zAt,zAa]
end Go.SX
namespace Go.SX
open Go Go.Proofs Ieee
def labG : Nat → List Txt → List Int × Bool
 | 0,_ => ([],true)
 | f + 1,ws => if 0 < ws.length then
     (if (riF (ws.getD 0 [])).2 = true then ((riF (ws.getD 0 [])).1 :: (labG f (ws.drop 3)).1,(labG f (ws.drop 3)).2) else ([],false))
   else ([],true)
noncomputable def pSlc (ws : List Txt) : Mod × Bool :=
 (⟨6,(0,0),(0,0),0,[],0,0,(pPts 3 ws.tail).1,(labG (ws.length + 1) (ws.drop 3)).1,(riF (ws.getD 0 [])).1,0⟩,
   (labG (ws.length + 1) (ws.drop 3)).2 && ((riF (ws.getD 0 [])).2 && (pPts 3 ws.tail).2))
structure ALb where
 ws : List Txt
 ne : 0 < ws.length
 len : ws.length ≤ 1024
 sub : ∀ p ∈ ws,p.length ≤ 2097152
theorem zFd1 {m : Mod} {b : Bool} : OkR false (rMB m b) := zFe1
noncomputable def zOz : Ct := fam false (fun x : ALb => ([.c (.im (.sl 1 (rowsS x.ws)))],[])) (fun x => .one (rMB (pSlc x.ws).1 (pSlc x.ws).2))
theorem zUs {ws : List Txt} (h0 : 0 < ws.length) (h1 : ws.length ≤ 1024) (h2 : ∀ p ∈ ws,p.length ≤ 2097152) : zOz.run [.c (.im (.sl 1 (rowsS ws)))] [] = some (.one (rMB (pSlc ws).1 (pSlc ws).2)) := by
 refine zAd (args := fun x : ALb => ([D.c (.im (.sl 1 (rowsS x.ws)))],[])) ?_ ⟨ws,h0,h1,h2⟩
 rintro ⟨a,_,_,_⟩ ⟨b,_,_,_⟩ h
 simp only [Prod.mk.injEq,List.cons.injEq,D.c.injEq,C.im.injEq,I.sl.injEq,zMp,true_and,and_true] at h
 subst h; rfl
structure Lbs (ws : List Txt) (f i : Nat) (out : List Int) : Prop where
 ge : 3 ≤ i
 fu : ws.length < f + i
 ln : out.length ≤ i
 eq : labG (ws.length + 1) (ws.drop 3) = (out ++ (labG f (ws.drop i)).1,(labG f (ws.drop i)).2)
theorem zPd1 {ws : List Txt} {f i : Nat} {out : List Int} (h : Lbs ws f i out) {a : Txt} (ha : ws[i]? = some a) (h1 : (riF a).2 = true) : ∃ f',f = f' + 1 ∧ Lbs ws f' (i + 3) (out ++ [(riF a).1]) := by
 obtain ⟨q1,q2,q3,q4⟩ := h
 have hlt := (List.getElem?_eq_some_iff.1 ha).1
 match f,q2,q4 with
 | 0,q2,q4 => exfalso; omega
 | f' + 1,q2,q4 =>
   refine ⟨f',rfl,by omega,by omega,by simp; omega,?_⟩
   rw [q4,labG,if_pos (by rw [List.length_drop]; omega),zFp (j := 0) ha,if_pos h1,List.drop_drop]
   simp
theorem zPf1 {ws : List Txt} {f i : Nat} {out : List Int} (h : Lbs ws f i out) {a : Txt} (ha : ws[i]? = some a) (h1 : (riF a).2 = false) : labG (ws.length + 1) (ws.drop 3) = (out,false) := by
 obtain ⟨q1,q2,q3,q4⟩ := h
 have hlt := (List.getElem?_eq_some_iff.1 ha).1
 match f,q2,q4 with
 | 0,q2,q4 => exfalso; omega
 | f' + 1,q2,q4 =>
   rw [q4,labG,if_pos (by rw [List.length_drop]; omega),zFp (j := 0) ha,if_neg (by rw [h1]; simp)]
   simp
theorem zPe1 {ws : List Txt} {f i : Nat} {out : List Int} (h : Lbs ws f i out) (hi : ws.length ≤ i) : labG (ws.length + 1) (ws.drop 3) = (out,true) := by
 obtain ⟨q1,q2,q3,q4⟩ := h
 have e : labG f (ws.drop i) = ([],true) := by
   match f with
   | 0 => rfl
   | f' + 1 => rw [labG,if_neg (by rw [List.length_drop]; omega)]
 rw [q4,e]
 simp
theorem zVw : Law Tryz.prog 98 zOz := by
 refine zCo (zAc zGe (zAc zLq zAf)) hmixA Tryz.func98 rfl rfl (fun ⟨ws,hne,hl,hsub⟩ => ⟨okO zFd1,by simp [Tryz.f98],?_⟩)
 simp only at hne hl hsub ⊢
 obtain ⟨w0,t,rfl⟩ : ∃ w0 t,ws = w0 :: t := by
   cases ws with
   | nil => simp at hne
   | cons a t => exact ⟨a,t,rfl⟩
 have rn := zCs (hsub w0 (by simp))
 have rp := zFa (ws := t) (k := 3) (by simp at hl; omega) (fun p hp => hsub p (by simp [hp])) (.inr rfl)
 have c3 : ((3 : Nat) : Int) = 3 := rfl
 rw [c3] at rp
 obtain ⟨n,hn⟩ : ∃ n,(riF w0).1 = n := ⟨_,rfl⟩
 obtain ⟨one,h1⟩ : ∃ n,(riF w0).2 = n := ⟨_,rfl⟩
 obtain ⟨P,hP⟩ : ∃ P,(pPts 3 t).1 = P := ⟨_,rfl⟩
 obtain ⟨two,h2⟩ : ∃ P,(pPts 3 t).2 = P := ⟨_,rfl⟩
 simp only [rIB,hn,h1] at rn
 simp only [rPB,hP,h2] at rp
 have g0 : (w0 :: t).getD 0 [] = w0 := rfl
 have L0 : ((0 : Int) < ((t.length + 1 : Nat) : Int)) = True := eq_true (by omega)
 have L1 : ((1 : Int) ≤ ((t.length + 1 : Nat) : Int)) = True := eq_true (by omega)
 have h4 : List.drop 1 (List.take (t.length + 1) ([I.str ⟨w0.toArray⟩] :: rowsS t)) = rowsS t := by rw [List.take_of_length_le (by simp [zAe])]; rfl
 have hS : ∀ L,labG ((w0 :: t).length + 1) ((w0 :: t).drop 3) = L → pSlc (w0 :: t) = (⟨6,(0,0),(0,0),0,[],0,0,P,L.1,n,0⟩,L.2 && (one && two)) := fun L hL => by
   unfold pSlc
   rw [hL,g0,List.tail_cons,hn,h1,hP,h2]
 try simp -dsimp (maxSteps := 1000000) only [go_sem,↓reduceIte,yab,Tryz.f98,zAe,zAw,L0,L1,h4,rn,rp,yaY,ybb,yaR,yaQ,Int.toNat_natCast,Int.reduceLE]
 refine zBa (ι := { x : Nat × Nat × List Int // Lbs (w0 :: t) x.1 x.2.1 x.2.2 }) (fun x => ⟨[(0,some (.c (.im (.sl 1 (rowsS (w0 :: t)))))),(2,some (.c (.ptr 0 0 0 0))),(4,some (.c (.ptr 1 0 0 0))),(6,some (.c (.im (.bool one)))),(8,some (.c (.im (.bool two)))),(9,some (.c (.im (.int .i64 (x.1.2.1 : Int)))))],
   [(0,some (.box mz11)),(1,some (.box [.t (.im (.int .i64 6)),.t (.im (.cpx .f32 0 0)),.t (.im (.cpx .f32 0 0)),.t (.im (.flt .f32 0)),.t .nil,.t (.im (.int .i64 0)),.t (.im (.int .i64 0)),.t (.im (.sl 1 (rowsZ P))),.t (.own 1 (tI (rowsN x.1.2.2))),.t (.im (.int .i64 n)),.t (.im (.int .i64 0))]))],2⟩) (fun x => x.1.1) ⟨((w0 :: t).length + 1,3,[]),⟨Nat.le_refl _,by simp only []; omega,by simp,by simp⟩⟩ ⟨[.nilT 1 0 8 1],[0,1],by ((simp only [go_sem,↓reduceIte,yab,yai,yaK,zUa,mz11,zAw]) <;> (try (simp -dsimp only [go_sem,↓reduceIte,yab,yai,yaK,zUa,mz11,zAw]))) <;> simp [lk,zAy,zUa,tI,zAl,zAw]⟩ (fun ⟨⟨f,i,out⟩,hQ⟩ => ?_)
 simp only [mz11] at hQ ⊢
 have q1 := hQ.ge
 have q3 := hQ.ln
 have hll : (w0 :: t).length = t.length + 1 := rfl
 by_cases hi : i < (w0 :: t).length
 · have hI : ((i : Int) < ((t.length + 1 : Nat) : Int)) = True := eq_true (by omega)
   have h0 : (0 ≤ (i : Int)) = True := eq_true (by omega)
   obtain ⟨a,ha⟩ : ∃ a,(w0 :: t)[i]? = some a := ⟨_,List.getElem?_eq_getElem hi⟩
   have ra := zMq ha
   rw [zAw] at ra
   have r1 := zCs (hsub a (List.mem_of_getElem? ha))
   simp only [rIB] at r1
   have hw : IntKind.i64.wrap ((i : Int) + 3) = ((i + 3 : Nat) : Int) := by rw [zAg (by omega) (by omega)]; omega
   cases e1 : (riF a).2 with
   | false =>
     rw [hS _ (zPf1 hQ ha e1)]
     simp only [e1] at r1
     simp only [rMB,modC,zAj,yag]
     have hmp : mapO (mapO imT) (tI (rowsN out)) = some (rowsN out) := zQc _
     try simp -dsimp (maxSteps := 1000000) only [go_sem,↓reduceIte,yab,Tryz.f98,hI,h0,ra,r1,zAe,zAw,zUa,zAt,zAb,Int.toNat_natCast,yaI,yaH]
     refine zAm [.frz 2 [.b 0 0 8],.nilI 1 [.b 0 0 4]] ?_
     simp -dsimp (maxSteps := 1000000) only [go_sem,↓reduceIte,yab,hmp,zAt,zAb,yag,yah,yaT,yaq]
   | true =>
     simp only [e1] at r1
     obtain ⟨f',rfl,hn'⟩ := zPd1 hQ ha e1
     generalize (riF a).1 = X at *
     have hby : ((out.length + 1) * 8 ≤ 140737488355328) = True := eq_true (by omega)
     have hap := zZr out X
     try simp -dsimp (maxSteps := 1000000) only [go_sem,↓reduceIte,yab,Tryz.f98,hI,h0,ra,r1,hw,zAe,zAw,zUa,Int.toNat_natCast,yaI,yaH,hby,hap,zAt,zAb,appendH,srcRows,List.take_succ_cons,yan,yao,yap,okT,yaq,yar]
     exact ⟨⟨(f',i + 3,out ++ [X]),hn'⟩,by simp only []; omega,[.fold 1 0 8],[0,1],by (simp only [go_sem,↓reduceIte,yab,yai,yaK,zUa,mz11,zAt,zAb,yar]) <;> simp [lk,zAy,zUa,zAt,zAb]⟩
 · have hI : ((i : Int) < ((t.length + 1 : Nat) : Int)) = False := eq_false (by omega)
   rw [hS _ (zPe1 hQ (by omega))]
   have hmp : mapO (mapO imT) (tI (rowsN out)) = some (rowsN out) := zQc _
   simp only [rMB,modC,zAj,yah]
   cases one with
   | false =>
     try simp -dsimp (maxSteps := 1000000) only [go_sem,↓reduceIte,yab,Tryz.f98,hI,zAe,zAw,zUa,zAt,zAb,yag]
     refine zAm [.frz 2 [.b 0 0 8],.nilI 1 [.b 0 0 4]] ?_
     simp -dsimp (maxSteps := 1000000) only [go_sem,↓reduceIte,yab,hmp,zAt,zAb,yag,yah,yaT,yaq]
   | true =>
     try simp -dsimp (maxSteps := 1000000) only [go_sem,↓reduceIte,yab,Tryz.f98,hI,zAe,zAw,zUa,zAt,zAb,yah]
     refine zAm [.frz 2 [.b 0 0 8],.nilI 1 [.b 0 0 4]] ?_
     simp -dsimp (maxSteps := 1000000) only [go_sem,↓reduceIte,yab,hmp,zAt,zAb,yag,yah,yaT,yaq]
end Go.SX
