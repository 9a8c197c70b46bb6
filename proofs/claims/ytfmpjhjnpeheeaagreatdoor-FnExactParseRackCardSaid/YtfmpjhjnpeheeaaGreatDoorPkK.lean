/-
  spec.l8Words: the words of a module.
  Tables whose words are below 2^32: PutPoint, l2Table.
  Modules whose words are below 2^32: l5Slice, l5Step, l5Module, MakeModule.
  spec.l5Unused at any module of kind 1.
  spec.l5Unused at any module of kind 2.
  spec.l5Unused at any module of kind 3.
  spec.l5Unused at any module of kind 4.
  spec.l5Unused at any module of kind 5.
  spec.l5Unused at any module of kind 6.
  spec.l5Unused at any module of kind 7.
  spec.l5Unused at any module of kind 8.
  spec: l5Unused and IsModule at any module.
  spec.IsModule at any module.
  spec: l8Int.
  spec.FormatModule, at every valid module whose words are below 2^32.
  What spec.ParseModule gives is what impl's gives: plain words.
  No condition.
-/
import Derived.Test.YtfmpjhjnpeheeaaGreatDoorPkJ
set_option maxRecDepth 100000
set_option maxHeartbeats 16000000
set_option linter.unusedVariables false
set_option linter.unusedSimpArgs false
namespace Go.SX
open Go Go.Proofs Ieee
theorem zRy {k : Nat} (hk : 0 < k) : ∀ (f : Nat) (ws : List Txt) (l : List Pt),ws.length < f → ptsG k f ws = some l → l.length = ws.length / k
 | 0,ws,l,hf,h => by omega
 | f + 1,ws,l,hf,h => by
   rw [ptsG] at h
   split at h
   · rename_i hle
     split at h
     · cases hr : ptsG k f (ws.drop k) with
       | none => rw [hr] at h; cases h
       | some r =>
         rw [hr] at h
         simp only [yaK,yay] at h
         subst h
         have ih := zRy hk f (ws.drop k) r (by rw [List.length_drop]; omega) hr
         rw [List.length_cons,ih,List.length_drop]
         have := Nat.sub_add_cancel hle
         have e : ws.length / k = (ws.length - k) / k + 1 := by
           rw [← Nat.add_div_right _ hk,this]
         omega
     · cases h
   · rename_i hle
     injection h with h
     subst h
     rw [Nat.div_eq_of_lt (by omega)]; rfl
theorem zJt1 {k : Nat} (hk : 0 < k) {ws : List Txt} (h : (pPts k ws).2 = true) : (pPts k ws).1.length = ws.length / k := by
 unfold pPts at h ⊢
 cases hr : ptsO k ws with
 | none => rw [hr] at h; cases h
 | some l => exact zRy hk _ ws l (by omega) hr
noncomputable def wrdF (w : Txt) (ws : List Txt) : Mod × Bool :=
 if w = sourceT then (if (pPts 2 ws).2 = true ∧ (pPts 2 ws).1.length = 2 then (⟨1,(pPts 2 ws).1.getD 0 (0,0),(pPts 2 ws).1.getD 1 (0,0),0,[],0,0,[],[],0,0⟩,true) else (mod0 0,false))
 else if w = mixerT then (if (pPts 2 ws).2 = true ∧ (pPts 2 ws).1.length = 2 then (⟨2,(pPts 2 ws).1.getD 0 (0,0),(pPts 2 ws).1.getD 1 (0,0),0,[],0,0,[],[],0,0⟩,true) else (mod0 0,false))
 else if w = gainT then (⟨3,(0,0),(0,0),(sglP (ws.getD 0 [])).1,[],0,0,[],[],0,0⟩,(sglP (ws.getD 0 [])).2 && decide (ws.length = 1))
 else if w = meterT then (⟨7,(0,0),(0,0),(sglP (ws.getD 0 [])).1,[],0,0,[],[],0,0⟩,(sglP (ws.getD 0 [])).2 && decide (ws.length = 1))
 else if w = delayT then (⟨4,(0,0),(0,0),0,(pPts 2 ws.tail).1,(riF (ws.getD 0 [])).1,((pPts 2 ws.tail).1.length : Int),[],[],0,0⟩,(pPts 2 ws.tail).2 && (riF (ws.getD 0 [])).2)
 else if w = slicerT then pSlc ws
 else if w = holdT then (if ws.length = 4 ∧ (pPts 2 (ws.drop 2)).2 = true then (⟨8,(0,0),(pPts 2 (ws.drop 2)).1.getD 0 (0,0),0,[],0,0,[],[],(riF (ws.getD 0 [])).1,(riF (ws.getD 1 [])).1⟩,(riF (ws.getD 1 [])).2 && (riF (ws.getD 0 [])).2) else (mod0 0,false))
 else (mod0 0,false)
structure AWd where
 w : Txt
 ws : List Txt
 ne : 0 < ws.length
 len : ws.length ≤ 1024
 sub : ∀ p ∈ ws,p.length ≤ 2097152
noncomputable def zQx : Ct := fam false (fun x : AWd => ([.c (.im (.str ⟨x.w.toArray⟩)),.c (.im (.sl 1 (rowsS x.ws)))],[])) (fun x => .one (rMB (wrdF x.w x.ws).1 (wrdF x.w x.ws).2))
theorem zXx {w : Txt} {ws : List Txt} (h0 : 0 < ws.length) (h1 : ws.length ≤ 1024) (h2 : ∀ p ∈ ws,p.length ≤ 2097152) : zQx.run [.c (.im (.str ⟨w.toArray⟩)),.c (.im (.sl 1 (rowsS ws)))] [] = some (.one (rMB (wrdF w ws).1 (wrdF w ws).2)) := by
 refine zAd (args := fun x : AWd => ([D.c (.im (.str ⟨x.w.toArray⟩)),.c (.im (.sl 1 (rowsS x.ws)))],[])) ?_ ⟨w,ws,h0,h1,h2⟩
 rintro ⟨a,a',_,_,_⟩ ⟨b,b',_,_,_⟩ h
 simp only [Prod.mk.injEq,List.cons.injEq,D.c.injEq,C.im.injEq,I.sl.injEq,I.str.injEq,zHo,zMp,true_and,and_true] at h
 obtain ⟨rfl,rfl⟩ := h
 rfl
theorem zYp : Law Tryz.prog 37 zQx := by
 refine zCo (zAc zGm (zAc zGe (zAc zLq (zAc zVw zAf)))) hmixA Tryz.func37 rfl rfl (fun ⟨w,ws,hne,hl,hsub⟩ => ⟨okO zFd1,by simp [Tryz.f37],?_⟩)
 simp only at hne hl hsub ⊢
 have rsl := zUs hne hl hsub
 have rp2 := zFa (ws := ws) (k := 2) hl hsub (.inl rfl)
 obtain ⟨w0,t,rfl⟩ : ∃ w0 t,ws = w0 :: t := by
   cases ws with
   | nil => simp at hne
   | cons a t => exact ⟨a,t,rfl⟩
 have rx := zEi (hsub w0 (by simp))
 have rn := zCs (hsub w0 (by simp))
 have rpt := zFa (ws := t) (k := 2) (by simp at hl; omega) (fun p hp => hsub p (by simp [hp])) (.inl rfl)
 have c2 : ((2 : Nat) : Int) = 2 := rfl
 rw [c2] at rp2 rpt
 simp only [oSg] at rx
 simp only [rIB] at rn
 simp only [rPB] at rp2 rpt
 have g0 : (w0 :: t).getD 0 [] = w0 := rfl
 have L0 : ((0 : Int) < ((t.length + 1 : Nat) : Int)) = True := eq_true (by omega)
 have L1 : ((1 : Int) ≤ ((t.length + 1 : Nat) : Int)) = True := eq_true (by omega)
 have h4 : List.drop 1 (List.take (t.length + 1) ([I.str ⟨w0.toArray⟩] :: rowsS t)) = rowsS t := by rw [List.take_of_length_le (by simp [zAe])]; rfl
 obtain ⟨X,hX⟩ : ∃ n,(sglP w0).1 = n := ⟨_,rfl⟩
 obtain ⟨fine,hf⟩ : ∃ n,(sglP w0).2 = n := ⟨_,rfl⟩
 obtain ⟨n,hn⟩ : ∃ n,(riF w0).1 = n := ⟨_,rfl⟩
 obtain ⟨one,ho⟩ : ∃ n,(riF w0).2 = n := ⟨_,rfl⟩
 simp only [hX,hf] at rx
 simp only [hn,ho] at rn
 have hrs : rowsS (w0 :: t) = [I.str ⟨w0.toArray⟩] :: rowsS t := rfl
 rw [hrs] at rp2 rsl
 by_cases p_source : w = sourceT
 · have h_source : (w = [115,111,117,114,99,101]) = True := eq_true p_source
   by_cases hc : (pPts 2 (w0 :: t)).2 = true ∧ (pPts 2 (w0 :: t)).1.length = 2
   · obtain ⟨⟨a,a'⟩,⟨b,b'⟩,hP⟩ : ∃ p q,(pPts 2 (w0 :: t)).1 = [p,q] := by
       match hq : (pPts 2 (w0 :: t)).1,hc.2 with
       | [p,q],_ => exact ⟨p,q,rfl⟩
     have hw : wrdF w (w0 :: t) = (⟨1,(a,a'),(b,b'),0,[],0,0,[],[],0,0⟩,true) := by unfold wrdF; rw [if_pos p_source,if_pos hc,hP]; rfl
     simp only [hc.1,hP] at rp2
     have hrz : rowsZ [(a,a'),(b,b')] = [[.cpx .f32 a a'],[.cpx .f32 b b']] := rfl
     rw [hw]
     simp only [rMB,modC,zAj,zAl]
     try simp -dsimp (maxSteps := 1000000) only [go_sem,↓reduceIte,yab,Tryz.f37,zAh,zAe,hrs,L0,L1,rx,rn,yaQ,yaR,Int.toNat_natCast,Int.reduceLE,Int.reduceLT,h_source,rp2,hrz,c2,Int.reduceEq,ne_eq,ybc,yaU,yas,List.length_nil,Nat.reduceAdd,yaH,yaI,yag,yah,yaT,yaq]
     repeat' (first
       | ((with_reducible refine sl_i ?_ ?_); focus kernel_rfl)
       | ((with_reducible refine ro_i ?_ ?_); focus kernel_rfl))
     refine zAm [.nilI 1 [.b 0 0 4,.b 0 0 7,.b 0 0 8]] ?_
     simp -dsimp (maxSteps := 1000000) only [go_sem,↓reduceIte,yab,zAj,zAl,modC,mod0,yaH,yaI,yag,yah,yaT,yaq]
   have hw : wrdF w (w0 :: t) = (mod0 0,false) := by unfold wrdF; rw [if_pos p_source,if_neg hc]
   rw [hw]
   simp only [rMB,modC,mod0,zAj,zAl]
   cases hb : (pPts 2 (w0 :: t)).2 with
   | false =>
     simp only [hb] at rp2
     try simp -dsimp (maxSteps := 1000000) only [go_sem,↓reduceIte,yab,Tryz.f37,zAh,zAe,hrs,L0,L1,rx,rn,yaQ,yaR,Int.toNat_natCast,Int.reduceLE,Int.reduceLT,h_source,rp2,yaH,yaI,yag,yah,yaT,yaq]
     refine zAm [.nilI 1 [.b 0 0 4,.b 0 0 7,.b 0 0 8]] ?_
     simp -dsimp (maxSteps := 1000000) only [go_sem,↓reduceIte,yab,zAj,zAl,modC,mod0,yaH,yaI,yag,yah,yaT,yaq]
   | true =>
     simp only [hb] at rp2
     have e2 : (((pPts 2 (w0 :: t)).1.length : Int) = 2) = False := eq_false (fun h => hc ⟨hb,by omega⟩)
     try simp -dsimp (maxSteps := 1000000) only [go_sem,↓reduceIte,yab,Tryz.f37,zAh,zAe,hrs,L0,L1,rx,rn,yaQ,yaR,Int.toNat_natCast,Int.reduceLE,Int.reduceLT,h_source,rp2,e2,zAa,yaH,yaI,yag,yah,yaT,yaq]
     refine zAm [.nilI 1 [.b 0 0 4,.b 0 0 7,.b 0 0 8]] ?_
     simp -dsimp (maxSteps := 1000000) only [go_sem,↓reduceIte,yab,zAj,zAl,modC,mod0,yaH,yaI,yag,yah,yaT,yaq]
 have n_source := p_source
 have h_source : (w = [115,111,117,114,99,101]) = False := eq_false p_source
 by_cases p_mixer : w = mixerT
 · have h_mixer : (w = [109,105,120,101,114]) = True := eq_true p_mixer
   by_cases hc : (pPts 2 (w0 :: t)).2 = true ∧ (pPts 2 (w0 :: t)).1.length = 2
   · obtain ⟨⟨a,a'⟩,⟨b,b'⟩,hP⟩ : ∃ p q,(pPts 2 (w0 :: t)).1 = [p,q] := by
       match hq : (pPts 2 (w0 :: t)).1,hc.2 with
       | [p,q],_ => exact ⟨p,q,rfl⟩
     have hw : wrdF w (w0 :: t) = (⟨2,(a,a'),(b,b'),0,[],0,0,[],[],0,0⟩,true) := by unfold wrdF; rw [if_neg n_source,if_pos p_mixer,if_pos hc,hP]; rfl
     simp only [hc.1,hP] at rp2
     have hrz : rowsZ [(a,a'),(b,b')] = [[.cpx .f32 a a'],[.cpx .f32 b b']] := rfl
     rw [hw]
     simp only [rMB,modC,zAj,zAl]
     try simp -dsimp (maxSteps := 1000000) only [go_sem,↓reduceIte,yab,Tryz.f37,zAh,zAe,hrs,L0,L1,rx,rn,yaQ,yaR,Int.toNat_natCast,Int.reduceLE,Int.reduceLT,h_source,h_mixer,rp2,hrz,c2,Int.reduceEq,ne_eq,ybc,yaU,yas,List.length_nil,Nat.reduceAdd,yaH,yaI,yag,yah,yaT,yaq]
     repeat' (first
       | ((with_reducible refine sl_i ?_ ?_); focus kernel_rfl)
       | ((with_reducible refine ro_i ?_ ?_); focus kernel_rfl))
     refine zAm [.nilI 1 [.b 0 0 4,.b 0 0 7,.b 0 0 8]] ?_
     simp -dsimp (maxSteps := 1000000) only [go_sem,↓reduceIte,yab,zAj,zAl,modC,mod0,yaH,yaI,yag,yah,yaT,yaq]
   have hw : wrdF w (w0 :: t) = (mod0 0,false) := by unfold wrdF; rw [if_neg n_source,if_pos p_mixer,if_neg hc]
   rw [hw]
   simp only [rMB,modC,mod0,zAj,zAl]
   cases hb : (pPts 2 (w0 :: t)).2 with
   | false =>
     simp only [hb] at rp2
     try simp -dsimp (maxSteps := 1000000) only [go_sem,↓reduceIte,yab,Tryz.f37,zAh,zAe,hrs,L0,L1,rx,rn,yaQ,yaR,Int.toNat_natCast,Int.reduceLE,Int.reduceLT,h_source,h_mixer,rp2,yaH,yaI,yag,yah,yaT,yaq]
     refine zAm [.nilI 1 [.b 0 0 4,.b 0 0 7,.b 0 0 8]] ?_
     simp -dsimp (maxSteps := 1000000) only [go_sem,↓reduceIte,yab,zAj,zAl,modC,mod0,yaH,yaI,yag,yah,yaT,yaq]
   | true =>
     simp only [hb] at rp2
     have e2 : (((pPts 2 (w0 :: t)).1.length : Int) = 2) = False := eq_false (fun h => hc ⟨hb,by omega⟩)
     try simp -dsimp (maxSteps := 1000000) only [go_sem,↓reduceIte,yab,Tryz.f37,zAh,zAe,hrs,L0,L1,rx,rn,yaQ,yaR,Int.toNat_natCast,Int.reduceLE,Int.reduceLT,h_source,h_mixer,rp2,e2,zAa,yaH,yaI,yag,yah,yaT,yaq]
     refine zAm [.nilI 1 [.b 0 0 4,.b 0 0 7,.b 0 0 8]] ?_
     simp -dsimp (maxSteps := 1000000) only [go_sem,↓reduceIte,yab,zAj,zAl,modC,mod0,yaH,yaI,yag,yah,yaT,yaq]
 have n_mixer := p_mixer
 have h_mixer : (w = [109,105,120,101,114]) = False := eq_false p_mixer
 by_cases p_gain : w = gainT
 · have h_gain : (w = [103,97,105,110]) = True := eq_true p_gain
   have hw : wrdF w (w0 :: t) = (⟨3,(0,0),(0,0),X,[],0,0,[],[],0,0⟩,fine && decide (t.length + 1 = 1)) := by unfold wrdF; rw [if_neg n_source,if_neg n_mixer,if_pos p_gain,g0,hX,hf]; rfl
   rw [hw]
   simp only [rMB,modC,zAj,zAl]
   cases fine with
   | false =>
     try simp -dsimp (maxSteps := 1000000) only [go_sem,↓reduceIte,yab,Tryz.f37,zAh,zAe,hrs,L0,L1,rx,rn,yaQ,yaR,Int.toNat_natCast,Int.reduceLE,Int.reduceLT,h_source,h_mixer,h_gain,yaH,yaI,yag,yah,yaT,yaq]
     refine zAm [.nilI 1 [.b 0 0 4,.b 0 0 7,.b 0 0 8]] ?_
     simp -dsimp (maxSteps := 1000000) only [go_sem,↓reduceIte,yab,zAj,zAl,modC,mod0,yaH,yaI,yag,yah,yaT,yaq]
   | true =>
     by_cases e : t.length = 0
     · have e1 : (((t.length + 1 : Nat) : Int) = 1) = True := eq_true (by omega)
       have e2 : (t.length + 1 = 1) = True := eq_true (by omega)
       have e3 := eq_true e
       try simp -dsimp (maxSteps := 1000000) only [go_sem,↓reduceIte,yab,Tryz.f37,zAh,zAe,hrs,L0,L1,rx,rn,yaQ,yaR,Int.toNat_natCast,Int.reduceLE,Int.reduceLT,h_source,h_mixer,h_gain,e1,yaH,yaI,yag,yah,yaT,yaq]
       refine zAm [.nilI 1 [.b 0 0 4,.b 0 0 7,.b 0 0 8]] ?_
       simp -dsimp (maxSteps := 1000000) only [go_sem,↓reduceIte,yab,zAj,zAl,modC,mod0,yaH,yaI,yag,yah,yaT,yaq,e2,e3,yaS,yaU]
     · have e1 : (((t.length + 1 : Nat) : Int) = 1) = False := eq_false (by omega)
       have e2 : (t.length + 1 = 1) = False := eq_false (by omega)
       have e3 := eq_false e
       try simp -dsimp (maxSteps := 1000000) only [go_sem,↓reduceIte,yab,Tryz.f37,zAh,zAe,hrs,L0,L1,rx,rn,yaQ,yaR,Int.toNat_natCast,Int.reduceLE,Int.reduceLT,h_source,h_mixer,h_gain,e1,yaH,yaI,yag,yah,yaT,yaq]
       refine zAm [.nilI 1 [.b 0 0 4,.b 0 0 7,.b 0 0 8]] ?_
       simp -dsimp (maxSteps := 1000000) only [go_sem,↓reduceIte,yab,zAj,zAl,modC,mod0,yaH,yaI,yag,yah,yaT,yaq,e2,e3,yaS,yaU]
 have n_gain := p_gain
 have h_gain : (w = [103,97,105,110]) = False := eq_false p_gain
 by_cases p_meter : w = meterT
 · have h_meter : (w = [109,101,116,101,114]) = True := eq_true p_meter
   have hw : wrdF w (w0 :: t) = (⟨7,(0,0),(0,0),X,[],0,0,[],[],0,0⟩,fine && decide (t.length + 1 = 1)) := by unfold wrdF; rw [if_neg n_source,if_neg n_mixer,if_neg n_gain,if_pos p_meter,g0,hX,hf]; rfl
   rw [hw]
   simp only [rMB,modC,zAj,zAl]
   cases fine with
   | false =>
     try simp -dsimp (maxSteps := 1000000) only [go_sem,↓reduceIte,yab,Tryz.f37,zAh,zAe,hrs,L0,L1,rx,rn,yaQ,yaR,Int.toNat_natCast,Int.reduceLE,Int.reduceLT,h_source,h_mixer,h_gain,h_meter,yaH,yaI,yag,yah,yaT,yaq]
     refine zAm [.nilI 1 [.b 0 0 4,.b 0 0 7,.b 0 0 8]] ?_
     simp -dsimp (maxSteps := 1000000) only [go_sem,↓reduceIte,yab,zAj,zAl,modC,mod0,yaH,yaI,yag,yah,yaT,yaq]
   | true =>
     by_cases e : t.length = 0
     · have e1 : (((t.length + 1 : Nat) : Int) = 1) = True := eq_true (by omega)
       have e2 : (t.length + 1 = 1) = True := eq_true (by omega)
       have e3 := eq_true e
       try simp -dsimp (maxSteps := 1000000) only [go_sem,↓reduceIte,yab,Tryz.f37,zAh,zAe,hrs,L0,L1,rx,rn,yaQ,yaR,Int.toNat_natCast,Int.reduceLE,Int.reduceLT,h_source,h_mixer,h_gain,h_meter,e1,yaH,yaI,yag,yah,yaT,yaq]
       refine zAm [.nilI 1 [.b 0 0 4,.b 0 0 7,.b 0 0 8]] ?_
       simp -dsimp (maxSteps := 1000000) only [go_sem,↓reduceIte,yab,zAj,zAl,modC,mod0,yaH,yaI,yag,yah,yaT,yaq,e2,e3,yaS,yaU]
     · have e1 : (((t.length + 1 : Nat) : Int) = 1) = False := eq_false (by omega)
       have e2 : (t.length + 1 = 1) = False := eq_false (by omega)
       have e3 := eq_false e
       try simp -dsimp (maxSteps := 1000000) only [go_sem,↓reduceIte,yab,Tryz.f37,zAh,zAe,hrs,L0,L1,rx,rn,yaQ,yaR,Int.toNat_natCast,Int.reduceLE,Int.reduceLT,h_source,h_mixer,h_gain,h_meter,e1,yaH,yaI,yag,yah,yaT,yaq]
       refine zAm [.nilI 1 [.b 0 0 4,.b 0 0 7,.b 0 0 8]] ?_
       simp -dsimp (maxSteps := 1000000) only [go_sem,↓reduceIte,yab,zAj,zAl,modC,mod0,yaH,yaI,yag,yah,yaT,yaq,e2,e3,yaS,yaU]
 have n_meter := p_meter
 have h_meter : (w = [109,101,116,101,114]) = False := eq_false p_meter
 by_cases p_delay : w = delayT
 · have h_delay : (w = [100,101,108,97,121]) = True := eq_true p_delay
   have hw : wrdF w (w0 :: t) = (⟨4,(0,0),(0,0),0,(pPts 2 t).1,n,((pPts 2 t).1.length : Int),[],[],0,0⟩,(pPts 2 t).2 && one) := by unfold wrdF; rw [if_neg n_source,if_neg n_mixer,if_neg n_gain,if_neg n_meter,if_pos p_delay,g0,hn,ho]; rfl
   rw [hw]
   simp only [rMB,modC,zAj,zAl]
   cases hb : (pPts 2 t).2 with
   | false =>
     simp only [hb] at rpt
     try simp -dsimp (maxSteps := 1000000) only [go_sem,↓reduceIte,yab,Tryz.f37,zAh,zAe,hrs,L0,L1,rx,rn,yaQ,yaR,Int.toNat_natCast,Int.reduceLE,Int.reduceLT,h_source,h_mixer,h_gain,h_meter,h_delay,h4,rpt,zAa,yaH,yaI,yag,yah,yaT,yaq]
     refine zAm [.nilI 1 [.b 0 0 7,.b 0 0 8]] ?_
     simp -dsimp (maxSteps := 1000000) only [go_sem,↓reduceIte,yab,zAj,zAl,modC,mod0,yaH,yaI,yag,yah,yaT,yaq]
   | true =>
     simp only [hb] at rpt
     try simp -dsimp (maxSteps := 1000000) only [go_sem,↓reduceIte,yab,Tryz.f37,zAh,zAe,hrs,L0,L1,rx,rn,yaQ,yaR,Int.toNat_natCast,Int.reduceLE,Int.reduceLT,h_source,h_mixer,h_gain,h_meter,h_delay,h4,rpt,zAa,yaH,yaI,yag,yah,yaT,yaq]
     refine zAm [.nilI 1 [.b 0 0 7,.b 0 0 8]] ?_
     simp -dsimp (maxSteps := 1000000) only [go_sem,↓reduceIte,yab,zAj,zAl,modC,mod0,yaH,yaI,yag,yah,yaT,yaq]
 have n_delay := p_delay
 have h_delay : (w = [100,101,108,97,121]) = False := eq_false p_delay
 by_cases p_slicer : w = slicerT
 · have h_slicer : (w = [115,108,105,99,101,114]) = True := eq_true p_slicer
   have hw : wrdF w (w0 :: t) = pSlc (w0 :: t) := by unfold wrdF; rw [if_neg n_source,if_neg n_mixer,if_neg n_gain,if_neg n_meter,if_neg n_delay,if_pos p_slicer]
   rw [hw]
   obtain ⟨⟨⟨k',⟨t1,t2⟩,⟨s1,s2⟩,lv,st,ra,rc,pts,lab,c,lf⟩,bb⟩,hS⟩ : ∃ m,pSlc (w0 :: t) = m := ⟨_,rfl⟩
   rw [hS] at rsl
   rw [hS]
   simp only [rMB,modC] at rsl ⊢
   try simp -dsimp (maxSteps := 1000000) only [go_sem,↓reduceIte,yab,Tryz.f37,zAh,zAe,hrs,L0,L1,rx,rn,yaQ,yaR,Int.toNat_natCast,Int.reduceLE,Int.reduceLT,h_source,h_mixer,h_gain,h_meter,h_delay,h_slicer,rsl,yaH,yaI,yag,yah,yaT,yaq]
   refine zAm [] ?_
   simp -dsimp (maxSteps := 1000000) only [go_sem,↓reduceIte,yab,zAj,zAl,modC,mod0,yaH,yaI,yag,yah,yaT,yaq]
 have n_slicer := p_slicer
 have h_slicer : (w = [115,108,105,99,101,114]) = False := eq_false p_slicer
 by_cases p_hold : w = holdT
 · have h_hold : (w = [104,111,108,100]) = True := eq_true p_hold
   by_cases h4l : t.length = 3
   rotate_left
   · have hw : wrdF w (w0 :: t) = (mod0 0,false) := by unfold wrdF; rw [if_neg n_source,if_neg n_mixer,if_neg n_gain,if_neg n_meter,if_neg n_delay,if_neg n_slicer,if_pos p_hold,if_neg (fun h => h4l (by have := h.1; simp at this; omega))]
     have e4 : (((t.length + 1 : Nat) : Int) = 4) = False := eq_false (by omega)
     rw [hw]
     simp only [rMB,modC,mod0,zAj,zAl]
     try simp -dsimp (maxSteps := 1000000) only [go_sem,↓reduceIte,yab,Tryz.f37,zAh,zAe,hrs,L0,L1,rx,rn,yaQ,yaR,Int.toNat_natCast,Int.reduceLE,Int.reduceLT,h_source,h_mixer,h_gain,h_meter,h_delay,h_slicer,h_hold,e4,yaH,yaI,yag,yah,yaT,yaq]
     refine zAm [.nilI 1 [.b 0 0 4,.b 0 0 7,.b 0 0 8]] ?_
     simp -dsimp (maxSteps := 1000000) only [go_sem,↓reduceIte,yab,zAj,zAl,modC,mod0,yaH,yaI,yag,yah,yaT,yaq]
   obtain ⟨w1,w2,w3,rfl⟩ : ∃ a b c,t = [a,b,c] := by
     match t,h4l with
     | [a,b,c],_ => exact ⟨a,b,c,rfl⟩
   have rl := zCs (hsub w1 (by simp))
   simp only [rIB] at rl
   have rp3 := zFa (ws := [w2,w3]) (k := 2) (by simp) (fun p hp => hsub p (by simp at hp ⊢; rcases hp with rfl | rfl <;> simp)) (.inl rfl)
   rw [c2] at rp3
   simp only [rPB] at rp3
   have c4 : ((3 + 1 : Nat) : Int) = 4 := rfl
   have c4' : ((4 : Nat) : Int) = 4 := rfl
   have hr3 : rowsS [w2,w3] = [[I.str ⟨w2.toArray⟩],[I.str ⟨w3.toArray⟩]] := rfl
   have hr4 : rowsS [w1,w2,w3] = [[I.str ⟨w1.toArray⟩],[I.str ⟨w2.toArray⟩],[I.str ⟨w3.toArray⟩]] := rfl
   rw [hr3] at rp3
   have t4 : (4 : Int).toNat = 4 := rfl
   have t2 : (2 : Int).toNat = 2 := rfl
   cases hb : (pPts 2 [w2,w3]).2 with
   | false =>
     have hw : wrdF w [w0,w1,w2,w3] = (mod0 0,false) := by unfold wrdF; rw [if_neg n_source,if_neg n_mixer,if_neg n_gain,if_neg n_meter,if_neg n_delay,if_neg n_slicer,if_pos p_hold,if_neg (fun h => by have := h.2; simp only [yaY,ybb] at this; rw [hb] at this; cases this)]
     simp only [hb] at rp3
     rw [hw]
     simp only [rMB,modC,mod0,zAj,zAl]
     try simp -dsimp (maxSteps := 1000000) only [go_sem,↓reduceIte,yab,Tryz.f37,zAh,zAe,hrs,L0,L1,rx,rn,yaQ,yaR,Int.toNat_natCast,Int.reduceLE,Int.reduceLT,h_source,h_mixer,h_gain,h_meter,h_delay,h_slicer,h_hold,c4,c4',hr4,t4,t2,rl,rp3,yas,List.length_nil,Nat.reduceAdd,List.take_succ_cons,yan,yaY,ybb,yaH,yaI,yag,yah,yaT,yaq]
     refine zAm [.nilI 1 [.b 0 0 4,.b 0 0 7,.b 0 0 8]] ?_
     simp -dsimp (maxSteps := 1000000) only [go_sem,↓reduceIte,yab,zAj,zAl,modC,mod0,yaH,yaI,yag,yah,yaT,yaq]
   | true =>
     have hpl := zJt1 (k := 2) (by decide) hb
     obtain ⟨⟨a,a'⟩,hP⟩ : ∃ p,(pPts 2 [w2,w3]).1 = [p] := by
       match hq : (pPts 2 [w2,w3]).1,(show (pPts 2 [w2,w3]).1.length = 1 by rw [hpl]; simp) with
       | [p],_ => exact ⟨p,rfl⟩
     have hw : wrdF w [w0,w1,w2,w3] = (⟨8,(0,0),(a,a'),0,[],0,0,[],[],n,(riF w1).1⟩,(riF w1).2 && one) := by
       unfold wrdF
       rw [if_neg n_source,if_neg n_mixer,if_neg n_gain,if_neg n_meter,if_neg n_delay,if_neg n_slicer,if_pos p_hold,if_pos ⟨rfl,hb⟩,g0,hn,ho]
       simp only [yaY,ybb,hP]
       rfl
     simp only [hb,hP] at rp3
     have hrz : rowsZ [(a,a')] = [[.cpx .f32 a a']] := rfl
     rw [hw]
     simp only [rMB,modC,zAj,zAl]
     generalize (riF w1).1 = L at *
     generalize (riF w1).2 = lo at *
     cases lo with
     | false =>
       try simp -dsimp (maxSteps := 1000000) only [go_sem,↓reduceIte,yab,Tryz.f37,zAh,zAe,hrs,L0,L1,rx,rn,yaQ,yaR,Int.toNat_natCast,Int.reduceLE,Int.reduceLT,h_source,h_mixer,h_gain,h_meter,h_delay,h_slicer,h_hold,c4,c4',hr4,hrz,t4,t2,rl,rp3,yas,List.length_nil,Nat.reduceAdd,List.take_succ_cons,yan,yaY,ybb,yaH,yaI,yag,yah,yaT,yaq]
       refine zAm [.nilI 1 [.b 0 0 4,.b 0 0 7,.b 0 0 8]] ?_
       simp -dsimp (maxSteps := 1000000) only [go_sem,↓reduceIte,yab,zAj,zAl,modC,mod0,yaH,yaI,yag,yah,yaT,yaq]
     | true =>
       try simp -dsimp (maxSteps := 1000000) only [go_sem,↓reduceIte,yab,Tryz.f37,zAh,zAe,hrs,L0,L1,rx,rn,yaQ,yaR,Int.toNat_natCast,Int.reduceLE,Int.reduceLT,h_source,h_mixer,h_gain,h_meter,h_delay,h_slicer,h_hold,c4,c4',hr4,hrz,t4,t2,rl,rp3,yas,List.length_nil,Nat.reduceAdd,List.take_succ_cons,yan,yaY,ybb,yaH,yaI,yag,yah,yaT,yaq]
       refine zAm [.nilI 1 [.b 0 0 4,.b 0 0 7,.b 0 0 8]] ?_
       simp -dsimp (maxSteps := 1000000) only [go_sem,↓reduceIte,yab,zAj,zAl,modC,mod0,yaH,yaI,yag,yah,yaT,yaq]
 have n_hold := p_hold
 have h_hold : (w = [104,111,108,100]) = False := eq_false p_hold
 have hw : wrdF w (w0 :: t) = (mod0 0,false) := by unfold wrdF; rw [if_neg n_source,if_neg n_mixer,if_neg n_gain,if_neg n_meter,if_neg n_delay,if_neg n_slicer,if_neg n_hold]
 rw [hw]
 simp only [rMB,modC,mod0,zAj,zAl]
 try simp -dsimp (maxSteps := 1000000) only [go_sem,↓reduceIte,yab,Tryz.f37,zAh,zAe,hrs,L0,L1,rx,rn,yaQ,yaR,Int.toNat_natCast,Int.reduceLE,Int.reduceLT,h_source,h_mixer,h_gain,h_meter,h_delay,h_slicer,h_hold,yaH,yaI,yag,yah,yaT,yaq]
 refine zAm [.nilI 1 [.b 0 0 4,.b 0 0 7,.b 0 0 8]] ?_
 simp -dsimp (maxSteps := 1000000) only [go_sem,↓reduceIte,yab,zAj,zAl,modC,mod0,yaH,yaI,yag,yah,yaT,yaq]
end Go.SX
namespace Go.SX
open Go Go.Proofs Ieee
def TbW (pts : List Pt) (lab : List Int) : Prop := (∀ p ∈ pts,p.1 < 4294967296 ∧ p.2 < 4294967296) ∧ ∀ x ∈ lab,i64B x
end Go.SX
namespace Go.SX
open Go Go.Proofs Ieee
structure Wd (m : Mod) : Prop where
 w : W32 m
 rat : i64B m.rat
 cnt : i64B m.count
 lft : i64B m.left
 lab : ∀ x ∈ m.lab,i64B x
theorem zDt : i64B 0 := ⟨by decide,by decide⟩
theorem zGb : (0 : Nat) < 4294967296 ∧ (0 : Nat) < 4294967296 := ⟨by decide,by decide⟩
theorem zDp1 : Wd mSum' := ⟨⟨zGb,zGb,by decide,by simp [mSum'],by simp [mSum']⟩,zDt,zDt,zDt,by simp [mSum']⟩
theorem wd_2 {k : Int} {t s : Pt} (ht : t.1 < 4294967296 ∧ t.2 < 4294967296) (hs : s.1 < 4294967296 ∧ s.2 < 4294967296) : Wd ⟨k,t,s,0,[],0,0,[],[],0,0⟩ := ⟨⟨ht,hs,by simp,by simp,by simp⟩,zDt,zDt,zDt,by simp⟩
theorem wd_1 {k : Int} {l : Nat} (h : l < 4294967296) : Wd ⟨k,(0,0),(0,0),l,[],0,0,[],[],0,0⟩ := ⟨⟨zGb,zGb,h,by simp,by simp⟩,zDt,zDt,zDt,by simp⟩
structure DrU (m : Mod) : Prop where
 d : Drawn m
 w : Wd m
structure ASlU where
 pts : List Pt
 lab : List Int
 c : Int
 z : Pt
 t : isTableF pts lab = true
 tw : TbW pts lab
structure AStpU where
 m : Mod
 z : Pt
 d : Drawn m
 w : Wd m
 zw : z.1 < 4294967296 ∧ z.2 < 4294967296
 s1 : lvlB (absS z.1) = true
 s2 : lvlB (absS z.2) = true
end Go.SX
namespace Go.SX
open Go Go.Proofs Ieee
theorem zGe1 : Law Tryz.prog 60 (zTm 1) := by
 refine zAi (zAc zDg (zAc zCh (zAc zAz zAf))) hmixA Tryz.func60 rfl rfl (fun ⟨⟨⟨k,⟨t1,t2⟩,⟨s1,s2⟩,lv,st,ra,rc,pts,lab,c,lf⟩,ok,w32,hkk⟩,hk⟩ => ⟨zAv rfl,by simp [Tryz.f60],?_⟩)
 simp only [modC] at hk ⊢
 have rt := zBe w32.turn.1 w32.turn.2
 have rs := zBe w32.state.1 w32.state.2
 have rl := zAs w32.level
 have bl : ((⟨(fsT lv).toArray⟩ : ByteArray).toList == (⟨#[48]⟩ : ByteArray).toList) = nz lv := (zAh (fsT lv) [48]).trans (zPy w32.level)
 simp only at rt rs rl
 clear ok w32 hkk
 subst hk
 have z := zDf (k := 1) (by simp)
 cases hAl : nz lv with
 | false =>
   have r : unuF ⟨1,(t1,t2),(s1,s2),lv,st,ra,rc,pts,lab,c,lf⟩ = false := by simp [unuF,restM,bareF,nzP00,nz00,hAl]
   rw [r]
   try simp -dsimp (maxSteps := 1000000) only [go_sem,↓reduceIte,yab,Tryz.f60,z,rt,rs,rl,bl,usesF,zAa,zAb,Int.reduceEq,Int.reduceLT,Int.reduceLE,Int.reduceToNat,yaH,yaI,hAl]
 | true =>
 by_cases hAst : (st.length : Int) = 0
 rotate_left
 · have r : unuF ⟨1,(t1,t2),(s1,s2),lv,st,ra,rc,pts,lab,c,lf⟩ = false := by
     have d := decide_eq_false hAst
     unfold unuF restM bareF
     simp only [Int.reduceEq,or_self,or_false,or_true,yal,yak,nzP00,nz00,d,yag,yaT,yah,List.length_nil,Int.natCast_zero,Int.ofNat_zero,hAl]
   have est : ((0 : Int) < (st.length : Int)) = True := eq_true (by omega)
   clear hAst
   rw [r]
   try simp -dsimp (maxSteps := 1000000) only [go_sem,↓reduceIte,yab,Tryz.f60,z,rt,rs,rl,bl,usesF,zAa,zAb,Int.reduceEq,Int.reduceLT,Int.reduceLE,Int.reduceToNat,yaH,yaI,hAl,est]
 have dst := decide_eq_true hAst
 have est : ((0 : Int) < (st.length : Int)) = False := eq_false (by omega)
 by_cases hAra : ra = 0
 rotate_left
 · have r : unuF ⟨1,(t1,t2),(s1,s2),lv,st,ra,rc,pts,lab,c,lf⟩ = false := by
     have d := decide_eq_false hAra
     unfold unuF restM bareF
     simp only [Int.reduceEq,or_self,or_false,or_true,yal,yak,nzP00,nz00,d,yag,yaT,yah,List.length_nil,Int.natCast_zero,Int.ofNat_zero,hAl,dst]
   have era : (ra = 0) = False := eq_false hAra
   clear hAra
   rw [r]
   try simp -dsimp (maxSteps := 1000000) only [go_sem,↓reduceIte,yab,Tryz.f60,z,rt,rs,rl,bl,usesF,zAa,zAb,Int.reduceEq,Int.reduceLT,Int.reduceLE,Int.reduceToNat,yaH,yaI,hAl,est,era]
 have dra := decide_eq_true hAra
 have era : (ra = 0) = True := eq_true hAra
 by_cases hArc : rc = 0
 rotate_left
 · have r : unuF ⟨1,(t1,t2),(s1,s2),lv,st,ra,rc,pts,lab,c,lf⟩ = false := by
     have d := decide_eq_false hArc
     unfold unuF restM bareF
     simp only [Int.reduceEq,or_self,or_false,or_true,yal,yak,nzP00,nz00,d,yag,yaT,yah,List.length_nil,Int.natCast_zero,Int.ofNat_zero,hAl,dst,dra]
   have erc : (rc = 0) = False := eq_false hArc
   clear hArc
   rw [r]
   try simp -dsimp (maxSteps := 1000000) only [go_sem,↓reduceIte,yab,Tryz.f60,z,rt,rs,rl,bl,usesF,zAa,zAb,Int.reduceEq,Int.reduceLT,Int.reduceLE,Int.reduceToNat,yaH,yaI,hAl,est,era,erc]
 have drc := decide_eq_true hArc
 have erc : (rc = 0) = True := eq_true hArc
 by_cases hAp : (pts.length : Int) = 0
 rotate_left
 · have r : unuF ⟨1,(t1,t2),(s1,s2),lv,st,ra,rc,pts,lab,c,lf⟩ = false := by
     have d := decide_eq_false hAp
     unfold unuF restM bareF
     simp only [Int.reduceEq,or_self,or_false,or_true,yal,yak,nzP00,nz00,d,yag,yaT,yah,List.length_nil,Int.natCast_zero,Int.ofNat_zero,hAl,dst,dra,drc]
   have ep : ((0 : Int) < (pts.length : Int)) = True := eq_true (by omega)
   clear hAp
   rw [r]
   try simp -dsimp (maxSteps := 1000000) only [go_sem,↓reduceIte,yab,Tryz.f60,z,rt,rs,rl,bl,usesF,zAa,zAb,Int.reduceEq,Int.reduceLT,Int.reduceLE,Int.reduceToNat,yaH,yaI,hAl,est,era,erc,ep]
 have dp := decide_eq_true hAp
 have ep : ((0 : Int) < (pts.length : Int)) = False := eq_false (by omega)
 by_cases hAla : (lab.length : Int) = 0
 rotate_left
 · have r : unuF ⟨1,(t1,t2),(s1,s2),lv,st,ra,rc,pts,lab,c,lf⟩ = false := by
     have d := decide_eq_false hAla
     unfold unuF restM bareF
     simp only [Int.reduceEq,or_self,or_false,or_true,yal,yak,nzP00,nz00,d,yag,yaT,yah,List.length_nil,Int.natCast_zero,Int.ofNat_zero,hAl,dst,dra,drc,dp]
   have ela : ((0 : Int) < (lab.length : Int)) = True := eq_true (by omega)
   clear hAla
   rw [r]
   try simp -dsimp (maxSteps := 1000000) only [go_sem,↓reduceIte,yab,Tryz.f60,z,rt,rs,rl,bl,usesF,zAa,zAb,Int.reduceEq,Int.reduceLT,Int.reduceLE,Int.reduceToNat,yaH,yaI,hAl,est,era,erc,ep,ela]
 have dla := decide_eq_true hAla
 have ela : ((0 : Int) < (lab.length : Int)) = False := eq_false (by omega)
 by_cases hAc : c = 0
 rotate_left
 · have r : unuF ⟨1,(t1,t2),(s1,s2),lv,st,ra,rc,pts,lab,c,lf⟩ = false := by
     have d := decide_eq_false hAc
     unfold unuF restM bareF
     simp only [Int.reduceEq,or_self,or_false,or_true,yal,yak,nzP00,nz00,d,yag,yaT,yah,List.length_nil,Int.natCast_zero,Int.ofNat_zero,hAl,dst,dra,drc,dp,dla]
   have ec : (c = 0) = False := eq_false hAc
   clear hAc
   rw [r]
   try simp -dsimp (maxSteps := 1000000) only [go_sem,↓reduceIte,yab,Tryz.f60,z,rt,rs,rl,bl,usesF,zAa,zAb,Int.reduceEq,Int.reduceLT,Int.reduceLE,Int.reduceToNat,yaH,yaI,hAl,est,era,erc,ep,ela,ec]
 have dc := decide_eq_true hAc
 have ec : (c = 0) = True := eq_true hAc
 by_cases hAf : lf = 0
 rotate_left
 · have r : unuF ⟨1,(t1,t2),(s1,s2),lv,st,ra,rc,pts,lab,c,lf⟩ = false := by
     have d := decide_eq_false hAf
     unfold unuF restM bareF
     simp only [Int.reduceEq,or_self,or_false,or_true,yal,yak,nzP00,nz00,d,yag,yaT,yah,List.length_nil,Int.natCast_zero,Int.ofNat_zero,hAl,dst,dra,drc,dp,dla,dc]
   have ef : (lf = 0) = False := eq_false hAf
   clear hAf
   rw [r]
   try simp -dsimp (maxSteps := 1000000) only [go_sem,↓reduceIte,yab,Tryz.f60,z,rt,rs,rl,bl,usesF,zAa,zAb,Int.reduceEq,Int.reduceLT,Int.reduceLE,Int.reduceToNat,yaH,yaI,hAl,est,era,erc,ep,ela,ec,ef]
 have df := decide_eq_true hAf
 have ef : (lf = 0) = True := eq_true hAf
 have r : unuF ⟨1,(t1,t2),(s1,s2),lv,st,ra,rc,pts,lab,c,lf⟩ = true := by
   unfold unuF restM bareF
   simp only [Int.reduceEq,or_self,or_false,or_true,yal,yak,nzP00,nz00,yaD,yah,List.length_nil,Int.natCast_zero,Int.ofNat_zero,yaS,hAl,dst,dra,drc,dp,dla,dc,df]
 rw [r]
 try simp -dsimp (maxSteps := 1000000) only [go_sem,↓reduceIte,yab,Tryz.f60,z,rt,rs,rl,bl,usesF,zAa,zAb,Int.reduceEq,Int.reduceLT,Int.reduceLE,Int.reduceToNat,yaH,yaI,hAl,est,era,erc,ep,ela,ec,ef]
end Go.SX
namespace Go.SX
open Go Go.Proofs Ieee
theorem zPm1 : Law Tryz.prog 60 (zTm 2) := by
 refine zAi (zAc zDg (zAc zCh (zAc zAz zAf))) hmixA Tryz.func60 rfl rfl (fun ⟨⟨⟨k,⟨t1,t2⟩,⟨s1,s2⟩,lv,st,ra,rc,pts,lab,c,lf⟩,ok,w32,hkk⟩,hk⟩ => ⟨zAv rfl,by simp [Tryz.f60],?_⟩)
 simp only [modC] at hk ⊢
 have rt := zBe w32.turn.1 w32.turn.2
 have rs := zBe w32.state.1 w32.state.2
 have rl := zAs w32.level
 have bl : ((⟨(fsT lv).toArray⟩ : ByteArray).toList == (⟨#[48]⟩ : ByteArray).toList) = nz lv := (zAh (fsT lv) [48]).trans (zPy w32.level)
 simp only at rt rs rl
 clear ok w32 hkk
 subst hk
 have z := zDf (k := 2) (by simp)
 cases hAl : nz lv with
 | false =>
   have r : unuF ⟨2,(t1,t2),(s1,s2),lv,st,ra,rc,pts,lab,c,lf⟩ = false := by simp [unuF,restM,bareF,nzP00,nz00,hAl]
   rw [r]
   try simp -dsimp (maxSteps := 1000000) only [go_sem,↓reduceIte,yab,Tryz.f60,z,rt,rs,rl,bl,usesF,zAa,zAb,Int.reduceEq,Int.reduceLT,Int.reduceLE,Int.reduceToNat,yaH,yaI,hAl]
 | true =>
 by_cases hAst : (st.length : Int) = 0
 rotate_left
 · have r : unuF ⟨2,(t1,t2),(s1,s2),lv,st,ra,rc,pts,lab,c,lf⟩ = false := by
     have d := decide_eq_false hAst
     unfold unuF restM bareF
     simp only [Int.reduceEq,or_self,or_false,or_true,yal,yak,nzP00,nz00,d,yag,yaT,yah,List.length_nil,Int.natCast_zero,Int.ofNat_zero,hAl]
   have est : ((0 : Int) < (st.length : Int)) = True := eq_true (by omega)
   clear hAst
   rw [r]
   try simp -dsimp (maxSteps := 1000000) only [go_sem,↓reduceIte,yab,Tryz.f60,z,rt,rs,rl,bl,usesF,zAa,zAb,Int.reduceEq,Int.reduceLT,Int.reduceLE,Int.reduceToNat,yaH,yaI,hAl,est]
 have dst := decide_eq_true hAst
 have est : ((0 : Int) < (st.length : Int)) = False := eq_false (by omega)
 by_cases hAra : ra = 0
 rotate_left
 · have r : unuF ⟨2,(t1,t2),(s1,s2),lv,st,ra,rc,pts,lab,c,lf⟩ = false := by
     have d := decide_eq_false hAra
     unfold unuF restM bareF
     simp only [Int.reduceEq,or_self,or_false,or_true,yal,yak,nzP00,nz00,d,yag,yaT,yah,List.length_nil,Int.natCast_zero,Int.ofNat_zero,hAl,dst]
   have era : (ra = 0) = False := eq_false hAra
   clear hAra
   rw [r]
   try simp -dsimp (maxSteps := 1000000) only [go_sem,↓reduceIte,yab,Tryz.f60,z,rt,rs,rl,bl,usesF,zAa,zAb,Int.reduceEq,Int.reduceLT,Int.reduceLE,Int.reduceToNat,yaH,yaI,hAl,est,era]
 have dra := decide_eq_true hAra
 have era : (ra = 0) = True := eq_true hAra
 by_cases hArc : rc = 0
 rotate_left
 · have r : unuF ⟨2,(t1,t2),(s1,s2),lv,st,ra,rc,pts,lab,c,lf⟩ = false := by
     have d := decide_eq_false hArc
     unfold unuF restM bareF
     simp only [Int.reduceEq,or_self,or_false,or_true,yal,yak,nzP00,nz00,d,yag,yaT,yah,List.length_nil,Int.natCast_zero,Int.ofNat_zero,hAl,dst,dra]
   have erc : (rc = 0) = False := eq_false hArc
   clear hArc
   rw [r]
   try simp -dsimp (maxSteps := 1000000) only [go_sem,↓reduceIte,yab,Tryz.f60,z,rt,rs,rl,bl,usesF,zAa,zAb,Int.reduceEq,Int.reduceLT,Int.reduceLE,Int.reduceToNat,yaH,yaI,hAl,est,era,erc]
 have drc := decide_eq_true hArc
 have erc : (rc = 0) = True := eq_true hArc
 by_cases hAp : (pts.length : Int) = 0
 rotate_left
 · have r : unuF ⟨2,(t1,t2),(s1,s2),lv,st,ra,rc,pts,lab,c,lf⟩ = false := by
     have d := decide_eq_false hAp
     unfold unuF restM bareF
     simp only [Int.reduceEq,or_self,or_false,or_true,yal,yak,nzP00,nz00,d,yag,yaT,yah,List.length_nil,Int.natCast_zero,Int.ofNat_zero,hAl,dst,dra,drc]
   have ep : ((0 : Int) < (pts.length : Int)) = True := eq_true (by omega)
   clear hAp
   rw [r]
   try simp -dsimp (maxSteps := 1000000) only [go_sem,↓reduceIte,yab,Tryz.f60,z,rt,rs,rl,bl,usesF,zAa,zAb,Int.reduceEq,Int.reduceLT,Int.reduceLE,Int.reduceToNat,yaH,yaI,hAl,est,era,erc,ep]
 have dp := decide_eq_true hAp
 have ep : ((0 : Int) < (pts.length : Int)) = False := eq_false (by omega)
 by_cases hAla : (lab.length : Int) = 0
 rotate_left
 · have r : unuF ⟨2,(t1,t2),(s1,s2),lv,st,ra,rc,pts,lab,c,lf⟩ = false := by
     have d := decide_eq_false hAla
     unfold unuF restM bareF
     simp only [Int.reduceEq,or_self,or_false,or_true,yal,yak,nzP00,nz00,d,yag,yaT,yah,List.length_nil,Int.natCast_zero,Int.ofNat_zero,hAl,dst,dra,drc,dp]
   have ela : ((0 : Int) < (lab.length : Int)) = True := eq_true (by omega)
   clear hAla
   rw [r]
   try simp -dsimp (maxSteps := 1000000) only [go_sem,↓reduceIte,yab,Tryz.f60,z,rt,rs,rl,bl,usesF,zAa,zAb,Int.reduceEq,Int.reduceLT,Int.reduceLE,Int.reduceToNat,yaH,yaI,hAl,est,era,erc,ep,ela]
 have dla := decide_eq_true hAla
 have ela : ((0 : Int) < (lab.length : Int)) = False := eq_false (by omega)
 by_cases hAc : c = 0
 rotate_left
 · have r : unuF ⟨2,(t1,t2),(s1,s2),lv,st,ra,rc,pts,lab,c,lf⟩ = false := by
     have d := decide_eq_false hAc
     unfold unuF restM bareF
     simp only [Int.reduceEq,or_self,or_false,or_true,yal,yak,nzP00,nz00,d,yag,yaT,yah,List.length_nil,Int.natCast_zero,Int.ofNat_zero,hAl,dst,dra,drc,dp,dla]
   have ec : (c = 0) = False := eq_false hAc
   clear hAc
   rw [r]
   try simp -dsimp (maxSteps := 1000000) only [go_sem,↓reduceIte,yab,Tryz.f60,z,rt,rs,rl,bl,usesF,zAa,zAb,Int.reduceEq,Int.reduceLT,Int.reduceLE,Int.reduceToNat,yaH,yaI,hAl,est,era,erc,ep,ela,ec]
 have dc := decide_eq_true hAc
 have ec : (c = 0) = True := eq_true hAc
 by_cases hAf : lf = 0
 rotate_left
 · have r : unuF ⟨2,(t1,t2),(s1,s2),lv,st,ra,rc,pts,lab,c,lf⟩ = false := by
     have d := decide_eq_false hAf
     unfold unuF restM bareF
     simp only [Int.reduceEq,or_self,or_false,or_true,yal,yak,nzP00,nz00,d,yag,yaT,yah,List.length_nil,Int.natCast_zero,Int.ofNat_zero,hAl,dst,dra,drc,dp,dla,dc]
   have ef : (lf = 0) = False := eq_false hAf
   clear hAf
   rw [r]
   try simp -dsimp (maxSteps := 1000000) only [go_sem,↓reduceIte,yab,Tryz.f60,z,rt,rs,rl,bl,usesF,zAa,zAb,Int.reduceEq,Int.reduceLT,Int.reduceLE,Int.reduceToNat,yaH,yaI,hAl,est,era,erc,ep,ela,ec,ef]
 have df := decide_eq_true hAf
 have ef : (lf = 0) = True := eq_true hAf
 have r : unuF ⟨2,(t1,t2),(s1,s2),lv,st,ra,rc,pts,lab,c,lf⟩ = true := by
   unfold unuF restM bareF
   simp only [Int.reduceEq,or_self,or_false,or_true,yal,yak,nzP00,nz00,yaD,yah,List.length_nil,Int.natCast_zero,Int.ofNat_zero,yaS,hAl,dst,dra,drc,dp,dla,dc,df]
 rw [r]
 try simp -dsimp (maxSteps := 1000000) only [go_sem,↓reduceIte,yab,Tryz.f60,z,rt,rs,rl,bl,usesF,zAa,zAb,Int.reduceEq,Int.reduceLT,Int.reduceLE,Int.reduceToNat,yaH,yaI,hAl,est,era,erc,ep,ela,ec,ef]
end Go.SX
namespace Go.SX
open Go Go.Proofs Ieee
theorem zPl1 : Law Tryz.prog 60 (zTm 3) := by
 refine zAi (zAc zDg (zAc zCh (zAc zAz zAf))) hmixA Tryz.func60 rfl rfl (fun ⟨⟨⟨k,⟨t1,t2⟩,⟨s1,s2⟩,lv,st,ra,rc,pts,lab,c,lf⟩,ok,w32,hkk⟩,hk⟩ => ⟨zAv rfl,by simp [Tryz.f60],?_⟩)
 simp only [modC] at hk ⊢
 have rt := zBe w32.turn.1 w32.turn.2
 have rs := zBe w32.state.1 w32.state.2
 have rl := zAs w32.level
 have bl : ((⟨(fsT lv).toArray⟩ : ByteArray).toList == (⟨#[48]⟩ : ByteArray).toList) = nz lv := (zAh (fsT lv) [48]).trans (zPy w32.level)
 simp only at rt rs rl
 clear ok w32 hkk
 subst hk
 have z := zDf (k := 3) (by simp)
 cases hAt : nzP (t1,t2) with
 | false =>
   have r : unuF ⟨3,(t1,t2),(s1,s2),lv,st,ra,rc,pts,lab,c,lf⟩ = false := by simp [unuF,restM,bareF,nzP00,nz00,hAt]
   rw [r]
   try simp -dsimp (maxSteps := 1000000) only [go_sem,↓reduceIte,yab,Tryz.f60,z,rt,rs,rl,bl,usesF,zAa,zAb,Int.reduceEq,Int.reduceLT,Int.reduceLE,Int.reduceToNat,yaH,yaI,hAt]
 | true =>
 cases hAs : nzP (s1,s2) with
 | false =>
   have r : unuF ⟨3,(t1,t2),(s1,s2),lv,st,ra,rc,pts,lab,c,lf⟩ = false := by simp [unuF,restM,bareF,nzP00,nz00,hAs,hAt]
   rw [r]
   try simp -dsimp (maxSteps := 1000000) only [go_sem,↓reduceIte,yab,Tryz.f60,z,rt,rs,rl,bl,usesF,zAa,zAb,Int.reduceEq,Int.reduceLT,Int.reduceLE,Int.reduceToNat,yaH,yaI,hAt,hAs]
 | true =>
 by_cases hAst : (st.length : Int) = 0
 rotate_left
 · have r : unuF ⟨3,(t1,t2),(s1,s2),lv,st,ra,rc,pts,lab,c,lf⟩ = false := by
     have d := decide_eq_false hAst
     unfold unuF restM bareF
     simp only [Int.reduceEq,or_self,or_false,or_true,yal,yak,nzP00,nz00,d,yag,yaT,yah,List.length_nil,Int.natCast_zero,Int.ofNat_zero,hAt,hAs]
   have est : ((0 : Int) < (st.length : Int)) = True := eq_true (by omega)
   clear hAst
   rw [r]
   try simp -dsimp (maxSteps := 1000000) only [go_sem,↓reduceIte,yab,Tryz.f60,z,rt,rs,rl,bl,usesF,zAa,zAb,Int.reduceEq,Int.reduceLT,Int.reduceLE,Int.reduceToNat,yaH,yaI,hAt,hAs,est]
 have dst := decide_eq_true hAst
 have est : ((0 : Int) < (st.length : Int)) = False := eq_false (by omega)
 by_cases hAra : ra = 0
 rotate_left
 · have r : unuF ⟨3,(t1,t2),(s1,s2),lv,st,ra,rc,pts,lab,c,lf⟩ = false := by
     have d := decide_eq_false hAra
     unfold unuF restM bareF
     simp only [Int.reduceEq,or_self,or_false,or_true,yal,yak,nzP00,nz00,d,yag,yaT,yah,List.length_nil,Int.natCast_zero,Int.ofNat_zero,hAt,hAs,dst]
   have era : (ra = 0) = False := eq_false hAra
   clear hAra
   rw [r]
   try simp -dsimp (maxSteps := 1000000) only [go_sem,↓reduceIte,yab,Tryz.f60,z,rt,rs,rl,bl,usesF,zAa,zAb,Int.reduceEq,Int.reduceLT,Int.reduceLE,Int.reduceToNat,yaH,yaI,hAt,hAs,est,era]
 have dra := decide_eq_true hAra
 have era : (ra = 0) = True := eq_true hAra
 by_cases hArc : rc = 0
 rotate_left
 · have r : unuF ⟨3,(t1,t2),(s1,s2),lv,st,ra,rc,pts,lab,c,lf⟩ = false := by
     have d := decide_eq_false hArc
     unfold unuF restM bareF
     simp only [Int.reduceEq,or_self,or_false,or_true,yal,yak,nzP00,nz00,d,yag,yaT,yah,List.length_nil,Int.natCast_zero,Int.ofNat_zero,hAt,hAs,dst,dra]
   have erc : (rc = 0) = False := eq_false hArc
   clear hArc
   rw [r]
   try simp -dsimp (maxSteps := 1000000) only [go_sem,↓reduceIte,yab,Tryz.f60,z,rt,rs,rl,bl,usesF,zAa,zAb,Int.reduceEq,Int.reduceLT,Int.reduceLE,Int.reduceToNat,yaH,yaI,hAt,hAs,est,era,erc]
 have drc := decide_eq_true hArc
 have erc : (rc = 0) = True := eq_true hArc
 by_cases hAp : (pts.length : Int) = 0
 rotate_left
 · have r : unuF ⟨3,(t1,t2),(s1,s2),lv,st,ra,rc,pts,lab,c,lf⟩ = false := by
     have d := decide_eq_false hAp
     unfold unuF restM bareF
     simp only [Int.reduceEq,or_self,or_false,or_true,yal,yak,nzP00,nz00,d,yag,yaT,yah,List.length_nil,Int.natCast_zero,Int.ofNat_zero,hAt,hAs,dst,dra,drc]
   have ep : ((0 : Int) < (pts.length : Int)) = True := eq_true (by omega)
   clear hAp
   rw [r]
   try simp -dsimp (maxSteps := 1000000) only [go_sem,↓reduceIte,yab,Tryz.f60,z,rt,rs,rl,bl,usesF,zAa,zAb,Int.reduceEq,Int.reduceLT,Int.reduceLE,Int.reduceToNat,yaH,yaI,hAt,hAs,est,era,erc,ep]
 have dp := decide_eq_true hAp
 have ep : ((0 : Int) < (pts.length : Int)) = False := eq_false (by omega)
 by_cases hAla : (lab.length : Int) = 0
 rotate_left
 · have r : unuF ⟨3,(t1,t2),(s1,s2),lv,st,ra,rc,pts,lab,c,lf⟩ = false := by
     have d := decide_eq_false hAla
     unfold unuF restM bareF
     simp only [Int.reduceEq,or_self,or_false,or_true,yal,yak,nzP00,nz00,d,yag,yaT,yah,List.length_nil,Int.natCast_zero,Int.ofNat_zero,hAt,hAs,dst,dra,drc,dp]
   have ela : ((0 : Int) < (lab.length : Int)) = True := eq_true (by omega)
   clear hAla
   rw [r]
   try simp -dsimp (maxSteps := 1000000) only [go_sem,↓reduceIte,yab,Tryz.f60,z,rt,rs,rl,bl,usesF,zAa,zAb,Int.reduceEq,Int.reduceLT,Int.reduceLE,Int.reduceToNat,yaH,yaI,hAt,hAs,est,era,erc,ep,ela]
 have dla := decide_eq_true hAla
 have ela : ((0 : Int) < (lab.length : Int)) = False := eq_false (by omega)
 by_cases hAc : c = 0
 rotate_left
 · have r : unuF ⟨3,(t1,t2),(s1,s2),lv,st,ra,rc,pts,lab,c,lf⟩ = false := by
     have d := decide_eq_false hAc
     unfold unuF restM bareF
     simp only [Int.reduceEq,or_self,or_false,or_true,yal,yak,nzP00,nz00,d,yag,yaT,yah,List.length_nil,Int.natCast_zero,Int.ofNat_zero,hAt,hAs,dst,dra,drc,dp,dla]
   have ec : (c = 0) = False := eq_false hAc
   clear hAc
   rw [r]
   try simp -dsimp (maxSteps := 1000000) only [go_sem,↓reduceIte,yab,Tryz.f60,z,rt,rs,rl,bl,usesF,zAa,zAb,Int.reduceEq,Int.reduceLT,Int.reduceLE,Int.reduceToNat,yaH,yaI,hAt,hAs,est,era,erc,ep,ela,ec]
 have dc := decide_eq_true hAc
 have ec : (c = 0) = True := eq_true hAc
 by_cases hAf : lf = 0
 rotate_left
 · have r : unuF ⟨3,(t1,t2),(s1,s2),lv,st,ra,rc,pts,lab,c,lf⟩ = false := by
     have d := decide_eq_false hAf
     unfold unuF restM bareF
     simp only [Int.reduceEq,or_self,or_false,or_true,yal,yak,nzP00,nz00,d,yag,yaT,yah,List.length_nil,Int.natCast_zero,Int.ofNat_zero,hAt,hAs,dst,dra,drc,dp,dla,dc]
   have ef : (lf = 0) = False := eq_false hAf
   clear hAf
   rw [r]
   try simp -dsimp (maxSteps := 1000000) only [go_sem,↓reduceIte,yab,Tryz.f60,z,rt,rs,rl,bl,usesF,zAa,zAb,Int.reduceEq,Int.reduceLT,Int.reduceLE,Int.reduceToNat,yaH,yaI,hAt,hAs,est,era,erc,ep,ela,ec,ef]
 have df := decide_eq_true hAf
 have ef : (lf = 0) = True := eq_true hAf
 have r : unuF ⟨3,(t1,t2),(s1,s2),lv,st,ra,rc,pts,lab,c,lf⟩ = true := by
   unfold unuF restM bareF
   simp only [Int.reduceEq,or_self,or_false,or_true,yal,yak,nzP00,nz00,yaD,yah,List.length_nil,Int.natCast_zero,Int.ofNat_zero,yaS,hAt,hAs,dst,dra,drc,dp,dla,dc,df]
 rw [r]
 try simp -dsimp (maxSteps := 1000000) only [go_sem,↓reduceIte,yab,Tryz.f60,z,rt,rs,rl,bl,usesF,zAa,zAb,Int.reduceEq,Int.reduceLT,Int.reduceLE,Int.reduceToNat,yaH,yaI,hAt,hAs,est,era,erc,ep,ela,ec,ef]
end Go.SX
namespace Go.SX
open Go Go.Proofs Ieee
theorem zPk1 : Law Tryz.prog 60 (zTm 4) := by
 refine zAi (zAc zDg (zAc zCh (zAc zAz zAf))) hmixA Tryz.func60 rfl rfl (fun ⟨⟨⟨k,⟨t1,t2⟩,⟨s1,s2⟩,lv,st,ra,rc,pts,lab,c,lf⟩,ok,w32,hkk⟩,hk⟩ => ⟨zAv rfl,by simp [Tryz.f60],?_⟩)
 simp only [modC] at hk ⊢
 have rt := zBe w32.turn.1 w32.turn.2
 have rs := zBe w32.state.1 w32.state.2
 have rl := zAs w32.level
 have bl : ((⟨(fsT lv).toArray⟩ : ByteArray).toList == (⟨#[48]⟩ : ByteArray).toList) = nz lv := (zAh (fsT lv) [48]).trans (zPy w32.level)
 simp only at rt rs rl
 clear ok w32 hkk
 subst hk
 have z := zDf (k := 4) (by simp)
 cases hAt : nzP (t1,t2) with
 | false =>
   have r : unuF ⟨4,(t1,t2),(s1,s2),lv,st,ra,rc,pts,lab,c,lf⟩ = false := by simp [unuF,restM,bareF,nzP00,nz00,hAt]
   rw [r]
   try simp -dsimp (maxSteps := 1000000) only [go_sem,↓reduceIte,yab,Tryz.f60,z,rt,rs,rl,bl,usesF,zAa,zAb,Int.reduceEq,Int.reduceLT,Int.reduceLE,Int.reduceToNat,yaH,yaI,hAt]
 | true =>
 cases hAs : nzP (s1,s2) with
 | false =>
   have r : unuF ⟨4,(t1,t2),(s1,s2),lv,st,ra,rc,pts,lab,c,lf⟩ = false := by simp [unuF,restM,bareF,nzP00,nz00,hAs,hAt]
   rw [r]
   try simp -dsimp (maxSteps := 1000000) only [go_sem,↓reduceIte,yab,Tryz.f60,z,rt,rs,rl,bl,usesF,zAa,zAb,Int.reduceEq,Int.reduceLT,Int.reduceLE,Int.reduceToNat,yaH,yaI,hAt,hAs]
 | true =>
 cases hAl : nz lv with
 | false =>
   have r : unuF ⟨4,(t1,t2),(s1,s2),lv,st,ra,rc,pts,lab,c,lf⟩ = false := by simp [unuF,restM,bareF,nzP00,nz00,hAl,hAt,hAs]
   rw [r]
   try simp -dsimp (maxSteps := 1000000) only [go_sem,↓reduceIte,yab,Tryz.f60,z,rt,rs,rl,bl,usesF,zAa,zAb,Int.reduceEq,Int.reduceLT,Int.reduceLE,Int.reduceToNat,yaH,yaI,hAt,hAs,hAl]
 | true =>
 by_cases hAp : (pts.length : Int) = 0
 rotate_left
 · have r : unuF ⟨4,(t1,t2),(s1,s2),lv,st,ra,rc,pts,lab,c,lf⟩ = false := by
     have d := decide_eq_false hAp
     unfold unuF restM bareF
     simp only [Int.reduceEq,or_self,or_false,or_true,yal,yak,nzP00,nz00,d,yag,yaT,yah,List.length_nil,Int.natCast_zero,Int.ofNat_zero,hAt,hAs,hAl]
   have ep : ((0 : Int) < (pts.length : Int)) = True := eq_true (by omega)
   clear hAp
   rw [r]
   try simp -dsimp (maxSteps := 1000000) only [go_sem,↓reduceIte,yab,Tryz.f60,z,rt,rs,rl,bl,usesF,zAa,zAb,Int.reduceEq,Int.reduceLT,Int.reduceLE,Int.reduceToNat,yaH,yaI,hAt,hAs,hAl,ep]
 have dp := decide_eq_true hAp
 have ep : ((0 : Int) < (pts.length : Int)) = False := eq_false (by omega)
 by_cases hAla : (lab.length : Int) = 0
 rotate_left
 · have r : unuF ⟨4,(t1,t2),(s1,s2),lv,st,ra,rc,pts,lab,c,lf⟩ = false := by
     have d := decide_eq_false hAla
     unfold unuF restM bareF
     simp only [Int.reduceEq,or_self,or_false,or_true,yal,yak,nzP00,nz00,d,yag,yaT,yah,List.length_nil,Int.natCast_zero,Int.ofNat_zero,hAt,hAs,hAl,dp]
   have ela : ((0 : Int) < (lab.length : Int)) = True := eq_true (by omega)
   clear hAla
   rw [r]
   try simp -dsimp (maxSteps := 1000000) only [go_sem,↓reduceIte,yab,Tryz.f60,z,rt,rs,rl,bl,usesF,zAa,zAb,Int.reduceEq,Int.reduceLT,Int.reduceLE,Int.reduceToNat,yaH,yaI,hAt,hAs,hAl,ep,ela]
 have dla := decide_eq_true hAla
 have ela : ((0 : Int) < (lab.length : Int)) = False := eq_false (by omega)
 by_cases hAc : c = 0
 rotate_left
 · have r : unuF ⟨4,(t1,t2),(s1,s2),lv,st,ra,rc,pts,lab,c,lf⟩ = false := by
     have d := decide_eq_false hAc
     unfold unuF restM bareF
     simp only [Int.reduceEq,or_self,or_false,or_true,yal,yak,nzP00,nz00,d,yag,yaT,yah,List.length_nil,Int.natCast_zero,Int.ofNat_zero,hAt,hAs,hAl,dp,dla]
   have ec : (c = 0) = False := eq_false hAc
   clear hAc
   rw [r]
   try simp -dsimp (maxSteps := 1000000) only [go_sem,↓reduceIte,yab,Tryz.f60,z,rt,rs,rl,bl,usesF,zAa,zAb,Int.reduceEq,Int.reduceLT,Int.reduceLE,Int.reduceToNat,yaH,yaI,hAt,hAs,hAl,ep,ela,ec]
 have dc := decide_eq_true hAc
 have ec : (c = 0) = True := eq_true hAc
 by_cases hAf : lf = 0
 rotate_left
 · have r : unuF ⟨4,(t1,t2),(s1,s2),lv,st,ra,rc,pts,lab,c,lf⟩ = false := by
     have d := decide_eq_false hAf
     unfold unuF restM bareF
     simp only [Int.reduceEq,or_self,or_false,or_true,yal,yak,nzP00,nz00,d,yag,yaT,yah,List.length_nil,Int.natCast_zero,Int.ofNat_zero,hAt,hAs,hAl,dp,dla,dc]
   have ef : (lf = 0) = False := eq_false hAf
   clear hAf
   rw [r]
   try simp -dsimp (maxSteps := 1000000) only [go_sem,↓reduceIte,yab,Tryz.f60,z,rt,rs,rl,bl,usesF,zAa,zAb,Int.reduceEq,Int.reduceLT,Int.reduceLE,Int.reduceToNat,yaH,yaI,hAt,hAs,hAl,ep,ela,ec,ef]
 have df := decide_eq_true hAf
 have ef : (lf = 0) = True := eq_true hAf
 have r : unuF ⟨4,(t1,t2),(s1,s2),lv,st,ra,rc,pts,lab,c,lf⟩ = true := by
   unfold unuF restM bareF
   simp only [Int.reduceEq,or_self,or_false,or_true,yal,yak,nzP00,nz00,yaD,yah,List.length_nil,Int.natCast_zero,Int.ofNat_zero,yaS,hAt,hAs,hAl,dp,dla,dc,df]
 rw [r]
 try simp -dsimp (maxSteps := 1000000) only [go_sem,↓reduceIte,yab,Tryz.f60,z,rt,rs,rl,bl,usesF,zAa,zAb,Int.reduceEq,Int.reduceLT,Int.reduceLE,Int.reduceToNat,yaH,yaI,hAt,hAs,hAl,ep,ela,ec,ef]
end Go.SX
namespace Go.SX
open Go Go.Proofs Ieee
theorem zPj1 : Law Tryz.prog 60 (zTm 5) := by
 refine zAi (zAc zDg (zAc zCh (zAc zAz zAf))) hmixA Tryz.func60 rfl rfl (fun ⟨⟨⟨k,⟨t1,t2⟩,⟨s1,s2⟩,lv,st,ra,rc,pts,lab,c,lf⟩,ok,w32,hkk⟩,hk⟩ => ⟨zAv rfl,by simp [Tryz.f60],?_⟩)
 simp only [modC] at hk ⊢
 have rt := zBe w32.turn.1 w32.turn.2
 have rs := zBe w32.state.1 w32.state.2
 have rl := zAs w32.level
 have bl : ((⟨(fsT lv).toArray⟩ : ByteArray).toList == (⟨#[48]⟩ : ByteArray).toList) = nz lv := (zAh (fsT lv) [48]).trans (zPy w32.level)
 simp only at rt rs rl
 clear ok w32 hkk
 subst hk
 have z := zDf (k := 5) (by simp)
 cases hAt : nzP (t1,t2) with
 | false =>
   have r : unuF ⟨5,(t1,t2),(s1,s2),lv,st,ra,rc,pts,lab,c,lf⟩ = false := by simp [unuF,restM,bareF,nzP00,nz00,hAt]
   rw [r]
   try simp -dsimp (maxSteps := 1000000) only [go_sem,↓reduceIte,yab,Tryz.f60,z,rt,rs,rl,bl,usesF,zAa,zAb,Int.reduceEq,Int.reduceLT,Int.reduceLE,Int.reduceToNat,yaH,yaI,hAt]
 | true =>
 cases hAs : nzP (s1,s2) with
 | false =>
   have r : unuF ⟨5,(t1,t2),(s1,s2),lv,st,ra,rc,pts,lab,c,lf⟩ = false := by simp [unuF,restM,bareF,nzP00,nz00,hAs,hAt]
   rw [r]
   try simp -dsimp (maxSteps := 1000000) only [go_sem,↓reduceIte,yab,Tryz.f60,z,rt,rs,rl,bl,usesF,zAa,zAb,Int.reduceEq,Int.reduceLT,Int.reduceLE,Int.reduceToNat,yaH,yaI,hAt,hAs]
 | true =>
 cases hAl : nz lv with
 | false =>
   have r : unuF ⟨5,(t1,t2),(s1,s2),lv,st,ra,rc,pts,lab,c,lf⟩ = false := by simp [unuF,restM,bareF,nzP00,nz00,hAl,hAt,hAs]
   rw [r]
   try simp -dsimp (maxSteps := 1000000) only [go_sem,↓reduceIte,yab,Tryz.f60,z,rt,rs,rl,bl,usesF,zAa,zAb,Int.reduceEq,Int.reduceLT,Int.reduceLE,Int.reduceToNat,yaH,yaI,hAt,hAs,hAl]
 | true =>
 by_cases hAst : (st.length : Int) = 0
 rotate_left
 · have r : unuF ⟨5,(t1,t2),(s1,s2),lv,st,ra,rc,pts,lab,c,lf⟩ = false := by
     have d := decide_eq_false hAst
     unfold unuF restM bareF
     simp only [Int.reduceEq,or_self,or_false,or_true,yal,yak,nzP00,nz00,d,yag,yaT,yah,List.length_nil,Int.natCast_zero,Int.ofNat_zero,hAt,hAs,hAl]
   have est : ((0 : Int) < (st.length : Int)) = True := eq_true (by omega)
   clear hAst
   rw [r]
   try simp -dsimp (maxSteps := 1000000) only [go_sem,↓reduceIte,yab,Tryz.f60,z,rt,rs,rl,bl,usesF,zAa,zAb,Int.reduceEq,Int.reduceLT,Int.reduceLE,Int.reduceToNat,yaH,yaI,hAt,hAs,hAl,est]
 have dst := decide_eq_true hAst
 have est : ((0 : Int) < (st.length : Int)) = False := eq_false (by omega)
 by_cases hAra : ra = 0
 rotate_left
 · have r : unuF ⟨5,(t1,t2),(s1,s2),lv,st,ra,rc,pts,lab,c,lf⟩ = false := by
     have d := decide_eq_false hAra
     unfold unuF restM bareF
     simp only [Int.reduceEq,or_self,or_false,or_true,yal,yak,nzP00,nz00,d,yag,yaT,yah,List.length_nil,Int.natCast_zero,Int.ofNat_zero,hAt,hAs,hAl,dst]
   have era : (ra = 0) = False := eq_false hAra
   clear hAra
   rw [r]
   try simp -dsimp (maxSteps := 1000000) only [go_sem,↓reduceIte,yab,Tryz.f60,z,rt,rs,rl,bl,usesF,zAa,zAb,Int.reduceEq,Int.reduceLT,Int.reduceLE,Int.reduceToNat,yaH,yaI,hAt,hAs,hAl,est,era]
 have dra := decide_eq_true hAra
 have era : (ra = 0) = True := eq_true hAra
 by_cases hArc : rc = 0
 rotate_left
 · have r : unuF ⟨5,(t1,t2),(s1,s2),lv,st,ra,rc,pts,lab,c,lf⟩ = false := by
     have d := decide_eq_false hArc
     unfold unuF restM bareF
     simp only [Int.reduceEq,or_self,or_false,or_true,yal,yak,nzP00,nz00,d,yag,yaT,yah,List.length_nil,Int.natCast_zero,Int.ofNat_zero,hAt,hAs,hAl,dst,dra]
   have erc : (rc = 0) = False := eq_false hArc
   clear hArc
   rw [r]
   try simp -dsimp (maxSteps := 1000000) only [go_sem,↓reduceIte,yab,Tryz.f60,z,rt,rs,rl,bl,usesF,zAa,zAb,Int.reduceEq,Int.reduceLT,Int.reduceLE,Int.reduceToNat,yaH,yaI,hAt,hAs,hAl,est,era,erc]
 have drc := decide_eq_true hArc
 have erc : (rc = 0) = True := eq_true hArc
 by_cases hAp : (pts.length : Int) = 0
 rotate_left
 · have r : unuF ⟨5,(t1,t2),(s1,s2),lv,st,ra,rc,pts,lab,c,lf⟩ = false := by
     have d := decide_eq_false hAp
     unfold unuF restM bareF
     simp only [Int.reduceEq,or_self,or_false,or_true,yal,yak,nzP00,nz00,d,yag,yaT,yah,List.length_nil,Int.natCast_zero,Int.ofNat_zero,hAt,hAs,hAl,dst,dra,drc]
   have ep : ((0 : Int) < (pts.length : Int)) = True := eq_true (by omega)
   clear hAp
   rw [r]
   try simp -dsimp (maxSteps := 1000000) only [go_sem,↓reduceIte,yab,Tryz.f60,z,rt,rs,rl,bl,usesF,zAa,zAb,Int.reduceEq,Int.reduceLT,Int.reduceLE,Int.reduceToNat,yaH,yaI,hAt,hAs,hAl,est,era,erc,ep]
 have dp := decide_eq_true hAp
 have ep : ((0 : Int) < (pts.length : Int)) = False := eq_false (by omega)
 by_cases hAla : (lab.length : Int) = 0
 rotate_left
 · have r : unuF ⟨5,(t1,t2),(s1,s2),lv,st,ra,rc,pts,lab,c,lf⟩ = false := by
     have d := decide_eq_false hAla
     unfold unuF restM bareF
     simp only [Int.reduceEq,or_self,or_false,or_true,yal,yak,nzP00,nz00,d,yag,yaT,yah,List.length_nil,Int.natCast_zero,Int.ofNat_zero,hAt,hAs,hAl,dst,dra,drc,dp]
   have ela : ((0 : Int) < (lab.length : Int)) = True := eq_true (by omega)
   clear hAla
   rw [r]
   try simp -dsimp (maxSteps := 1000000) only [go_sem,↓reduceIte,yab,Tryz.f60,z,rt,rs,rl,bl,usesF,zAa,zAb,Int.reduceEq,Int.reduceLT,Int.reduceLE,Int.reduceToNat,yaH,yaI,hAt,hAs,hAl,est,era,erc,ep,ela]
 have dla := decide_eq_true hAla
 have ela : ((0 : Int) < (lab.length : Int)) = False := eq_false (by omega)
 by_cases hAc : c = 0
 rotate_left
 · have r : unuF ⟨5,(t1,t2),(s1,s2),lv,st,ra,rc,pts,lab,c,lf⟩ = false := by
     have d := decide_eq_false hAc
     unfold unuF restM bareF
     simp only [Int.reduceEq,or_self,or_false,or_true,yal,yak,nzP00,nz00,d,yag,yaT,yah,List.length_nil,Int.natCast_zero,Int.ofNat_zero,hAt,hAs,hAl,dst,dra,drc,dp,dla]
   have ec : (c = 0) = False := eq_false hAc
   clear hAc
   rw [r]
   try simp -dsimp (maxSteps := 1000000) only [go_sem,↓reduceIte,yab,Tryz.f60,z,rt,rs,rl,bl,usesF,zAa,zAb,Int.reduceEq,Int.reduceLT,Int.reduceLE,Int.reduceToNat,yaH,yaI,hAt,hAs,hAl,est,era,erc,ep,ela,ec]
 have dc := decide_eq_true hAc
 have ec : (c = 0) = True := eq_true hAc
 by_cases hAf : lf = 0
 rotate_left
 · have r : unuF ⟨5,(t1,t2),(s1,s2),lv,st,ra,rc,pts,lab,c,lf⟩ = false := by
     have d := decide_eq_false hAf
     unfold unuF restM bareF
     simp only [Int.reduceEq,or_self,or_false,or_true,yal,yak,nzP00,nz00,d,yag,yaT,yah,List.length_nil,Int.natCast_zero,Int.ofNat_zero,hAt,hAs,hAl,dst,dra,drc,dp,dla,dc]
   have ef : (lf = 0) = False := eq_false hAf
   clear hAf
   rw [r]
   try simp -dsimp (maxSteps := 1000000) only [go_sem,↓reduceIte,yab,Tryz.f60,z,rt,rs,rl,bl,usesF,zAa,zAb,Int.reduceEq,Int.reduceLT,Int.reduceLE,Int.reduceToNat,yaH,yaI,hAt,hAs,hAl,est,era,erc,ep,ela,ec,ef]
 have df := decide_eq_true hAf
 have ef : (lf = 0) = True := eq_true hAf
 have r : unuF ⟨5,(t1,t2),(s1,s2),lv,st,ra,rc,pts,lab,c,lf⟩ = true := by
   unfold unuF restM bareF
   simp only [Int.reduceEq,or_self,or_false,or_true,yal,yak,nzP00,nz00,yaD,yah,List.length_nil,Int.natCast_zero,Int.ofNat_zero,yaS,hAt,hAs,hAl,dst,dra,drc,dp,dla,dc,df]
 rw [r]
 try simp -dsimp (maxSteps := 1000000) only [go_sem,↓reduceIte,yab,Tryz.f60,z,rt,rs,rl,bl,usesF,zAa,zAb,Int.reduceEq,Int.reduceLT,Int.reduceLE,Int.reduceToNat,yaH,yaI,hAt,hAs,hAl,est,era,erc,ep,ela,ec,ef]
end Go.SX
namespace Go.SX
open Go Go.Proofs Ieee
theorem zPi1 : Law Tryz.prog 60 (zTm 6) := by
 refine zAi (zAc zDg (zAc zCh (zAc zAz zAf))) hmixA Tryz.func60 rfl rfl (fun ⟨⟨⟨k,⟨t1,t2⟩,⟨s1,s2⟩,lv,st,ra,rc,pts,lab,c,lf⟩,ok,w32,hkk⟩,hk⟩ => ⟨zAv rfl,by simp [Tryz.f60],?_⟩)
 simp only [modC] at hk ⊢
 have rt := zBe w32.turn.1 w32.turn.2
 have rs := zBe w32.state.1 w32.state.2
 have rl := zAs w32.level
 have bl : ((⟨(fsT lv).toArray⟩ : ByteArray).toList == (⟨#[48]⟩ : ByteArray).toList) = nz lv := (zAh (fsT lv) [48]).trans (zPy w32.level)
 simp only at rt rs rl
 clear ok w32 hkk
 subst hk
 have z := zDf (k := 6) (by simp)
 cases hAt : nzP (t1,t2) with
 | false =>
   have r : unuF ⟨6,(t1,t2),(s1,s2),lv,st,ra,rc,pts,lab,c,lf⟩ = false := by simp [unuF,restM,bareF,nzP00,nz00,hAt]
   rw [r]
   try simp -dsimp (maxSteps := 1000000) only [go_sem,↓reduceIte,yab,Tryz.f60,z,rt,rs,rl,bl,usesF,zAa,zAb,Int.reduceEq,Int.reduceLT,Int.reduceLE,Int.reduceToNat,yaH,yaI,hAt]
 | true =>
 cases hAs : nzP (s1,s2) with
 | false =>
   have r : unuF ⟨6,(t1,t2),(s1,s2),lv,st,ra,rc,pts,lab,c,lf⟩ = false := by simp [unuF,restM,bareF,nzP00,nz00,hAs,hAt]
   rw [r]
   try simp -dsimp (maxSteps := 1000000) only [go_sem,↓reduceIte,yab,Tryz.f60,z,rt,rs,rl,bl,usesF,zAa,zAb,Int.reduceEq,Int.reduceLT,Int.reduceLE,Int.reduceToNat,yaH,yaI,hAt,hAs]
 | true =>
 cases hAl : nz lv with
 | false =>
   have r : unuF ⟨6,(t1,t2),(s1,s2),lv,st,ra,rc,pts,lab,c,lf⟩ = false := by simp [unuF,restM,bareF,nzP00,nz00,hAl,hAt,hAs]
   rw [r]
   try simp -dsimp (maxSteps := 1000000) only [go_sem,↓reduceIte,yab,Tryz.f60,z,rt,rs,rl,bl,usesF,zAa,zAb,Int.reduceEq,Int.reduceLT,Int.reduceLE,Int.reduceToNat,yaH,yaI,hAt,hAs,hAl]
 | true =>
 by_cases hAst : (st.length : Int) = 0
 rotate_left
 · have r : unuF ⟨6,(t1,t2),(s1,s2),lv,st,ra,rc,pts,lab,c,lf⟩ = false := by
     have d := decide_eq_false hAst
     unfold unuF restM bareF
     simp only [Int.reduceEq,or_self,or_false,or_true,yal,yak,nzP00,nz00,d,yag,yaT,yah,List.length_nil,Int.natCast_zero,Int.ofNat_zero,hAt,hAs,hAl]
   have est : ((0 : Int) < (st.length : Int)) = True := eq_true (by omega)
   clear hAst
   rw [r]
   try simp -dsimp (maxSteps := 1000000) only [go_sem,↓reduceIte,yab,Tryz.f60,z,rt,rs,rl,bl,usesF,zAa,zAb,Int.reduceEq,Int.reduceLT,Int.reduceLE,Int.reduceToNat,yaH,yaI,hAt,hAs,hAl,est]
 have dst := decide_eq_true hAst
 have est : ((0 : Int) < (st.length : Int)) = False := eq_false (by omega)
 by_cases hAra : ra = 0
 rotate_left
 · have r : unuF ⟨6,(t1,t2),(s1,s2),lv,st,ra,rc,pts,lab,c,lf⟩ = false := by
     have d := decide_eq_false hAra
     unfold unuF restM bareF
     simp only [Int.reduceEq,or_self,or_false,or_true,yal,yak,nzP00,nz00,d,yag,yaT,yah,List.length_nil,Int.natCast_zero,Int.ofNat_zero,hAt,hAs,hAl,dst]
   have era : (ra = 0) = False := eq_false hAra
   clear hAra
   rw [r]
   try simp -dsimp (maxSteps := 1000000) only [go_sem,↓reduceIte,yab,Tryz.f60,z,rt,rs,rl,bl,usesF,zAa,zAb,Int.reduceEq,Int.reduceLT,Int.reduceLE,Int.reduceToNat,yaH,yaI,hAt,hAs,hAl,est,era]
 have dra := decide_eq_true hAra
 have era : (ra = 0) = True := eq_true hAra
 by_cases hArc : rc = 0
 rotate_left
 · have r : unuF ⟨6,(t1,t2),(s1,s2),lv,st,ra,rc,pts,lab,c,lf⟩ = false := by
     have d := decide_eq_false hArc
     unfold unuF restM bareF
     simp only [Int.reduceEq,or_self,or_false,or_true,yal,yak,nzP00,nz00,d,yag,yaT,yah,List.length_nil,Int.natCast_zero,Int.ofNat_zero,hAt,hAs,hAl,dst,dra]
   have erc : (rc = 0) = False := eq_false hArc
   clear hArc
   rw [r]
   try simp -dsimp (maxSteps := 1000000) only [go_sem,↓reduceIte,yab,Tryz.f60,z,rt,rs,rl,bl,usesF,zAa,zAb,Int.reduceEq,Int.reduceLT,Int.reduceLE,Int.reduceToNat,yaH,yaI,hAt,hAs,hAl,est,era,erc]
 have drc := decide_eq_true hArc
 have erc : (rc = 0) = True := eq_true hArc
 by_cases hAf : lf = 0
 rotate_left
 · have r : unuF ⟨6,(t1,t2),(s1,s2),lv,st,ra,rc,pts,lab,c,lf⟩ = false := by
     have d := decide_eq_false hAf
     unfold unuF restM bareF
     simp only [Int.reduceEq,or_self,or_false,or_true,yal,yak,nzP00,nz00,d,yag,yaT,yah,List.length_nil,Int.natCast_zero,Int.ofNat_zero,hAt,hAs,hAl,dst,dra,drc]
   have ef : (lf = 0) = False := eq_false hAf
   clear hAf
   rw [r]
   try simp -dsimp (maxSteps := 1000000) only [go_sem,↓reduceIte,yab,Tryz.f60,z,rt,rs,rl,bl,usesF,zAa,zAb,Int.reduceEq,Int.reduceLT,Int.reduceLE,Int.reduceToNat,yaH,yaI,hAt,hAs,hAl,est,era,erc,ef]
 have df := decide_eq_true hAf
 have ef : (lf = 0) = True := eq_true hAf
 have r : unuF ⟨6,(t1,t2),(s1,s2),lv,st,ra,rc,pts,lab,c,lf⟩ = true := by
   unfold unuF restM bareF
   simp only [Int.reduceEq,or_self,or_false,or_true,yal,yak,nzP00,nz00,yaD,yah,List.length_nil,Int.natCast_zero,Int.ofNat_zero,yaS,hAt,hAs,hAl,dst,dra,drc,df]
 rw [r]
 try simp -dsimp (maxSteps := 1000000) only [go_sem,↓reduceIte,yab,Tryz.f60,z,rt,rs,rl,bl,usesF,zAa,zAb,Int.reduceEq,Int.reduceLT,Int.reduceLE,Int.reduceToNat,yaH,yaI,hAt,hAs,hAl,est,era,erc,ef]
end Go.SX
namespace Go.SX
open Go Go.Proofs Ieee
theorem zPh1 : Law Tryz.prog 60 (zTm 7) := by
 refine zAi (zAc zDg (zAc zCh (zAc zAz zAf))) hmixA Tryz.func60 rfl rfl (fun ⟨⟨⟨k,⟨t1,t2⟩,⟨s1,s2⟩,lv,st,ra,rc,pts,lab,c,lf⟩,ok,w32,hkk⟩,hk⟩ => ⟨zAv rfl,by simp [Tryz.f60],?_⟩)
 simp only [modC] at hk ⊢
 have rt := zBe w32.turn.1 w32.turn.2
 have rs := zBe w32.state.1 w32.state.2
 have rl := zAs w32.level
 have bl : ((⟨(fsT lv).toArray⟩ : ByteArray).toList == (⟨#[48]⟩ : ByteArray).toList) = nz lv := (zAh (fsT lv) [48]).trans (zPy w32.level)
 simp only at rt rs rl
 clear ok w32 hkk
 subst hk
 have z := zDf (k := 7) (by simp)
 cases hAt : nzP (t1,t2) with
 | false =>
   have r : unuF ⟨7,(t1,t2),(s1,s2),lv,st,ra,rc,pts,lab,c,lf⟩ = false := by simp [unuF,restM,bareF,nzP00,nz00,hAt]
   rw [r]
   try simp -dsimp (maxSteps := 1000000) only [go_sem,↓reduceIte,yab,Tryz.f60,z,rt,rs,rl,bl,usesF,zAa,zAb,Int.reduceEq,Int.reduceLT,Int.reduceLE,Int.reduceToNat,yaH,yaI,hAt]
 | true =>
 cases hAs : nzP (s1,s2) with
 | false =>
   have r : unuF ⟨7,(t1,t2),(s1,s2),lv,st,ra,rc,pts,lab,c,lf⟩ = false := by simp [unuF,restM,bareF,nzP00,nz00,hAs,hAt]
   rw [r]
   try simp -dsimp (maxSteps := 1000000) only [go_sem,↓reduceIte,yab,Tryz.f60,z,rt,rs,rl,bl,usesF,zAa,zAb,Int.reduceEq,Int.reduceLT,Int.reduceLE,Int.reduceToNat,yaH,yaI,hAt,hAs]
 | true =>
 by_cases hAst : (st.length : Int) = 0
 rotate_left
 · have r : unuF ⟨7,(t1,t2),(s1,s2),lv,st,ra,rc,pts,lab,c,lf⟩ = false := by
     have d := decide_eq_false hAst
     unfold unuF restM bareF
     simp only [Int.reduceEq,or_self,or_false,or_true,yal,yak,nzP00,nz00,d,yag,yaT,yah,List.length_nil,Int.natCast_zero,Int.ofNat_zero,hAt,hAs]
   have est : ((0 : Int) < (st.length : Int)) = True := eq_true (by omega)
   clear hAst
   rw [r]
   try simp -dsimp (maxSteps := 1000000) only [go_sem,↓reduceIte,yab,Tryz.f60,z,rt,rs,rl,bl,usesF,zAa,zAb,Int.reduceEq,Int.reduceLT,Int.reduceLE,Int.reduceToNat,yaH,yaI,hAt,hAs,est]
 have dst := decide_eq_true hAst
 have est : ((0 : Int) < (st.length : Int)) = False := eq_false (by omega)
 by_cases hAra : ra = 0
 rotate_left
 · have r : unuF ⟨7,(t1,t2),(s1,s2),lv,st,ra,rc,pts,lab,c,lf⟩ = false := by
     have d := decide_eq_false hAra
     unfold unuF restM bareF
     simp only [Int.reduceEq,or_self,or_false,or_true,yal,yak,nzP00,nz00,d,yag,yaT,yah,List.length_nil,Int.natCast_zero,Int.ofNat_zero,hAt,hAs,dst]
   have era : (ra = 0) = False := eq_false hAra
   clear hAra
   rw [r]
   try simp -dsimp (maxSteps := 1000000) only [go_sem,↓reduceIte,yab,Tryz.f60,z,rt,rs,rl,bl,usesF,zAa,zAb,Int.reduceEq,Int.reduceLT,Int.reduceLE,Int.reduceToNat,yaH,yaI,hAt,hAs,est,era]
 have dra := decide_eq_true hAra
 have era : (ra = 0) = True := eq_true hAra
 by_cases hArc : rc = 0
 rotate_left
 · have r : unuF ⟨7,(t1,t2),(s1,s2),lv,st,ra,rc,pts,lab,c,lf⟩ = false := by
     have d := decide_eq_false hArc
     unfold unuF restM bareF
     simp only [Int.reduceEq,or_self,or_false,or_true,yal,yak,nzP00,nz00,d,yag,yaT,yah,List.length_nil,Int.natCast_zero,Int.ofNat_zero,hAt,hAs,dst,dra]
   have erc : (rc = 0) = False := eq_false hArc
   clear hArc
   rw [r]
   try simp -dsimp (maxSteps := 1000000) only [go_sem,↓reduceIte,yab,Tryz.f60,z,rt,rs,rl,bl,usesF,zAa,zAb,Int.reduceEq,Int.reduceLT,Int.reduceLE,Int.reduceToNat,yaH,yaI,hAt,hAs,est,era,erc]
 have drc := decide_eq_true hArc
 have erc : (rc = 0) = True := eq_true hArc
 by_cases hAp : (pts.length : Int) = 0
 rotate_left
 · have r : unuF ⟨7,(t1,t2),(s1,s2),lv,st,ra,rc,pts,lab,c,lf⟩ = false := by
     have d := decide_eq_false hAp
     unfold unuF restM bareF
     simp only [Int.reduceEq,or_self,or_false,or_true,yal,yak,nzP00,nz00,d,yag,yaT,yah,List.length_nil,Int.natCast_zero,Int.ofNat_zero,hAt,hAs,dst,dra,drc]
   have ep : ((0 : Int) < (pts.length : Int)) = True := eq_true (by omega)
   clear hAp
   rw [r]
   try simp -dsimp (maxSteps := 1000000) only [go_sem,↓reduceIte,yab,Tryz.f60,z,rt,rs,rl,bl,usesF,zAa,zAb,Int.reduceEq,Int.reduceLT,Int.reduceLE,Int.reduceToNat,yaH,yaI,hAt,hAs,est,era,erc,ep]
 have dp := decide_eq_true hAp
 have ep : ((0 : Int) < (pts.length : Int)) = False := eq_false (by omega)
 by_cases hAla : (lab.length : Int) = 0
 rotate_left
 · have r : unuF ⟨7,(t1,t2),(s1,s2),lv,st,ra,rc,pts,lab,c,lf⟩ = false := by
     have d := decide_eq_false hAla
     unfold unuF restM bareF
     simp only [Int.reduceEq,or_self,or_false,or_true,yal,yak,nzP00,nz00,d,yag,yaT,yah,List.length_nil,Int.natCast_zero,Int.ofNat_zero,hAt,hAs,dst,dra,drc,dp]
   have ela : ((0 : Int) < (lab.length : Int)) = True := eq_true (by omega)
   clear hAla
   rw [r]
   try simp -dsimp (maxSteps := 1000000) only [go_sem,↓reduceIte,yab,Tryz.f60,z,rt,rs,rl,bl,usesF,zAa,zAb,Int.reduceEq,Int.reduceLT,Int.reduceLE,Int.reduceToNat,yaH,yaI,hAt,hAs,est,era,erc,ep,ela]
 have dla := decide_eq_true hAla
 have ela : ((0 : Int) < (lab.length : Int)) = False := eq_false (by omega)
 by_cases hAc : c = 0
 rotate_left
 · have r : unuF ⟨7,(t1,t2),(s1,s2),lv,st,ra,rc,pts,lab,c,lf⟩ = false := by
     have d := decide_eq_false hAc
     unfold unuF restM bareF
     simp only [Int.reduceEq,or_self,or_false,or_true,yal,yak,nzP00,nz00,d,yag,yaT,yah,List.length_nil,Int.natCast_zero,Int.ofNat_zero,hAt,hAs,dst,dra,drc,dp,dla]
   have ec : (c = 0) = False := eq_false hAc
   clear hAc
   rw [r]
   try simp -dsimp (maxSteps := 1000000) only [go_sem,↓reduceIte,yab,Tryz.f60,z,rt,rs,rl,bl,usesF,zAa,zAb,Int.reduceEq,Int.reduceLT,Int.reduceLE,Int.reduceToNat,yaH,yaI,hAt,hAs,est,era,erc,ep,ela,ec]
 have dc := decide_eq_true hAc
 have ec : (c = 0) = True := eq_true hAc
 by_cases hAf : lf = 0
 rotate_left
 · have r : unuF ⟨7,(t1,t2),(s1,s2),lv,st,ra,rc,pts,lab,c,lf⟩ = false := by
     have d := decide_eq_false hAf
     unfold unuF restM bareF
     simp only [Int.reduceEq,or_self,or_false,or_true,yal,yak,nzP00,nz00,d,yag,yaT,yah,List.length_nil,Int.natCast_zero,Int.ofNat_zero,hAt,hAs,dst,dra,drc,dp,dla,dc]
   have ef : (lf = 0) = False := eq_false hAf
   clear hAf
   rw [r]
   try simp -dsimp (maxSteps := 1000000) only [go_sem,↓reduceIte,yab,Tryz.f60,z,rt,rs,rl,bl,usesF,zAa,zAb,Int.reduceEq,Int.reduceLT,Int.reduceLE,Int.reduceToNat,yaH,yaI,hAt,hAs,est,era,erc,ep,ela,ec,ef]
 have df := decide_eq_true hAf
 have ef : (lf = 0) = True := eq_true hAf
 have r : unuF ⟨7,(t1,t2),(s1,s2),lv,st,ra,rc,pts,lab,c,lf⟩ = true := by
   unfold unuF restM bareF
   simp only [Int.reduceEq,or_self,or_false,or_true,yal,yak,nzP00,nz00,yaD,yah,List.length_nil,Int.natCast_zero,Int.ofNat_zero,yaS,hAt,hAs,dst,dra,drc,dp,dla,dc,df]
 rw [r]
 try simp -dsimp (maxSteps := 1000000) only [go_sem,↓reduceIte,yab,Tryz.f60,z,rt,rs,rl,bl,usesF,zAa,zAb,Int.reduceEq,Int.reduceLT,Int.reduceLE,Int.reduceToNat,yaH,yaI,hAt,hAs,est,era,erc,ep,ela,ec,ef]
end Go.SX
namespace Go.SX
open Go Go.Proofs Ieee
theorem zPg1 : Law Tryz.prog 60 (zTm 8) := by
 refine zAi (zAc zDg (zAc zCh (zAc zAz zAf))) hmixA Tryz.func60 rfl rfl (fun ⟨⟨⟨k,⟨t1,t2⟩,⟨s1,s2⟩,lv,st,ra,rc,pts,lab,c,lf⟩,ok,w32,hkk⟩,hk⟩ => ⟨zAv rfl,by simp [Tryz.f60],?_⟩)
 simp only [modC] at hk ⊢
 have rt := zBe w32.turn.1 w32.turn.2
 have rs := zBe w32.state.1 w32.state.2
 have rl := zAs w32.level
 have bl : ((⟨(fsT lv).toArray⟩ : ByteArray).toList == (⟨#[48]⟩ : ByteArray).toList) = nz lv := (zAh (fsT lv) [48]).trans (zPy w32.level)
 simp only at rt rs rl
 clear ok w32 hkk
 subst hk
 have z := zDf (k := 8) (by simp)
 cases hAt : nzP (t1,t2) with
 | false =>
   have r : unuF ⟨8,(t1,t2),(s1,s2),lv,st,ra,rc,pts,lab,c,lf⟩ = false := by simp [unuF,restM,bareF,nzP00,nz00,hAt]
   rw [r]
   try simp -dsimp (maxSteps := 1000000) only [go_sem,↓reduceIte,yab,Tryz.f60,z,rt,rs,rl,bl,usesF,zAa,zAb,Int.reduceEq,Int.reduceLT,Int.reduceLE,Int.reduceToNat,yaH,yaI,hAt]
 | true =>
 cases hAl : nz lv with
 | false =>
   have r : unuF ⟨8,(t1,t2),(s1,s2),lv,st,ra,rc,pts,lab,c,lf⟩ = false := by simp [unuF,restM,bareF,nzP00,nz00,hAl,hAt]
   rw [r]
   try simp -dsimp (maxSteps := 1000000) only [go_sem,↓reduceIte,yab,Tryz.f60,z,rt,rs,rl,bl,usesF,zAa,zAb,Int.reduceEq,Int.reduceLT,Int.reduceLE,Int.reduceToNat,yaH,yaI,hAt,hAl]
 | true =>
 by_cases hAst : (st.length : Int) = 0
 rotate_left
 · have r : unuF ⟨8,(t1,t2),(s1,s2),lv,st,ra,rc,pts,lab,c,lf⟩ = false := by
     have d := decide_eq_false hAst
     unfold unuF restM bareF
     simp only [Int.reduceEq,or_self,or_false,or_true,yal,yak,nzP00,nz00,d,yag,yaT,yah,List.length_nil,Int.natCast_zero,Int.ofNat_zero,hAt,hAl]
   have est : ((0 : Int) < (st.length : Int)) = True := eq_true (by omega)
   clear hAst
   rw [r]
   try simp -dsimp (maxSteps := 1000000) only [go_sem,↓reduceIte,yab,Tryz.f60,z,rt,rs,rl,bl,usesF,zAa,zAb,Int.reduceEq,Int.reduceLT,Int.reduceLE,Int.reduceToNat,yaH,yaI,hAt,hAl,est]
 have dst := decide_eq_true hAst
 have est : ((0 : Int) < (st.length : Int)) = False := eq_false (by omega)
 by_cases hAra : ra = 0
 rotate_left
 · have r : unuF ⟨8,(t1,t2),(s1,s2),lv,st,ra,rc,pts,lab,c,lf⟩ = false := by
     have d := decide_eq_false hAra
     unfold unuF restM bareF
     simp only [Int.reduceEq,or_self,or_false,or_true,yal,yak,nzP00,nz00,d,yag,yaT,yah,List.length_nil,Int.natCast_zero,Int.ofNat_zero,hAt,hAl,dst]
   have era : (ra = 0) = False := eq_false hAra
   clear hAra
   rw [r]
   try simp -dsimp (maxSteps := 1000000) only [go_sem,↓reduceIte,yab,Tryz.f60,z,rt,rs,rl,bl,usesF,zAa,zAb,Int.reduceEq,Int.reduceLT,Int.reduceLE,Int.reduceToNat,yaH,yaI,hAt,hAl,est,era]
 have dra := decide_eq_true hAra
 have era : (ra = 0) = True := eq_true hAra
 by_cases hArc : rc = 0
 rotate_left
 · have r : unuF ⟨8,(t1,t2),(s1,s2),lv,st,ra,rc,pts,lab,c,lf⟩ = false := by
     have d := decide_eq_false hArc
     unfold unuF restM bareF
     simp only [Int.reduceEq,or_self,or_false,or_true,yal,yak,nzP00,nz00,d,yag,yaT,yah,List.length_nil,Int.natCast_zero,Int.ofNat_zero,hAt,hAl,dst,dra]
   have erc : (rc = 0) = False := eq_false hArc
   clear hArc
   rw [r]
   try simp -dsimp (maxSteps := 1000000) only [go_sem,↓reduceIte,yab,Tryz.f60,z,rt,rs,rl,bl,usesF,zAa,zAb,Int.reduceEq,Int.reduceLT,Int.reduceLE,Int.reduceToNat,yaH,yaI,hAt,hAl,est,era,erc]
 have drc := decide_eq_true hArc
 have erc : (rc = 0) = True := eq_true hArc
 by_cases hAp : (pts.length : Int) = 0
 rotate_left
 · have r : unuF ⟨8,(t1,t2),(s1,s2),lv,st,ra,rc,pts,lab,c,lf⟩ = false := by
     have d := decide_eq_false hAp
     unfold unuF restM bareF
     simp only [Int.reduceEq,or_self,or_false,or_true,yal,yak,nzP00,nz00,d,yag,yaT,yah,List.length_nil,Int.natCast_zero,Int.ofNat_zero,hAt,hAl,dst,dra,drc]
   have ep : ((0 : Int) < (pts.length : Int)) = True := eq_true (by omega)
   clear hAp
   rw [r]
   try simp -dsimp (maxSteps := 1000000) only [go_sem,↓reduceIte,yab,Tryz.f60,z,rt,rs,rl,bl,usesF,zAa,zAb,Int.reduceEq,Int.reduceLT,Int.reduceLE,Int.reduceToNat,yaH,yaI,hAt,hAl,est,era,erc,ep]
 have dp := decide_eq_true hAp
 have ep : ((0 : Int) < (pts.length : Int)) = False := eq_false (by omega)
 by_cases hAla : (lab.length : Int) = 0
 rotate_left
 · have r : unuF ⟨8,(t1,t2),(s1,s2),lv,st,ra,rc,pts,lab,c,lf⟩ = false := by
     have d := decide_eq_false hAla
     unfold unuF restM bareF
     simp only [Int.reduceEq,or_self,or_false,or_true,yal,yak,nzP00,nz00,d,yag,yaT,yah,List.length_nil,Int.natCast_zero,Int.ofNat_zero,hAt,hAl,dst,dra,drc,dp]
   have ela : ((0 : Int) < (lab.length : Int)) = True := eq_true (by omega)
   clear hAla
   rw [r]
   try simp -dsimp (maxSteps := 1000000) only [go_sem,↓reduceIte,yab,Tryz.f60,z,rt,rs,rl,bl,usesF,zAa,zAb,Int.reduceEq,Int.reduceLT,Int.reduceLE,Int.reduceToNat,yaH,yaI,hAt,hAl,est,era,erc,ep,ela]
 have dla := decide_eq_true hAla
 have ela : ((0 : Int) < (lab.length : Int)) = False := eq_false (by omega)
 have r : unuF ⟨8,(t1,t2),(s1,s2),lv,st,ra,rc,pts,lab,c,lf⟩ = true := by
   unfold unuF restM bareF
   simp only [Int.reduceEq,or_self,or_false,or_true,yal,yak,nzP00,nz00,yaD,yah,List.length_nil,Int.natCast_zero,Int.ofNat_zero,yaS,hAt,hAl,dst,dra,drc,dp,dla]
 rw [r]
 try simp -dsimp (maxSteps := 1000000) only [go_sem,↓reduceIte,yab,Tryz.f60,z,rt,rs,rl,bl,usesF,zAa,zAb,Int.reduceEq,Int.reduceLT,Int.reduceLE,Int.reduceToNat,yaH,yaI,hAt,hAl,est,era,erc,ep,ela]
end Go.SX
namespace Go.SX
open Go Go.Proofs Ieee
theorem zSl : Law Tryz.prog 60 zHl := by
 refine zWf zGe1 (fun ds hs o ho => ?_)
 obtain ⟨x,hx⟩ : ∃ x : AUn,([D.agg (modC x.m)],([] : List (List B))) = (ds,hs) := by
   apply Classical.byContradiction
   intro hn
   have : zHl.run ds hs = none := dif_neg hn
   rw [this] at ho; cases ho
 injection hx with e1 e2
 subst e1; subst e2
 rw [zJk x] at ho
 have key : (zTm x.m.kind).run [D.agg (modC x.m)] [] = some o := by
   rw [← ho]
   exact zAd (args := fun y : { y : AUn // y.m.kind = x.m.kind } => ([D.agg (modC y.1.m)],[])) zQn1 ⟨x,rfl⟩
 rcases x.k with h | h | h | h | h | h | h | h <;> rw [h] at key
 · exact ⟨_,zGe1,rfl,key⟩
 · exact ⟨_,zPm1,rfl,key⟩
 · exact ⟨_,zPl1,rfl,key⟩
 · exact ⟨_,zPk1,rfl,key⟩
 · exact ⟨_,zPj1,rfl,key⟩
 · exact ⟨_,zPi1,rfl,key⟩
 · exact ⟨_,zPh1,rfl,key⟩
 · exact ⟨_,zPg1,rfl,key⟩
structure AMo where
 m : Mod
 ok : OkM m
 w : W32 m
noncomputable def zKc : Ct := fam true (fun x : AMo => ([.agg (modC x.m)],[])) (fun x => .one { val := .c (.im (.bool (isModuleF x.m))) })
theorem zIe (x : AMo) : zKc.run [.agg (modC x.m)] [] = some (.one { val := .c (.im (.bool (isModuleF x.m))) }) := by
 refine zAd (args := fun x : AMo => ([D.agg (modC x.m)],[])) ?_ x
 rintro ⟨a,_,_⟩ ⟨b,_,_⟩ h
 simp only [Prod.mk.injEq,List.cons.injEq,D.agg.injEq,and_true] at h
 have := zHu h
 subst this; rfl
end Go.SX
namespace Go.SX
open Go Go.Proofs Ieee
theorem zOq1 {w : Nat} (hw : w < 4294967296) (h : single.order w 0 = some .eq) : w = 0 ∨ w = 2147483648 := by
 have e1 : single.binade = 8388608 := by decide
 have e2 : single.infRung = 2139095040 := by decide
 have e5 : single.signWeight = 2147483648 := by decide
 have hz : single.read 0 = .number false 0 (-149) := by decide
 apply Classical.byContradiction
 intro hn
 have h0 : 0 < w % 2147483648 := by omega
 cases hr : single.read w with
 | nan s t => unfold Format.order at h; rw [hr,hz] at h; cases h
 | infinity s => unfold Format.order at h; rw [hr,hz] at h; cases s <;> cases h
 | number s m e =>
   have hx : w % 2147483648 < 2139095040 := by
     unfold Format.read at hr
     simp only [e1,e2,e5] at hr
     split at hr
     · omega
     · split at hr
       · assumption
       · split at hr <;> cases hr
   have q := zTh h0 hx (decide (2147483648 ≤ w))
   rw [← zRf hw] at q
   have : (single.order w 0 == some .eq) = false := q
   rw [h] at this
   cases this
theorem zKd1 {w : Nat} (hw : w < 4294967296) : (fcmp .geq .f32 w 0 && !(decide (fsT w = [45,48]))) = (nz w || fcmp .gtr .f32 w 0) := by
 rw [show decide (fsT w = [45,48]) = decide (w = 2147483648) from by simp only [zRw1 hw]]
 by_cases h0 : w = 0
 · subst h0; decide +kernel
 by_cases h1 : w = 2147483648
 · subst h1; decide +kernel
 have hz : nz w = false := by unfold nz; exact decide_eq_false (by omega)
 rw [hz,decide_eq_false h1]
 have hne : (single.order w 0 == some .eq) = false := by
   cases ho : single.order w 0 == some .eq with
   | false => rfl
   | true =>
     have := zOq1 hw (by simpa using ho)
     omega
 show ((single.order w 0 == some .gt || single.order w 0 == some .eq) && !false) = (false || (single.order w 0 == some .gt))
 rw [hne]; simp
theorem zIh : Law Tryz.prog 19 zKc := by
 refine zAi (zAc zSm (zAc zSl (zAc zVv (zAc zVu (zAc zAz zAf))))) hmixA Tryz.func19 rfl rfl (fun ⟨⟨k,⟨t1,t2⟩,⟨s1,s2⟩,lv,st,ra,rc,pts,lab,c,lf⟩,ok,w32⟩ => ⟨zAv rfl,by simp [Tryz.f19],?_⟩)
 simp only [modC]
 obtain ⟨o1,o2,o3⟩ := ok
 by_cases hk : k = 1 ∨ k = 2 ∨ k = 3 ∨ k = 4 ∨ k = 5 ∨ k = 6 ∨ k = 7 ∨ k = 8
 rotate_left
 · have c1 : (decide ((1 : Int) ≤ k) && decide (k ≤ 8)) = false := by simp; omega
   have r : isModuleF ⟨k,(t1,t2),(s1,s2),lv,st,ra,rc,pts,lab,c,lf⟩ = false := by
     simp only [not_or] at hk
     simp [isModuleF,hk]
   clear hk
   rw [r]
   try simp -dsimp (maxSteps := 1000000) only [go_sem,↓reduceIte,yab,Tryz.f19,zBk,c1,yaI]
 have c1 : (decide ((1 : Int) ≤ k) && decide (k ≤ 8)) = true := by simp; omega
 have hu := zJk ⟨⟨k,(t1,t2),(s1,s2),lv,st,ra,rc,pts,lab,c,lf⟩,⟨o1,o2,o3⟩,w32,hk⟩
 have bl : ((⟨(fsT lv).toArray⟩ : ByteArray).toList == (⟨#[45,48]⟩ : ByteArray).toList) = decide (fsT lv = [45,48]) := zAh (fsT lv) [45,48]
 have rl := zAs w32.level
 have hme := zKd1 w32.level
 have rr := zUq ra rc o1 w32.store
 have rtb := zIn o2 o3
 simp only [modC] at hu rl hme rr rtb o1 o2 o3 bl
 cases hU : unuF ⟨k,(t1,t2),(s1,s2),lv,st,ra,rc,pts,lab,c,lf⟩ with
 | false =>
   have r : isModuleF ⟨k,(t1,t2),(s1,s2),lv,st,ra,rc,pts,lab,c,lf⟩ = false := by
     rcases hk with rfl | rfl | rfl | rfl | rfl | rfl | rfl | rfl <;> simp only [unuF,restM,Int.reduceEq,or_self,or_false,or_true,yal,yak] at hU <;> simp [isModuleF,hU]
   rw [r]
   rw [hU] at hu
   clear hk
   try simp -dsimp (maxSteps := 1000000) only [go_sem,↓reduceIte,yab,Tryz.f19,zBk,c1,hu,yaI,yaH]
 | true =>
   rw [hU] at hu
   have key : ∀ K : Int,k = K → isModuleF ⟨k,(t1,t2),(s1,s2),lv,st,ra,rc,pts,lab,c,lf⟩ = (if K = 4 then isRingF st ra rc && decide (rc = (st.length : Int)) else if K = 6 then isTableF pts lab else if K = 7 then nz lv || fcmp .gtr .f32 lv 0 else if K = 8 then decide (1 ≤ c) && (decide (c ≤ 100) && (decide (0 ≤ lf) && decide (lf < c))) else true) := by
     rintro K rfl
     rcases hk with rfl | rfl | rfl | rfl | rfl | rfl | rfl | rfl <;> simp only [unuF,restM,Int.reduceEq,or_self,or_false,or_true,yal,yak] at hU <;> simp [isModuleF,hU]
   clear hU
   rcases hk with rfl | rfl | rfl | rfl | rfl | rfl | rfl | rfl
   · have key' := key 1 rfl
     simp only [Int.reduceEq,yal,yak] at key'
     rw [key']
     clear key key'
     try simp -dsimp (maxSteps := 1000000) only [go_sem,↓reduceIte,yab,Tryz.f19,zBk,hu,Int.reduceEq,Int.reduceLE,yaS,yaD,yaq,yah,yag,yaT,yaH,yaI,zAa]
   · have key' := key 2 rfl
     simp only [Int.reduceEq,yal,yak] at key'
     rw [key']
     clear key key'
     try simp -dsimp (maxSteps := 1000000) only [go_sem,↓reduceIte,yab,Tryz.f19,zBk,hu,Int.reduceEq,Int.reduceLE,yaS,yaD,yaq,yah,yag,yaT,yaH,yaI,zAa]
   · have key' := key 3 rfl
     simp only [Int.reduceEq,yal,yak] at key'
     rw [key']
     clear key key'
     try simp -dsimp (maxSteps := 1000000) only [go_sem,↓reduceIte,yab,Tryz.f19,zBk,hu,Int.reduceEq,Int.reduceLE,yaS,yaD,yaq,yah,yag,yaT,yaH,yaI,zAa]
   · have key' := key 4 rfl
     simp only [Int.reduceEq,yal,yak] at key'
     rw [key']
     clear key key'
     cases hR : isRingF st ra rc with
     | false =>
       rw [hR] at rr
       try simp -dsimp (maxSteps := 1000000) only [go_sem,↓reduceIte,yab,Tryz.f19,zBk,hu,Int.reduceEq,Int.reduceLE,yaS,yaD,yaq,yah,yag,yaT,yaH,yaI,zAa,rr]
     | true =>
       rw [hR] at rr
       by_cases hc : rc = (st.length : Int)
       · have e := eq_true hc
         rw [decide_eq_true hc]
         clear hc
         try simp -dsimp (maxSteps := 1000000) only [go_sem,↓reduceIte,yab,Tryz.f19,zBk,hu,Int.reduceEq,Int.reduceLE,yaS,yaD,yaq,yah,yag,yaT,yaH,yaI,zAa,rr,e]
       · have e := eq_false hc
         rw [decide_eq_false hc]
         clear hc
         try simp -dsimp (maxSteps := 1000000) only [go_sem,↓reduceIte,yab,Tryz.f19,zBk,hu,Int.reduceEq,Int.reduceLE,yaS,yaD,yaq,yah,yag,yaT,yaH,yaI,zAa,rr,e]
   · have key' := key 5 rfl
     simp only [Int.reduceEq,yal,yak] at key'
     rw [key']
     clear key key'
     try simp -dsimp (maxSteps := 1000000) only [go_sem,↓reduceIte,yab,Tryz.f19,zBk,hu,Int.reduceEq,Int.reduceLE,yaS,yaD,yaq,yah,yag,yaT,yaH,yaI,zAa]
   · have key' := key 6 rfl
     simp only [Int.reduceEq,yal,yak] at key'
     rw [key']
     clear key key'
     try simp -dsimp (maxSteps := 1000000) only [go_sem,↓reduceIte,yab,Tryz.f19,zBk,hu,Int.reduceEq,Int.reduceLE,yaS,yaD,yaq,yah,yag,yaT,yaH,yaI,zAa,rtb]
   · have key' := key 7 rfl
     simp only [Int.reduceEq,yal,yak] at key'
     rw [key']
     clear key key'
     rw [← hme]
     cases hg : fcmp .geq .f32 lv 0 with
     | false =>
       try simp -dsimp (maxSteps := 1000000) only [go_sem,↓reduceIte,yab,Tryz.f19,zBk,hu,Int.reduceEq,Int.reduceLE,yaS,yaD,yaq,yah,yag,yaT,yaH,yaI,zAa,hg]
     | true =>
       try simp -dsimp (maxSteps := 1000000) only [go_sem,↓reduceIte,yab,Tryz.f19,zBk,hu,Int.reduceEq,Int.reduceLE,yaS,yaD,yaq,yah,yag,yaT,yaH,yaI,zAa,hg,rl,bl]
   · have key' := key 8 rfl
     simp only [Int.reduceEq,yal,yak] at key'
     rw [key']
     clear key key'
     by_cases h1 : 1 ≤ c ∧ c ≤ 100
     · have c3 : (decide ((1 : Int) ≤ c) && decide (c ≤ 100)) = true := by simp; omega
       have w1 : IntKind.i64.wrap (c - 1) = c - 1 := zAg (by omega) (by omega)
       have e : (decide (1 ≤ c) && (decide (c ≤ 100) && (decide (0 ≤ lf) && decide (lf < c)))) = (decide ((0 : Int) ≤ lf) && decide (lf ≤ c - 1)) := by
         rw [decide_eq_true h1.1,decide_eq_true h1.2,Bool.true_and,Bool.true_and]
         congr 1
         exact decide_eq_decide.2 (by omega)
       rw [e]
       clear h1
       try simp -dsimp (maxSteps := 1000000) only [go_sem,↓reduceIte,yab,Tryz.f19,zBk,hu,Int.reduceEq,Int.reduceLE,yaS,yaD,yaq,yah,yag,yaT,yaH,yaI,zAa,c3,w1]
     · have c3 : (decide ((1 : Int) ≤ c) && decide (c ≤ 100)) = false := by simp; omega
       have e : (decide (1 ≤ c) && (decide (c ≤ 100) && (decide (0 ≤ lf) && decide (lf < c)))) = false := by rw [← Bool.and_assoc,c3]; rfl
       rw [e]
       clear h1
       try simp -dsimp (maxSteps := 1000000) only [go_sem,↓reduceIte,yab,Tryz.f19,zBk,hu,Int.reduceEq,Int.reduceLE,yaS,yaD,yaq,yah,yag,yaT,yaH,yaI,zAa,c3]
end Go.SX
namespace Go.SX
open Go Go.Proofs Ieee
abbrev I64n := { n : Int // i64B n }
noncomputable def zBh1 : Ct := fam true (fun x : I64n => ([.c (.im (.int .i64 x.1))],[])) (fun x => .one { val := .c (.im (.str ⟨(Lib.itoa x.1).toArray⟩)) })
theorem zEv {n : Int} (h : i64B n) : zBh1.run [.c (.im (.int .i64 n))] [] = some (.one { val := .c (.im (.str ⟨(Lib.itoa n).toArray⟩)) }) := zAd (args := fun x : I64n => ([D.c (.im (.int .i64 x.1))],[])) (fun a b h => by simp at h; exact Subtype.ext h) (⟨n,h⟩ : I64n)
theorem zVx : Law Tryz.prog 101 zBh1 := by
 refine zAi (zAc zJt zAf) hmixA Tryz.func101 rfl rfl (fun ⟨n,hn⟩ => ⟨zAv rfl,by simp [Tryz.f101],?_⟩)
 simp only
 have h1 := hn.1
 have h2 := hn.2
 by_cases hs : n < -9223372036854775807
 · have e : n = -9223372036854775808 := by omega
   subst e
   have c : ((-9223372036854775808 : Int) < -9223372036854775807) = True := eq_true (by omega)
   have ei : Lib.itoa (-9223372036854775808) = [45,57,50,50,51,51,55,50,48,51,54,56,53,52,55,55,53,56,48,56] := by decide +kernel
   try simp -dsimp (maxSteps := 1000000) only [go_sem,↓reduceIte,yab,Tryz.f101,c,ei]
 · have c : (n < -9223372036854775807) = False := eq_false hs
   try simp -dsimp (maxSteps := 1000000) only [go_sem,↓reduceIte,yab,Tryz.f101,c,zDl (n := n) ⟨by omega,h2⟩]
theorem zLp : Law Tryz.prog 100 zGg := by
 refine zAi (zAc zHg (zAc zAz zAf)) hmixA Tryz.func100 rfl rfl (fun ⟨w,hw⟩ => ⟨zAv rfl,by simp [Tryz.f100],?_⟩)
 simp only
 have f := zTb w
 by_cases h1 : 2139095040 < w % 2147483648
 · have hT : sglT w = nanT := by unfold sglT; rw [if_pos h1]
   have hn := zFj1 h1
   rw [hT,nanT]
   try simp -dsimp (maxSteps := 1000000) only [go_sem,↓reduceIte,yab,Tryz.f100,hn]
 have hn := zFi1 h1
 by_cases h2 : w % 2147483648 = 2139095040
 · have hf : isFin w = false := by simp only [isFin,decide_eq_false_iff_not]; omega
   rw [hf] at f
   by_cases h3 : 2147483648 ≤ w
   · have : w = 4286578688 := by omega
     subst this
     have hT : sglT 4286578688 = ninfT := by decide
     have g : fcmp .gtr .f32 4286578688 0 = false := by decide +kernel
     generalize (4286578688 : Nat) = w at *
     rw [hT,ninfT]
     try simp -dsimp (maxSteps := 1000000) only [go_sem,↓reduceIte,yab,Tryz.f100,hn,zBv,f,g]
   · have : w = 2139095040 := by omega
     subst this
     have hT : sglT 2139095040 = infT := by decide
     have g : fcmp .gtr .f32 2139095040 0 = true := by decide +kernel
     generalize (2139095040 : Nat) = w at *
     rw [hT,infT]
     try simp -dsimp (maxSteps := 1000000) only [go_sem,↓reduceIte,yab,Tryz.f100,hn,zBv,f,g]
 · have hf : isFin w = true := by simp only [isFin,yax]; omega
   rw [hf] at f
   have hT : sglT w = fsT w := by unfold sglT fsT; rw [if_neg h1,if_neg h2,if_pos hf]
   rw [hT]
   try simp -dsimp (maxSteps := 1000000) only [go_sem,↓reduceIte,yab,Tryz.f100,hn,zBv,f,zAs hw]
theorem zYq : Law Tryz.prog 99 zHk := by
 refine zAi (zAc zLp zAf) hmixA Tryz.func99 rfl rfl (fun ⟨⟨u,v⟩,h1,h2⟩ => ⟨zAv rfl,by simp [Tryz.f99],?_⟩)
 simp only [ptT]
 have r1 := zBu h1
 have r2 := zBu h2
 have la := zCm h1
 have lb := zCm h2
 simp only at la lb r1 r2
 generalize sglT u = A at *
 generalize sglT v = B at *
 have q5 : (A.length + 1 ≤ 4611686018427387904) = True := eq_true (by omega)
 have q6 : (A.length + 1 + B.length ≤ 4611686018427387904) = True := eq_true (by omega)
 have e : A ++ [32] ++ B = A ++ 32 :: B := by simp
 try simp -dsimp (maxSteps := 1000000) only [go_sem,↓reduceIte,yab,Tryz.f99,r1,r2,q5,q6,zBo,e,yaX,yar]
end Go.SX
namespace Go.SX
open Go Go.Proofs Ieee
theorem zFo : Law Tryz.prog 38 zCr := by
 refine zAi (zAc zIh (zAc zYq (zAc zLp (zAc zVx zAf)))) hmixA Tryz.func38 rfl rfl (fun ⟨m,ok,hw,hrat,hcnt,hlft,hlab⟩ => ⟨zAv rfl,by simp [Tryz.f38],?_⟩)
 simp only
 have hsm : sm = 16777216 := rfl
 have ri := zIe ⟨m,ok,hw⟩
 simp only at ri
 have big : ∀ n : Nat,n ≤ 1000000000000 → (n ≤ 4611686018427387904) = True := fun n h => eq_true (by omega)
 cases hv : isModuleF m with
 | false =>
   have hT : fmtM m = [] := by simp [fmtM,hv]
   rw [hT]
   rw [hv] at ri
   obtain ⟨k,⟨t1,t2⟩,⟨s1,s2⟩,lv,st,ra,rc,pts,lab,c,lf⟩ := m
   simp only [modC] at ri ⊢
   try simp -dsimp (maxSteps := 1000000) only [go_sem,↓reduceIte,yab,Tryz.f38,ri,yaI]
 | true =>
   have hT : fmtM m = nameT m.kind ++ behind (restW m) := by simp [fmtM,hv]
   rw [hT]
   rw [hv] at ri
   rcases zCf hv with ⟨⟨t1,t2⟩,⟨s1,s2⟩,e⟩ | ⟨⟨t1,t2⟩,⟨s1,s2⟩,e⟩ | ⟨l,e⟩ | ⟨st,a,e,hr⟩ | e | ⟨pts,lab,c,e,ht⟩ | ⟨l,e,hl⟩ | ⟨⟨s1,s2⟩,c,l,e,h1,h2,h3,h4⟩
   · subst e
     have rp := zCb hw.turn.1 hw.turn.2
     have rq := zCb hw.state.1 hw.state.2
     have la := zGa hw.turn
     have lb := zGa hw.state
     have hfin : nameT 1 ++ behind (restW ⟨1,(t1,t2),(s1,s2),0,[],0,0,[],[],0,0⟩) = [115,111,117,114,99,101,32] ++ ptT (t1,t2) ++ [32] ++ ptT (s1,s2) := by simp [restW,nameT,sourceT,behind,ptW,ptT]
     simp only [modC] at ri rp rq ⊢
     rw [hfin]
     simp only at la lb
     generalize ptT (t1,t2) = A at *
     generalize ptT (s1,s2) = B at *
     have q1 : (7 + A.length ≤ 4611686018427387904) = True := eq_true (by omega)
     have q2 : (A.length ≤ 4611686018427387896) = True := eq_true (by omega)
     have q3 : ((A ++ [32]).length + 1 + 1 + 1 + 1 + 1 + 1 + 1 + B.length ≤ 4611686018427387904) = True := eq_true (by simp only [yas,yar,List.length_nil]; omega)
     clear big
     try simp -dsimp (maxSteps := 1000000) only [go_sem,↓reduceIte,yab,Tryz.f38,ri,rp,rq,q1,q2,q3,zBo,yaX,Nat.reduceAdd,Int.reduceEq,yaH]
     repeat' (first
       | ((with_reducible refine sl_i ?_ ?_); focus kernel_rfl)
       | ((with_reducible refine ro_e ?_); kernel_rfl))
   · subst e
     have rp := zCb hw.turn.1 hw.turn.2
     have rq := zCb hw.state.1 hw.state.2
     have la := zGa hw.turn
     have lb := zGa hw.state
     have hfin : nameT 2 ++ behind (restW ⟨2,(t1,t2),(s1,s2),0,[],0,0,[],[],0,0⟩) = [109,105,120,101,114,32] ++ ptT (t1,t2) ++ [32] ++ ptT (s1,s2) := by simp [restW,nameT,mixerT,behind,ptW,ptT]
     simp only [modC] at ri rp rq ⊢
     rw [hfin]
     simp only at la lb
     generalize ptT (t1,t2) = A at *
     generalize ptT (s1,s2) = B at *
     have q1 : (6 + A.length ≤ 4611686018427387904) = True := eq_true (by omega)
     have q2 : (A.length ≤ 4611686018427387897) = True := eq_true (by omega)
     have q3 : ((A ++ [32]).length + 1 + 1 + 1 + 1 + 1 + 1 + B.length ≤ 4611686018427387904) = True := eq_true (by simp only [yas,yar,List.length_nil]; omega)
     clear big
     try simp -dsimp (maxSteps := 1000000) only [go_sem,↓reduceIte,yab,Tryz.f38,ri,rp,rq,q1,q2,q3,zBo,yaX,Nat.reduceAdd,Int.reduceEq,yaH]
     repeat' (first
       | ((with_reducible refine sl_i ?_ ?_); focus kernel_rfl)
       | ((with_reducible refine ro_e ?_); kernel_rfl))
   · subst e
     have rp := zBu hw.level
     have la := zCm hw.level
     simp only at rp la
     have hfin : nameT 3 ++ behind (restW ⟨3,(0,0),(0,0),l,[],0,0,[],[],0,0⟩) = [103,97,105,110,32] ++ sglT l := by simp [restW,nameT,gainT,behind]
     simp only [modC] at ri rp ⊢
     rw [hfin]
     generalize sglT l = A at *
     have q1 := big (5 + A.length) (by omega)
     clear big
     try simp -dsimp (maxSteps := 1000000) only [go_sem,↓reduceIte,yab,Tryz.f38,ri,rp,q1,zBo,yaX,Nat.reduceAdd,Int.reduceEq,yaH]
   · subst e
     have hst := ok.store
     have hws := hw.store
     simp only at hst hrat hws
     have ra := zEv hrat
     have la := zBd hrat
     have hfin : nameT 4 ++ behind (restW ⟨4,(0,0),(0,0),0,st,a,(st.length : Int),[],[],0,0⟩) = [100,101,108,97,121,32] ++ Lib.itoa a ++ behind (ptsW st) := by simp [restW,nameT,delayT,behind]
     simp only [modC] at ri ⊢
     rw [hfin]
     clear hv hT
     have hT2 : behind (ptsW (st.take st.length)) = behind (ptsW st) := by rw [List.take_length]
     generalize Lib.itoa a = A at *
     have q1 := big (6 + A.length) (by omega)
     try simp -dsimp (maxSteps := 1000000) only [go_sem,↓reduceIte,yab,Tryz.f38,ri,ra,q1,zAa,zBo,yaX,yar,Nat.reduceAdd,Int.reduceEq,yaH]
     refine zBa (ι := { k : Nat // k ≤ st.length }) (fun k => ⟨[(3,some (.c (.im (.str ⟨([100,101,108,97,121,32] ++ A ++ behind (ptsW (st.take k.1))).toArray⟩)))),(51,some (.c (.im (.sl 1 (rowsZ st))))),(52,some (.c (.im (.int .i64 (st.length : Int))))),(53,some (.c (.im (.int .i64 (k.1 : Int)))))],
       [],0⟩) (fun k => st.length - k.1) ⟨0,by simp⟩ ⟨[],[],by ((simp only [go_sem,↓reduceIte,yab,yai,yan,ptsW,behind,yaA,List.append_nil]) <;> (try (simp -dsimp only [go_sem,↓reduceIte,yab,yai,yan,ptsW,behind,yaA,List.append_nil]))) <;> simp [lk,zAy]⟩ (fun ⟨k,hk⟩ => ?_)
     simp only
     by_cases hlt : k < st.length
     · obtain ⟨⟨u,v⟩,hp⟩ : ∃ p,st[k]? = some p := ⟨_,List.getElem?_eq_getElem hlt⟩
       have hrow := zCt hp
       have hI : ((k : Int) < (st.length : Int)) = True := eq_true (by omega)
       have h0 : (0 ≤ (k : Int)) = True := eq_true (by omega)
       have hwr := zEn hst hlt
       have w1 := hws _ (List.mem_of_getElem? hp)
       have rp := zCb w1.1 w1.2
       have l1 := zGa w1
       have l3 := zBf (st.take k) (fun p hp => hws p (List.mem_of_mem_take hp))
       have l4 : (st.take k).length ≤ st.length := by rw [List.length_take]; omega
       have hsn : [100,101,108,97,121,32] ++ A ++ behind (ptsW (st.take (k + 1))) = [100,101,108,97,121,32] ++ A ++ behind (ptsW (st.take k)) ++ [32] ++ ptT (u,v) := by
         rw [zEo hp,zZy,zEq]
         simp [ptsW,zPl]
       simp only at rp
       generalize ptT (u,v) = X at *
       generalize hO : [100,101,108,97,121,32] ++ A ++ behind (ptsW (st.take k)) = O at *
       have lO : O.length ≤ 6 + A.length + 90 * st.length := by rw [← hO]; simp only [yar,yas,List.length_nil]; omega
       have q0 := big (O.length + 1) (by omega)
       have q1 := big (O.length + 1 + X.length) (by omega)
       try simp -dsimp (maxSteps := 1000000) only [go_sem,↓reduceIte,yab,Tryz.f38,hI,h0,Int.toNat_natCast,hrow,hwr,rp,q0,q1,zAa,zBo,yaX,yar,Nat.reduceAdd,Int.reduceEq,yaH]
       refine ⟨⟨k + 1,by omega⟩,by simp only []; omega,[],[],?_⟩
       ((simp only [go_sem,↓reduceIte,yab,yai]) <;> (try (simp -dsimp only [go_sem,↓reduceIte,yab,yai])))
       all_goals simp [lk,zAy]
       simpa using hsn.symm
     · have hI : ((k : Int) < (st.length : Int)) = False := eq_false (by omega)
       have hke : k = st.length := by omega
       subst hke
       rw [hT2]
       try simp -dsimp (maxSteps := 1000000) only [go_sem,↓reduceIte,yab,Tryz.f38,hI]
   · subst e
     have hfin : nameT 5 ++ behind (restW ⟨5,(0,0),(0,0),0,[],0,0,[],[],0,0⟩) = [115,117,109] := by simp [restW,nameT,sumT,behind]
     simp only [modC] at ri ⊢
     rw [hfin]
     clear big
     try simp -dsimp (maxSteps := 1000000) only [go_sem,↓reduceIte,yab,Tryz.f38,ri,zBo,yaX,yar,Nat.reduceAdd,Int.reduceEq,yaH]
   · subst e
     have hpl := ok.pts
     have hll := ok.lab
     have hw2 := hw.pts
     simp only at hpl hll hw2 hlab hcnt
     simp only [isTableF,yaw,yax] at ht
     have hpeq := ht.1
     have ra := zEv hcnt
     have la := zBd hcnt
     have hfin : nameT 6 ++ behind (restW ⟨6,(0,0),(0,0),0,[],0,0,pts,lab,c,0⟩) = [115,108,105,99,101,114,32] ++ Lib.itoa c ++ behind (tabW pts lab) := by simp [restW,nameT,slicerT,behind]
     simp only [modC] at ri ⊢
     rw [hfin]
     clear ht hv hT
     have hT2 : behind (tabW (pts.take pts.length) (lab.take pts.length)) = behind (tabW pts lab) := by rw [List.take_length,hpeq,List.take_length]
     generalize Lib.itoa c = A at *
     have q1 := big (7 + A.length) (by omega)
     try simp -dsimp (maxSteps := 1000000) only [go_sem,↓reduceIte,yab,Tryz.f38,ri,ra,q1,zAa,zBo,yaX,yar,Nat.reduceAdd,Int.reduceEq,yaH]
     refine zBa (ι := { k : Nat // k ≤ pts.length }) (fun k => ⟨[(1,some (.c (.ptr 0 0 0 0))),(6,some (.c (.im (.str ⟨([115,108,105,99,101,114,32] ++ A ++ behind (tabW (pts.take k.1) (lab.take k.1))).toArray⟩)))),(72,some (.c (.im (.sl 1 (rowsZ pts))))),(73,some (.c (.im (.int .i64 (pts.length : Int))))),(74,some (.c (.im (.int .i64 (k.1 : Int)))))],
       [(0,some (.box [.t (.im (.int .i64 6)),.t (.im (.cpx .f32 0 0)),.t (.im (.cpx .f32 0 0)),.t (.im (.flt .f32 0)),.t (.im (.sl 1 (rowsZ []))),.t (.im (.int .i64 0)),.t (.im (.int .i64 0)),.t (.im (.sl 1 (rowsZ pts))),.t (.im (.sl 1 (rowsN lab))),.t (.im (.int .i64 c)),.t (.im (.int .i64 0))]))],1⟩) (fun k => pts.length - k.1) ⟨0,by simp⟩ ⟨[],[0],by ((simp only [go_sem,↓reduceIte,yab,yai,yan,tabW,behind,yaA,List.append_nil]) <;> (try (simp -dsimp only [go_sem,↓reduceIte,yab,yai,yan,tabW,behind,yaA,List.append_nil]))) <;> simp [lk,zAy]⟩ (fun ⟨k,hk⟩ => ?_)
     simp only
     by_cases hlt : k < pts.length
     · obtain ⟨⟨u,v⟩,hp⟩ : ∃ p,pts[k]? = some p := ⟨_,List.getElem?_eq_getElem hlt⟩
       obtain ⟨n,hn⟩ : ∃ p,lab[k]? = some p := ⟨lab[k]'(by omega),List.getElem?_eq_getElem (by omega)⟩
       have hrow := zCt hp
       have hrow2 := zFv hn
       have hI : ((k : Int) < (pts.length : Int)) = True := eq_true (by omega)
       have hI2 : ((k : Int) < (lab.length : Int)) = True := eq_true (by omega)
       have h0 : (0 ≤ (k : Int)) = True := eq_true (by omega)
       have hwr := zEn hpl hlt
       have w1 := hw2 _ (List.mem_of_getElem? hp)
       have i1 := hlab n (List.mem_of_getElem? hn)
       have rp := zCb w1.1 w1.2
       have rn := zEv i1
       have l1 := zGa w1
       have l2 := zBd i1
       have l3 := zMl (pts.take k) (lab.take k) (fun p hp => hw2 p (List.mem_of_mem_take hp)) (fun p hp => hlab p (List.mem_of_mem_take hp))
       have l4 : (pts.take k).length ≤ pts.length := by rw [List.length_take]; omega
       have hsn : [115,108,105,99,101,114,32] ++ A ++ behind (tabW (pts.take (k + 1)) (lab.take (k + 1))) = [115,108,105,99,101,114,32] ++ A ++ behind (tabW (pts.take k) (lab.take k)) ++ [32] ++ ptT (u,v) ++ [32] ++ Lib.itoa n := by
         rw [zUh hpeq hp hn,zEq]
         simp [behind,ptT]
       simp only at rp
       generalize ptT (u,v) = X at *
       generalize Lib.itoa n = Y at *
       generalize hO : [115,108,105,99,101,114,32] ++ A ++ behind (tabW (pts.take k) (lab.take k)) = O at *
       have lO : O.length ≤ 7 + A.length + 120 * pts.length := by rw [← hO]; simp only [yar,yas,List.length_nil]; omega
       have q0 := big (O.length + 1) (by omega)
       have q1 := big (O.length + 1 + X.length) (by omega)
       have q2 := big (O.length + 1 + X.length + 1) (by omega)
       have q3 := big (O.length + 1 + X.length + 1 + Y.length) (by omega)
       try simp -dsimp (maxSteps := 1000000) only [go_sem,↓reduceIte,yab,Tryz.f38,hI,hI2,h0,Int.toNat_natCast,hrow,hrow2,hwr,rp,rn,q0,q1,q2,q3,zAa,zAb,zBo,yaX,yar,Nat.reduceAdd,Int.reduceEq,yaH]
       repeat' (first
         | ((with_reducible refine sl_i ?_ ?_); focus kernel_rfl)
         | ((with_reducible refine ro_i ?_ ?_); focus kernel_rfl))
       refine ⟨⟨k + 1,by omega⟩,by simp only []; omega,[],[0],?_⟩
       ((simp only [go_sem,↓reduceIte,yab,yai]) <;> (try (simp -dsimp only [go_sem,↓reduceIte,yab,yai])))
       all_goals simp [lk,zAy]
       simpa using hsn.symm
     · have hI : ((k : Int) < (pts.length : Int)) = False := eq_false (by omega)
       have hke : k = pts.length := by omega
       subst hke
       rw [hT2]
       try simp -dsimp (maxSteps := 1000000) only [go_sem,↓reduceIte,yab,Tryz.f38,hI]
   · subst e
     have rp := zBu hw.level
     have la := zCm hw.level
     simp only at rp la
     have hfin : nameT 7 ++ behind (restW ⟨7,(0,0),(0,0),l,[],0,0,[],[],0,0⟩) = [109,101,116,101,114,32] ++ sglT l := by simp [restW,nameT,meterT,behind]
     simp only [modC] at ri rp ⊢
     rw [hfin]
     generalize sglT l = A at *
     have q1 := big (6 + A.length) (by omega)
     clear big
     try simp -dsimp (maxSteps := 1000000) only [go_sem,↓reduceIte,yab,Tryz.f38,ri,rp,q1,zBo,yaX,Nat.reduceAdd,Int.reduceEq,yaH]
   · subst e
     have ra := zEv hcnt
     have rl := zEv hlft
     have rp := zCb hw.state.1 hw.state.2
     have la := zBd hcnt
     have lb := zBd hlft
     have lc := zGa hw.state
     simp only at ra rl rp la lb lc
     have hfin : nameT 8 ++ behind (restW ⟨8,(0,0),(s1,s2),0,[],0,0,[],[],c,l⟩) = [104,111,108,100,32] ++ Lib.itoa c ++ [32] ++ Lib.itoa l ++ [32] ++ ptT (s1,s2) := by simp [restW,nameT,holdT,behind,ptW,ptT]
     simp only [modC] at ri ⊢
     rw [hfin]
     generalize Lib.itoa c = A at *
     generalize Lib.itoa l = B at *
     generalize ptT (s1,s2) = X at *
     have q1 : (5 + A.length ≤ 4611686018427387904) = True := eq_true (by omega)
     have q2 : (A.length ≤ 4611686018427387898) = True := eq_true (by omega)
     have q3 : ((A ++ [32]).length + 1 + 1 + 1 + 1 + 1 + B.length ≤ 4611686018427387904) = True := eq_true (by simp only [yas,yar,List.length_nil]; omega)
     have q4 : ((A ++ [32] ++ B).length ≤ 4611686018427387898) = True := eq_true (by simp only [yas,yar,List.length_nil]; omega)
     have q5 : ((A ++ [32] ++ B ++ [32]).length + 1 + 1 + 1 + 1 + 1 + X.length ≤ 4611686018427387904) = True := eq_true (by simp only [yas,yar,List.length_nil]; omega)
     clear big
     try simp -dsimp (maxSteps := 1000000) only [go_sem,↓reduceIte,yab,Tryz.f38,ri,ra,rl,rp,q1,q2,q3,q4,q5,zBo,yaX,Nat.reduceAdd,Int.reduceEq,yaH]
     repeat' (first
       | ((with_reducible refine sl_i ?_ ?_); focus kernel_rfl)
       | ((with_reducible refine ro_e ?_); kernel_rfl))
end Go.SX
namespace Go.SX
open Go Go.Proofs Ieee
theorem getD32 {l : List Pt} (h : ∀ p ∈ l,p.1 < 4294967296 ∧ p.2 < 4294967296) (i : Nat) : (l.getD i (0,0)).1 < 4294967296 ∧ (l.getD i (0,0)).2 < 4294967296 := by
 rw [List.getD_eq_getElem?_getD]
 cases hi : l[i]? with
 | none => exact zGb
 | some p => exact h p (List.mem_of_getElem? hi)
theorem zEu1 {k : Nat} : ∀ (f : Nat) (ws : List Txt) (l : List Pt),ptsG k f ws = some l → ∀ p ∈ l,p.1 < 4294967296 ∧ p.2 < 4294967296
 | 0,ws,l,h => by
   simp only [ptsG,yay] at h
   subst h; simp
 | f + 1,ws,l,h => by
   rw [ptsG] at h
   split at h
   · split at h
     · cases hr : ptsG k f (ws.drop k) with
       | none => rw [hr] at h; cases h
       | some r =>
         rw [hr] at h
         simp only [yaK,yay] at h
         subst h
         intro p hp
         rcases List.mem_cons.1 hp with rfl | hp
         · exact ⟨zNl _,zNl _⟩
         · exact zEu1 f _ r hr p hp
     · cases h
   · injection h with h
     subst h; simp
theorem zIr (k : Nat) (ws : List Txt) : ∀ p ∈ (pPts k ws).1,p.1 < 4294967296 ∧ p.2 < 4294967296 := by
 unfold pPts
 cases h : ptsO k ws with
 | none => simp
 | some l => exact zEu1 _ _ _ h
theorem zEw1 {k : Nat} (hk : 0 < k) (ws : List Txt) : (pPts k ws).1.length ≤ ws.length := by
 unfold pPts
 cases h : ptsO k ws with
 | none => simp
 | some l =>
   have := zRy hk _ ws l (by omega) h
   show l.length ≤ _
   rw [this]
   exact Nat.div_le_self _ _
theorem zGt1 : ∀ (f : Nat) (ws : List Txt),(labG f ws).1.length ≤ f ∧ ∀ x ∈ (labG f ws).1,i64B x
 | 0,ws => by simp [labG]
 | f + 1,ws => by
   have ih := zGt1 f (ws.drop 3)
   rw [labG]
   split
   · split
     · refine ⟨by simp only [yas]; omega,fun x hx => ?_⟩
       rcases List.mem_cons.1 hx with rfl | hx
       · exact zJl _
       · exact ih.2 x hx
     · simp
   · simp
theorem wd_z (k : Int) : Wd (mod0 k) := ⟨⟨zGb,zGb,by simp [mod0],by simp [mod0],by simp [mod0]⟩,zDt,zDt,zDt,by simp [mod0]⟩
theorem zDn1 (w : Txt) {ws : List Txt} (hl : ws.length ≤ 1024) : OkM (wrdF w ws).1 ∧ Wd (wrdF w ws).1 := by
 have hsm : sm = 16777216 := rfl
 have z : OkM (mod0 0) := ⟨by simp [mod0],by simp [mod0],by simp [mod0]⟩
 unfold wrdF
 split
 · split
   · exact ⟨⟨by simp,by simp,by simp⟩,wd_2 (getD32 (zIr _ _) _) (getD32 (zIr _ _) _)⟩
   · exact ⟨z,wd_z 0⟩
 split
 · split
   · exact ⟨⟨by simp,by simp,by simp⟩,wd_2 (getD32 (zIr _ _) _) (getD32 (zIr _ _) _)⟩
   · exact ⟨z,wd_z 0⟩
 split
 · exact ⟨⟨by simp,by simp,by simp⟩,wd_1 (zNl _)⟩
 split
 · exact ⟨⟨by simp,by simp,by simp⟩,wd_1 (zNl _)⟩
 split
 · have h1 := zEw1 (k := 2) (by decide) ws.tail
   have h2 : ws.tail.length ≤ 1024 := by rw [List.length_tail]; omega
   exact ⟨⟨by simp only []; omega,by simp,by simp⟩,⟨⟨zGb,zGb,(by decide : (0 : Nat) < 4294967296),zIr _ _,by simp⟩,zJl _,zDt,zDt,by simp⟩⟩
 split
 · have h1 := zEw1 (k := 3) (by decide) ws.tail
   have h2 : ws.tail.length ≤ 1024 := by rw [List.length_tail]; omega
   have h3 := zGt1 (ws.length + 1) (ws.drop 3)
   unfold pSlc
   exact ⟨⟨by simp,by simp only []; omega,by simp only []; omega⟩,⟨⟨zGb,zGb,(by decide : (0 : Nat) < 4294967296),by simp,zIr _ _⟩,zDt,zJl _,zDt,h3.2⟩⟩
 split
 · split
   · exact ⟨⟨by simp,by simp,by simp⟩,⟨⟨zGb,getD32 (zIr _ _) _,(by decide : (0 : Nat) < 4294967296),by simp,by simp⟩,zDt,zJl _,zJl _,by simp⟩⟩
   · exact ⟨z,wd_z 0⟩
 · exact ⟨z,wd_z 0⟩
theorem zJp1 (k : Int) (ps : List Txt) : Wd (readM k ps).1 := by
 unfold readM
 split
 · exact ⟨⟨zIf _ _,zIf _ _,by simp [mod0],by simp [mod0],by simp [mod0]⟩,zDt,zDt,zDt,by simp [mod0]⟩
 split
 · exact ⟨⟨zGb,zGb,zVe _ _,by simp [mod0],by simp [mod0]⟩,zDt,zDt,zDt,by simp [mod0]⟩
 split
 · exact ⟨⟨zGb,zGb,by simp [mod0],(zZg _ _ _ (Nat.le_refl _)).2,by simp [mod0]⟩,zRx _ _,zDt,zDt,by simp [mod0]⟩
 split
 · exact ⟨⟨zGb,zGb,by simp [mod0],by simp [mod0],(zRl _ _ _ (Nat.le_refl _)).2.2.1⟩,zDt,zRx _ _,zDt,(zRl _ _ _ (Nat.le_refl _)).2.2.2⟩
 split
 · exact ⟨⟨zGb,zIf _ _,by simp [mod0],by simp [mod0],by simp [mod0]⟩,zDt,zRx _ _,zRx _ _,by simp [mod0]⟩
 · exact wd_z k
theorem zAr1 {s : Txt} {m : Mod} (h : implM s = some m) : Wd m := by
 unfold implM at h
 split at h
 · cases h
 · split at h
   · injection h with h
     subst h
     exact zJp1 _ _
   · cases h
theorem zLy1 : ∀ (l : List Pt) (f : Nat),(∀ p ∈ l,p.1 < 4294967296 ∧ p.2 < 4294967296) → l.length < f → ptsG 2 f (ptsW l) = some (l.map cP)
 | l,0,_,hf => by omega
 | [],f + 1,_,_ => by simp [ptsG,ptsW]
 | p :: l,f + 1,h,hf => by
   have ih := zLy1 l f (fun q hq => h q (List.mem_cons_of_mem _ hq)) (by simp at hf; omega)
   have e : ptsW (p :: l) = sglT p.1 :: sglT p.2 :: ptsW l := by simp [ptsW,ptW]
   have hp := h p (by simp)
   rw [e,ptsG,if_pos (by simp)]
   have g0 : (sglT p.1 :: sglT p.2 :: ptsW l).getD 0 [] = sglT p.1 := rfl
   have g1 : (sglT p.1 :: sglT p.2 :: ptsW l).getD 1 [] = sglT p.2 := rfl
   rw [g0,g1,zNm hp.1,zNm hp.2,if_pos ⟨rfl,rfl⟩]
   simp only [yaY,ybb,ih,yaK,List.map_cons,cP]
theorem zJn : ∀ (l : List Pt),(ptsW l).length = 2 * l.length
 | [] => rfl
 | p :: l => by
   have e : ptsW (p :: l) = sglT p.1 :: sglT p.2 :: ptsW l := by simp [ptsW,ptW]
   rw [e]
   simp only [yas,zJn l]
   omega
theorem zZz {l : List Pt} (h : ∀ p ∈ l,p.1 < 4294967296 ∧ p.2 < 4294967296) : pPts 2 (ptsW l) = (l.map cP,true) := by
 have e : ptsO 2 (ptsW l) = some (l.map cP) := zLy1 l _ h (by rw [zJn]; omega)
 unfold pPts
 rw [e]
 have : (ptsW l).length % 2 = 0 := by rw [zJn]; omega
 rw [this]; rfl
theorem zEt1 : ∀ (l : List Pt) (n : List Int) (f : Nat),l.length = n.length → (∀ p ∈ l,p.1 < 4294967296 ∧ p.2 < 4294967296) → l.length < f → ptsG 3 f (tabW l n) = some (l.map cP)
 | l,n,0,_,_,hf => by omega
 | [],n,f + 1,_,_,_ => by simp [ptsG,tabW]
 | p :: l,[],f + 1,hl,_,_ => by simp at hl
 | p :: l,x :: n,f + 1,hl,h,hf => by
   have ih := zEt1 l n f (by simpa using hl) (fun q hq => h q (List.mem_cons_of_mem _ hq)) (by simp at hf; omega)
   have e : tabW (p :: l) (x :: n) = sglT p.1 :: sglT p.2 :: Lib.itoa x :: tabW l n := by simp [tabW]
   have hp := h p (by simp)
   rw [e,ptsG,if_pos (by simp)]
   have g0 : (sglT p.1 :: sglT p.2 :: Lib.itoa x :: tabW l n).getD 0 [] = sglT p.1 := rfl
   have g1 : (sglT p.1 :: sglT p.2 :: Lib.itoa x :: tabW l n).getD 1 [] = sglT p.2 := rfl
   rw [g0,g1,zNm hp.1,zNm hp.2,if_pos ⟨rfl,rfl⟩]
   simp only [yaY,ybb,ih,yaK,List.map_cons,cP]
theorem zNe : ∀ (l : List Pt) (n : List Int),l.length = n.length → (tabW l n).length = 3 * l.length
 | [],_,_ => by simp [tabW]
 | _ :: _,[],h => by simp at h
 | p :: l,x :: n,h => by
   have e : tabW (p :: l) (x :: n) = sglT p.1 :: sglT p.2 :: Lib.itoa x :: tabW l n := by simp [tabW]
   rw [e]
   simp only [yas,zNe l n (by simpa using h)]
   omega
theorem zOp1 {l : List Pt} {n : List Int} (hl : l.length = n.length) (h : ∀ p ∈ l,p.1 < 4294967296 ∧ p.2 < 4294967296) : pPts 3 (tabW l n) = (l.map cP,true) := by
 have e : ptsO 3 (tabW l n) = some (l.map cP) := zEt1 l n _ hl h (by rw [zNe l n hl]; omega)
 unfold pPts
 rw [e]
 have : (tabW l n).length % 3 = 0 := by rw [zNe l n hl]; omega
 rw [this]; rfl
theorem zMh1 : ∀ (l : List Pt) (n : List Int) (f : Nat),l.length = n.length → (∀ x ∈ n,i64B x) → l.length < f → labG f ((tabW l n).drop 2) = (n,true)
 | l,n,0,_,_,hf => by omega
 | [],[],f + 1,_,_,_ => by simp [labG,tabW]
 | [],_ :: _,f + 1,hl,_,_ => by simp at hl
 | p :: l,[],f + 1,hl,_,_ => by simp at hl
 | p :: l,x :: n,f + 1,hl,h,hf => by
   have ih := zMh1 l n f (by simpa using hl) (fun q hq => h q (List.mem_cons_of_mem _ hq)) (by simp at hf; omega)
   have e : (tabW (p :: l) (x :: n)).drop 2 = Lib.itoa x :: tabW l n := by simp [tabW]
   rw [e,labG,if_pos (by simp)]
   have g0 : (Lib.itoa x :: tabW l n).getD 0 [] = Lib.itoa x := rfl
   rw [g0,zFx (h x (by simp)),if_pos rfl]
   simp only [yaY,ih]
theorem zQm1 {m : Mod} (hv : isModuleF m = true) (hw : Wd m) (h5 : m.kind ≠ 5) : wrdF (nameT m.kind) (restW m) = (cM m,true) := by
 have c0 : cP (0,0) = (0,0) := by decide
 have w0 : cW 0 = 0 := by decide
 rcases zCf hv with ⟨t,s,rfl⟩ | ⟨t,s,rfl⟩ | ⟨l,rfl⟩ | ⟨st,a,rfl,hr⟩ | rfl | ⟨pts,lab,c,rfl,ht⟩ | ⟨l,rfl,hl⟩ | ⟨s,c,l,rfl,h1,h2,h3,h4⟩
 · have e : restW ⟨1,t,s,0,[],0,0,[],[],0,0⟩ = ptsW [t,s] := by simp [restW,ptsW]
   have q := zZz (l := [t,s]) (by simp; exact ⟨hw.w.turn,hw.w.state⟩)
   rw [e]
   show wrdF (nameT 1) _ = _
   unfold wrdF
   rw [if_pos (by decide),q,if_pos (by simp)]
   simp [cM,c0,w0]
 · have e : restW ⟨2,t,s,0,[],0,0,[],[],0,0⟩ = ptsW [t,s] := by simp [restW,ptsW]
   have q := zZz (l := [t,s]) (by simp; exact ⟨hw.w.turn,hw.w.state⟩)
   rw [e]
   show wrdF (nameT 2) _ = _
   unfold wrdF
   rw [if_neg (by decide),if_pos (by decide),q,if_pos (by simp)]
   simp [cM,c0,w0]
 · have e : restW ⟨3,(0,0),(0,0),l,[],0,0,[],[],0,0⟩ = [sglT l] := by simp [restW]
   have g0 : [sglT l].getD 0 [] = sglT l := rfl
   rw [e]
   show wrdF (nameT 3) _ = _
   unfold wrdF
   rw [if_neg (by decide),if_neg (by decide),if_pos (by decide),g0,zNm hw.w.level]
   simp [cM,c0,w0]
 · have e : restW ⟨4,(0,0),(0,0),0,st,a,(st.length : Int),[],[],0,0⟩ = Lib.itoa a :: ptsW st := by simp [restW]
   have g0 : (Lib.itoa a :: ptsW st).getD 0 [] = Lib.itoa a := rfl
   have q := zZz (l := st) hw.w.store
   rw [e]
   show wrdF (nameT 4) _ = _
   unfold wrdF
   rw [if_neg (by decide),if_neg (by decide),if_neg (by decide),if_neg (by decide),if_pos (by decide),g0,zFx hw.rat,List.tail_cons,q]
   simp [cM,c0,w0]
 · exact absurd rfl h5
 · have e : restW ⟨6,(0,0),(0,0),0,[],0,0,pts,lab,c,0⟩ = Lib.itoa c :: tabW pts lab := by simp [restW]
   have g0 : (Lib.itoa c :: tabW pts lab).getD 0 [] = Lib.itoa c := rfl
   obtain ⟨hl,_⟩ := zGu ht
   have q := zOp1 hl hw.w.pts
   have q2 := zMh1 pts lab ((Lib.itoa c :: tabW pts lab).length + 1) hl hw.lab (by rw [List.length_cons,zNe _ _ hl]; omega)
   rw [e]
   show wrdF (nameT 6) _ = _
   unfold wrdF
   rw [if_neg (by decide),if_neg (by decide),if_neg (by decide),if_neg (by decide),if_neg (by decide),if_pos (by decide)]
   unfold pSlc
   rw [g0,zFx hw.cnt,List.tail_cons,q]
   simp only [yaY,q2]
   simp [cM,c0,w0]
 · have e : restW ⟨7,(0,0),(0,0),l,[],0,0,[],[],0,0⟩ = [sglT l] := by simp [restW]
   have g0 : [sglT l].getD 0 [] = sglT l := rfl
   rw [e]
   show wrdF (nameT 7) _ = _
   unfold wrdF
   rw [if_neg (by decide),if_neg (by decide),if_neg (by decide),if_pos (by decide),g0,zNm hw.w.level]
   simp [cM,c0,w0]
 · have e : restW ⟨8,(0,0),s,0,[],0,0,[],[],c,l⟩ = Lib.itoa c :: Lib.itoa l :: ptsW [s] := by simp [restW,ptsW]
   have q := zZz (l := [s]) (by simp; exact hw.w.state)
   have g0 : (Lib.itoa c :: Lib.itoa l :: ptsW [s]).getD 0 [] = Lib.itoa c := rfl
   have g1 : (Lib.itoa c :: Lib.itoa l :: ptsW [s]).getD 1 [] = Lib.itoa l := rfl
   have gl : (Lib.itoa c :: Lib.itoa l :: ptsW [s]).length = 4 := by simp [zJn]
   rw [e]
   show wrdF (nameT 8) _ = _
   unfold wrdF
   rw [if_neg (by decide),if_neg (by decide),if_neg (by decide),if_neg (by decide),if_neg (by decide),if_neg (by decide),if_pos (by decide),gl,g0,g1,zFx hw.cnt,zFx hw.lft]
   simp only [yaY,ybb,q]
   simp [cM,c0,w0]
theorem zJm1 {m : Mod} (hv : isModuleF m = true) (h5 : m.kind ≠ 5) : 1 ≤ (restW m).length ∧ (restW m).length ≤ 299 := by
 rcases zCf hv with ⟨t,s,rfl⟩ | ⟨t,s,rfl⟩ | ⟨l,rfl⟩ | ⟨st,a,rfl,hr⟩ | rfl | ⟨pts,lab,c,rfl,ht⟩ | ⟨l,rfl,hl⟩ | ⟨s,c,l,rfl,h1,h2,h3,h4⟩
 · simp [restW,ptW]
 · simp [restW,ptW]
 · simp [restW]
 · have h : st.length ≤ 16 := by
     simp only [isRingF,yaw,yax] at hr
     exact hr.1.2.1
   simp [restW,zJn]; omega
 · exact absurd rfl h5
 · obtain ⟨hl,h64⟩ := zGu ht
   simp [restW,zNe _ _ hl]; omega
 · simp [restW]
 · simp [restW,ptW]
noncomputable def specM (s : Txt) : Option Mod := if s = sumT then some mSum' else match splT 32 s with
 | [] => none
 | w :: ws => if 1 ≤ ws.length ∧ ws.length ≤ 299 ∧ (wrdF w ws).2 = true ∧ fmtM (wrdF w ws).1 = s then some (wrdF w ws).1 else none
theorem zWq {m : Mod} (hv : isModuleF m = true) (h : m.kind = 5) : fmtM m = sumT := by
 rcases zCf hv with ⟨t,s,rfl⟩ | ⟨t,s,rfl⟩ | ⟨l,rfl⟩ | ⟨st,a,rfl,hr⟩ | rfl | ⟨pts,lab,c,rfl,ht⟩ | ⟨l,rfl,hl⟩ | ⟨s,c,l,rfl,h1,h2,h3,h4⟩
 any_goals (revert h; simp; done)
 unfold fmtM
 rw [if_pos hv]
 simp [restW,nameT,behind]
theorem zJc1 (s : Txt) : specM s = implM s := by
 unfold specM
 by_cases hs : s = sumT
 · rw [if_pos hs]
   have hv : isModuleF mSum' = true := zHl1.mod
   have h1 := zOt hv zDp1.w ⟨zDp1.cnt,zDp1.lab⟩
   have h2 := zWq hv rfl
   rw [h2,← hs] at h1
   rw [h1]
   have c0 : cP (0,0) = (0,0) := by decide
   have w0 : cW 0 = 0 := by decide
   have : cM mSum' = mSum' := by simp [cM,mSum',c0,w0]
   rw [this]
 rw [if_neg hs]
 cases hi : implM s with
 | some m =>
   obtain ⟨hv,hf⟩ := zHw hi
   have hw := zAr1 hi
   have h5 : m.kind ≠ 5 := fun h => hs (by rw [← hf,zWq hv h])
   have hc := zOt hv hw.w ⟨hw.cnt,hw.lab⟩
   rw [hf,hi] at hc
   injection hc with hc
   have hsp := zUk hv
   rw [hf] at hsp
   rw [hsp]
   obtain ⟨l1,l2⟩ := zJm1 hv h5
   have hwr := zQm1 hv hw h5
   simp only [hwr]
   rw [if_pos ⟨l1,l2,trivial,by rw [← hc]; exact hf⟩,← hc]
 | none =>
   split
   · rfl
   · rename_i w ws hsp
     rw [if_neg]
     rintro ⟨h1,h2,h3,h4⟩
     have hne : s ≠ [] := by
       intro h
       rw [h] at hsp
       simp only [splT,List.cons.injEq] at hsp
       rw [← hsp.2] at h1
       simp at h1
     have hv : isModuleF (wrdF w ws).1 = true := by
       cases hq : isModuleF (wrdF w ws).1 with
       | true => rfl
       | false =>
         exfalso
         have : fmtM (wrdF w ws).1 = [] := by simp [fmtM,hq]
         exact hne (by rw [← h4,this])
     have hw := (zDn1 w (ws := ws) (by omega)).2
     have hc := zOt hv hw.w ⟨hw.cnt,hw.lab⟩
     rw [h4,hi] at hc
     cases hc
end Go.SX
