/-
  impl: DropCable, DropModule, SwapModule at any index and module; what AddModule, AddCable and they hand back, as data.
  What the rack's operations hand back, as data.
  impl: ControlModule, TellModule, StepModule.
  impl.singleOf; the reader: take, integer, single, point.
  impl.ParseModule.
  spec.l1Split: a text cut at each byte.
  spec.l1Read: an integer of at most 17 digits.
  What spec.ParseModule gives is what impl's gives: plain words.
  Texts of racks: what impl.ParseRack reads (implR), what spec.ParseRack reads (specR); both are the same.
  Modules as data: ParseModule, ResetModule, ControlModule, TellModule at what a session holds.
  TellModule at a session's module: a point of 32 bits.
  RunRack, OrderOf, JacksOf, ReachOf at a session's rack, as data.
  strings.Join: its contract, for rows of strings that are data.
  No condition.
-/
import Derived.Test.YtfmpjhjnpeheeaaGreatDoorPkJ
set_option maxRecDepth 100000
set_option maxHeartbeats 16000000
set_option linter.unusedVariables false
set_option linter.unusedSimpArgs false
namespace Go.SX
open Go Go.Proofs Tryz Ieee
theorem zBd2 (l:List Mod)(k:Nat):(rowsM l).take k=rowsM (l.take k):=by simp[rowsM,List.map_take]
theorem zBe2 (l:List Mod)(k:Nat):(rowsM l).drop k=rowsM (l.drop k):=by simp[rowsM,List.map_drop]
theorem zBf2 (l:List Cbl)(k:Nat):(rowsC l).take k=rowsC (l.take k):=by simp[rowsC,List.map_take]
theorem zBg2 (l:List Cbl)(k:Nat):(rowsC l).drop k=rowsC (l.drop k):=by simp[rowsC,List.map_drop]
abbrev AVi:=AVr×Int
theorem zNm:∀a b:AVi,([D.agg (rkC a.1.1),.c (.im (.int .i64 a.2))],([]:List (List B)))=([D.agg (rkC b.1.1),.c (.im (.int .i64 b.2))],[])→a=b:=by
 rintro ⟨⟨a,_⟩,i⟩ ⟨⟨b,_⟩,j⟩ h;simp only[Prod.mk.injEq,List.cons.injEq,D.agg.injEq,D.c.injEq,C.im.injEq,I.int.injEq,true_and,and_true] at h;exact Prod.ext (Subtype.ext (zJd h.1)) h.2
theorem zVo1 {sc b:Bool}{ms:List Mod}{cs:List Cbl}:∀res,(Outs.one (rRackB b ms cs)).mem res→OkR sc res:=okO (by unfold rRackB;split;exact zXb;exact zXc)
def cutC (cs:List Cbl)(i:Int):List Cbl:=cs.take i.toNat++cs.drop (i.toNat+1)
def dcB (r:Rk)(i:Int):Bool:=decide (0≤i)&&(decide (i<r.2.length)&&isRackF r.1 (cutC r.2 i))
noncomputable def zLe:Ct:=fam true (fun x:AVi=>([.agg (rkC x.1.1),.c (.im (.int .i64 x.2))],[])) (fun x=>.one (rRackB (dcB x.1.1 x.2) x.1.1.1 (cutC x.1.1.2 x.2)))
theorem zAs1 {r:Rk}(h:VR r)(i:Int):zLe.run [.agg (rkC r),.c (.im (.int .i64 i))] []=some (.one (rRackB (dcB r i) r.1 (cutC r.2 i))):=zAc (ct:=zLe) rfl zNm (⟨r,h⟩,i)
theorem zBf1:Law prog 164 zLe:=by
 refine zAw (zAa zCs (zAa zMn (zAa zJu zAd))) hmixA func164 rfl rfl (fun ⟨⟨⟨ms,cs⟩,h⟩,i⟩=>⟨zVo1,by simp[f164],?_⟩);have b2:sm=16777216:=rfl;have p:=h.parts;have s1:=h.sm1;have s2:=h.sm2;have J:=h.rk;have G:=zBi h.sm1 h.sm2 h.ok;have U:=h.ok;simp only at p s1 s2 J G U;simp only[rkC];by_cases h0:i<0
 ·have V:=eq_true h0;have hb:dcB (ms,cs) i=false:=by simp only[dcB];rw[decide_eq_false (by omega),Bool.false_and]
  simp only[rRackB,rRackF];try simp -dsimp only[go_sem,f164,G,J,V,yaH]
  refine zAh [] ?_;simp -dsimp only[go_sem,hb,yat]
 have V:=eq_false h0;by_cases h1:(cs.length:Int)≤i
 ·have Z:=eq_true h1;have hb:dcB (ms,cs) i=false:=by simp only[dcB];rw[decide_eq_false (show ¬i<(cs.length:Int) by omega),Bool.false_and,Bool.and_false]
  simp only[rRackB,rRackF];clear h1;try simp -dsimp only[go_sem,f164,G,J,V,Z,zAo,yaH]
  refine zAh [] ?_;simp -dsimp only[go_sem,hb,yat]
 have Z:=eq_false h1;obtain ⟨k,rfl⟩:=Int.eq_ofNat_of_zero_le (show 0≤i by omega);have hk:k<cs.length:=by omega
 have E:cutC cs (k:Int)=cs.take k++cs.drop (k+1):=by simp[cutC]
 have hb:dcB (ms,cs) (k:Int)=isRackF ms (cs.take k++cs.drop (k+1)):=by
  simp only[dcB,E];rw[decide_eq_true (show (0:Int)≤(k:Int) by omega),decide_eq_true (show (k:Int)<(cs.length:Int) by omega),Bool.true_and,Bool.true_and]
 rw[hb,E];have g1:List.take k (rowsC cs)=rowsC (cs.take k):=zBf2 _ _;have g2:List.drop (k+1) (List.take cs.length (rowsC cs))=rowsC (cs.drop (k+1)):=by rw[List.take_of_length_le (by rw[zAo];omega),zBg2]
 have hw:IntKind.i64.wrap ((k:Int)+1)=((k+1:Nat):Int):=by rw[zAi (by omega) (by omega)];omega
 have c3:(k:Int)≤(cs.length:Int):=by omega
 have c4:0≤(k:Int):=by omega
 have c5:0≤((k+1:Nat):Int):=by omega
 have c6:((k+1:Nat):Int)≤(cs.length:Int):=by omega
 have rc:=zMc (a:=cs.take k) (b:=cs.drop (k+1)) (by simp;omega) (by simp;omega);have a6:(cs.take k++cs.drop (k+1)).length≤sm:=by simp;omega
 have F:=zJq (ms:=ms) (cs:=cs.take k++cs.drop (k+1)) s1 a6 U;have tk:∀l:List Cbl,List.take l.length (tI (rowsC l))=tI (rowsC l):=fun l=>List.take_of_length_le (by simp[zAg,zAo]);generalize cs.take k++cs.drop (k+1)=cs2 at*
 cases hr:isRackF ms cs2 with
 | false=>
  rw[hr] at F;simp only[rRackB,yat,yau,rRackF] at F ⊢;try simp -dsimp only[go_sem,f164,G,J,rc,rNew,F,zGn,zEp,zAo,g1,g2,hw,V,Z,c3,c4,c5,c6,tk,zBj,zAg,List.take_succ_cons,List.take_nil,Int.toNat_natCast,yaH]
  with_reducible repeat' first|refine sl_i ?_|refine ro_i ?_
  refine zAh [] ?_;simp -dsimp only[go_sem]
 | true=>
  rw[hr] at F;simp only[rRackB,yav,rRackT] at F ⊢;try simp -dsimp only[go_sem,f164,G,J,rc,rNew,F,zGn,zEp,zAo,g1,g2,hw,V,Z,c3,c4,c5,c6,tk,zBj,zAg,List.take_succ_cons,List.take_nil,Int.toNat_natCast,yaH]
  with_reducible repeat' first|refine sl_i ?_|refine ro_i ?_
  refine zAh [] ?_;simp -dsimp only[go_sem];refine⟨[_,_],?_,?_,?_,rfl,rfl⟩<;>simp[rtOk]
def shf (i x:Int):Int:=if i<x then x-1 else x
def cutM (i:Int)(cs:List Cbl):List Cbl:=(cs.filter fun c=>!(decide (c.1=i)||decide (c.2=i))).map fun c=>(shf i c.1,shf i c.2)
def dropM (ms:List Mod)(i:Int):List Mod:=ms.take i.toNat++ms.drop (i.toNat+1)
def dmB (r:Rk)(i:Int):Bool:=decide (0≤i)&&(decide (i<r.1.length)&&isRackF (dropM r.1 i) (cutM i r.2))
noncomputable def zJm:Ct:=fam true (fun x:AVi=>([.agg (rkC x.1.1),.c (.im (.int .i64 x.2))],[])) (fun x=>.one (rRackB (dmB x.1.1 x.2) (dropM x.1.1.1 x.2) (cutM x.2 x.1.1.2)))
theorem zWm {r:Rk}(h:VR r)(i:Int):zJm.run [.agg (rkC r),.c (.im (.int .i64 i))] []=some (.one (rRackB (dmB r i) (dropM r.1 i) (cutM i r.2))):=zAc (ct:=zJm) rfl zNm (⟨r,h⟩,i)
theorem zYm1 {cs:List Cbl}{k:Nat}{a b i:Int}(h:cs[k]?=some (a,b)):cutM i (cs.take (k+1))=cutM i (cs.take k)++(if a=i∨b=i then [] else [(shf i a,shf i b)]):=by
 rw[zCy h];by_cases h1:a=i
 ·simp[cutM,h1]
 ·by_cases h2:b=i
  ·simp[cutM,h2]
  ·simp[cutM,h1,h2]
theorem zYk:Law prog 162 zJm:=by
 refine zAw (zAa zCs (zAa zLl (zAa zJu zAd))) hmixA func162 rfl rfl (fun ⟨⟨⟨ms,cs⟩,h⟩,i⟩=>⟨zVo1,by simp[f162],?_⟩);have g7:sm=16777216:=rfl;have p:=h.parts;have s1:=h.sm1;have s2:=h.sm2;have r1:=h.rk;have ri:=zBi h.sm1 h.sm2 h.ok;have b7:=h.ok;simp only at p s1 s2 r1 ri b7;simp only[rkC];by_cases h0:i<0
 ·have e0:=eq_true h0;have hb:dmB (ms,cs) i=false:=by simp only[dmB];rw[decide_eq_false (by omega),Bool.false_and]
  simp only[rRackB,rRackF];try simp -dsimp only[go_sem,f162,ri,r1,e0,yaH]
  refine zAh [] ?_;simp -dsimp only[go_sem,hb,yat]
 have e0:=eq_false h0;by_cases h1:(ms.length:Int)≤i
 ·have e1:=eq_true h1;have hb:dmB (ms,cs) i=false:=by simp only[dmB];rw[decide_eq_false (show ¬i<(ms.length:Int) by omega),Bool.false_and,Bool.and_false]
  simp only[rRackB,rRackF];clear h1;try simp -dsimp only[go_sem,f162,ri,r1,e0,e1,zAj,yaH]
  refine zAh [] ?_;simp -dsimp only[go_sem,hb,yat]
 have e1:=eq_false h1;obtain ⟨k,rfl⟩:=Int.eq_ofNat_of_zero_le (show 0≤i by omega);have hk:k<ms.length:=by omega
 have b4:dropM ms (k:Int)=ms.take k++ms.drop (k+1):=by simp[dropM]
 have hb:dmB (ms,cs) (k:Int)=isRackF (ms.take k++ms.drop (k+1)) (cutM (k:Int) cs):=by
  simp only[dmB,b4];rw[decide_eq_true (show (0:Int)≤(k:Int) by omega),decide_eq_true (show (k:Int)<(ms.length:Int) by omega),Bool.true_and,Bool.true_and]
 rw[hb,b4];have g1:List.take k (rowsM ms)=rowsM (ms.take k):=zBd2 _ _;have g2:List.drop (k+1) (List.take ms.length (rowsM ms))=rowsM (ms.drop (k+1)):=by rw[List.take_of_length_le (by rw[zAj];omega),zBe2]
 have hw:IntKind.i64.wrap ((k:Int)+1)=((k+1:Nat):Int):=by rw[zAi (by omega) (by omega)];omega
 have c3:(k:Int)≤(ms.length:Int):=by omega
 have c4:0≤(k:Int):=by omega
 have c5:0≤((k+1:Nat):Int):=by omega
 have c6:((k+1:Nat):Int)≤(ms.length:Int):=by omega
 have e3:∀m∈ms.take k++ms.drop (k+1),OkM m:=fun m hm=>by
  rcases List.mem_append.1 hm with hm|hm
  ·exact b7 m (List.mem_of_mem_take hm)
  ·exact b7 m (List.mem_of_mem_drop hm)
 have rc:=zLj (a:=ms.take k) (b:=ms.drop (k+1)) (by simp;omega) (by simp;omega)
 have b8:∀j,(cutM (k:Int) (cs.take j)).length≤40:=fun j=>by
  simp only[cutM,List.length_map];refine Nat.le_trans (List.length_filter_le _ _) ?_;simp;omega
 have f2:(ms.take k++ms.drop (k+1)).length≤sm:=by simp;omega
 have f5:(cutM (k:Int) cs).length≤40:=by have:=b8 cs.length;rwa [List.take_length] at this
 have ro:=zJq (ms:=ms.take k++ms.drop (k+1)) (cs:=cutM (k:Int) cs) f2 (by omega) e3;generalize ms.take k++ms.drop (k+1)=ms2 at*;have lM:(tI (rowsM ms2)).length=ms2.length:=by rw[zAg,zAj]
 have d9:List.take ms2.length (tI (rowsM ms2))=tI (rowsM ms2):=List.take_of_length_le (by omega);have lC:∀j,(tI (rowsC (cutM (k:Int) (cs.take j)))).length=(cutM (k:Int) (cs.take j)).length:=fun j=>by rw[zAg,zAo]
 have c1:cutM (k:Int) (cs.take 0)=[]:=by simp[cutM]
 have e5:cutM (k:Int) (cs.take cs.length)=cutM (k:Int) cs:=by rw[List.take_length]
 have b9:∀j a b,cs[j]?=some (a,b)→cutM (k:Int) (cs.take (j+1))=cutM (k:Int) (cs.take j)++(if a=(k:Int)∨b=(k:Int) then [] else [(shf k a,shf k b)]):=fun j a b hj=>zYm1 hj;obtain ⟨G,hG⟩:∃G:Nat→List Cbl,∀j,cutM (k:Int) (cs.take j)=G j:=⟨_,fun _=>rfl⟩;simp only[hG] at b8 lC c1 e5 b9;try simp -dsimp only[go_sem,f162,ri,r1,rc,rNew,zHp,zAj,zAo,g1,g2,hw,e0,e1,c3,c4,c5,c6,Int.toNat_natCast,yaH]
 with_reducible repeat' first|refine sl_i ?_|refine ro_i ?_
 refine zAp (ι:={j:Nat//j≤cs.length}) (fun j=>⟨[(1,some (.c (.im (.int .i64 (k:Int))))),(4,some (.c (.ptr 0 0 0 0))),(6,some (.c (.ptr 1 0 0 0))),(37,some (.c (.im (.sl 2 (rowsC cs))))),(38,some (.c (.im (.int .i64 (cs.length:Int))))),(39,some (.c (.im (.int .i64 (j.1:Int)))))],
  [(0,some (.box [.t .nil,.t .nil])),(1,some (.box [.t (.lent 2 11 ms2.length),.t (.lent 3 2 (G j.1).length)])),(2,some (.arr 11 (tI (rowsM ms2)))),(3,some (.arr 2 (tI (rowsC (G j.1)))))],4⟩) (fun j=>cs.length-j.1) ⟨0,by omega⟩ ⟨[.nilT 98 0 1 2,.unf 98 0 1],[1,98,82,114],?sub⟩ (fun ⟨j,hj⟩=>?_)
 case sub=>
  ((simp only[go_sem,yai,zFz,zLo,c1])<;>(try (simp -dsimp only[go_sem,yaj,yai,zFz,zLo,yak,c1])))
  all_goals simp[tI,rowsC]
 simp only at hj ⊢;by_cases f1:j<cs.length;rotate_left
 ·have hI:¬((j:Int)<(cs.length:Int)):=by omega
  obtain rfl:j=cs.length:=by omega
  have b5:=lC cs.length;rw[e5] at b5 ⊢;generalize cutM (k:Int) cs=cs2 at*;have e2:List.take cs2.length (tI (rowsC cs2))=tI (rowsC cs2):=List.take_of_length_le (by omega)
  cases hr:isRackF ms2 cs2 with
  | false=>
   rw[hr] at ro;simp only[rRackB,yat,yau,rRackF] at ro ⊢;(try simp -dsimp only[go_sem,f162,hI,ro,zEp,d9,e2,lM,b5,zBj]);refine zAh [] ?_;simp -dsimp only[go_sem]
  | true=>
   rw[hr] at ro;simp only[rRackB,yav,rRackT] at ro ⊢;(try simp -dsimp only[go_sem,f162,hI,ro,zEp,d9,e2,lM,b5,zBj]);refine zAh [] ?_;simp -dsimp only[go_sem];refine⟨[_,_],?_,?_,?_,rfl,rfl⟩<;>simp[rtOk]
 have hI:(j:Int)<(cs.length:Int):=by omega
 have b0:0≤(j:Int):=by omega
 have a7:IntKind.i64.wrap ((j:Int)+1)=((j+1:Nat):Int):=by rw[zAi (by omega) (by omega)];omega
 obtain ⟨⟨x,y⟩,b6⟩:∃p,cs[j]?=some p:=⟨_,List.getElem?_eq_getElem f1⟩;obtain ⟨q1,q2,q3,q4⟩:=p.2.2.2.1 (x,y) (List.mem_of_getElem? b6);simp only at q1 q2 q3 q4;have E:=zIq b6;simp only at E;have Z:=b9 j x y b6;have g8:=b8 j;have b1:=lC j;by_cases hx:x=(k:Int)
 ·have d1:=eq_true hx;rw[if_pos (.inl hx),List.append_nil] at Z;clear hx;try simp -dsimp only[go_sem,hI,b0,a7,E,d1,Int.toNat_natCast]
  refine⟨⟨j+1,by omega⟩,by simp only[];omega,[],[0,1,2,3],?_⟩
  (simp only[go_sem,yai,Z,zFz,zLo])
  all_goals simp[lk,zAn]
 have d1:=eq_false hx;by_cases F:y=(k:Int)
 ·have d2:=eq_true F;rw[if_pos (.inr F),List.append_nil] at Z;clear hx F;try simp -dsimp only[go_sem,hI,b0,a7,E,d1,d2,Int.toNat_natCast]
  refine⟨⟨j+1,by omega⟩,by simp only[];omega,[],[0,1,2,3],?_⟩
  (simp only[go_sem,yai,Z,zFz,zLo])
  all_goals simp[lk,zAn]
 have d2:=eq_false F;rw[if_neg (by simp[hx,F])] at Z;have J:=zDl1 (G j) (shf k x) (shf k y);rw[←Z] at J;have U:(G (j+1)).length=(G j).length+1:=by rw[Z];simp
 have a6:(tI (rowsC (G (j+1)))).length=(G j).length+1:=by rw[lC,U]
 have b2:((G j).length+1)*16≤140737488355328:=by omega
 have d8:IntKind.i64.wrap (x-1)=x-1:=zAi (by omega) (by omega);have d7:IntKind.i64.wrap (y-1)=y-1:=zAi (by omega) (by omega);clear hx F b9;by_cases hx:(k:Int)<x
 ·have d3:=eq_true hx;have a8:shf k x=x-1:=by simp[shf,hx]
  by_cases F:(k:Int)<y
  ·have d4:=eq_true F;have V:shf k y=y-1:=(by simp[shf,F]);rw[a8,V] at J;clear hx F;(try simp -dsimp only[go_sem,hI,b0,a7,E,d1,d2,d3,d4,d8,d7,J,b2,b1,a6,appendH,srcRows,List.take_succ_cons,yan,yao,yap,okT,yaq,Int.toNat_natCast]);refine⟨⟨j+1,by omega⟩,by simp only[];omega,[],[0,1,2,6],?_⟩
   (simp only[go_sem,yai,U,zFz,zLo])
   all_goals simp[lk,zAn]
  ·have d4:=eq_false F;have V:shf k y=y:=(by simp[shf,F]);rw[a8,V] at J;clear hx F;(try simp -dsimp only[go_sem,hI,b0,a7,E,d1,d2,d3,d4,d8,J,b2,b1,a6,appendH,srcRows,List.take_succ_cons,yan,yao,yap,okT,yaq,Int.toNat_natCast]);refine⟨⟨j+1,by omega⟩,by simp only[];omega,[],[0,1,2,6],?_⟩
   (simp only[go_sem,yai,U,zFz,zLo])
   all_goals simp[lk,zAn]
 ·have d3:=eq_false hx;have a8:shf k x=x:=by simp[shf,hx]
  by_cases F:(k:Int)<y
  ·have d4:=eq_true F;have V:shf k y=y-1:=(by simp[shf,F]);rw[a8,V] at J;clear hx F;(try simp -dsimp only[go_sem,hI,b0,a7,E,d1,d2,d3,d4,d7,J,b2,b1,a6,appendH,srcRows,List.take_succ_cons,yan,yao,yap,okT,yaq,Int.toNat_natCast]);refine⟨⟨j+1,by omega⟩,by simp only[];omega,[],[0,1,2,6],?_⟩
   (simp only[go_sem,yai,U,zFz,zLo])
   all_goals simp[lk,zAn]
  ·have d4:=eq_false F;have V:shf k y=y:=(by simp[shf,F]);rw[a8,V] at J;clear hx F;(try simp -dsimp only[go_sem,hI,b0,a7,E,d1,d2,d3,d4,J,b2,b1,a6,appendH,srcRows,List.take_succ_cons,yan,yao,yap,okT,yaq,Int.toNat_natCast]);refine⟨⟨j+1,by omega⟩,by simp only[];omega,[],[0,1,2,6],?_⟩
   (simp only[go_sem,yai,U,zFz,zLo])
   all_goals simp[lk,zAn]
abbrev ASm:=(AVr×Int)×{m:Mod//OkM m}
def swB (r:Rk)(i:Int)(m:Mod):Bool:=decide (0≤i)&&(decide (i<r.1.length)&&isRackF (r.1.set i.toNat m) r.2)
noncomputable def zJh:Ct:=fam true (fun x:ASm=>([.agg (rkC x.1.1.1),.c (.im (.int .i64 x.1.2)),.agg (modC x.2.1)],[])) (fun x=>.one (rRackB (swB x.1.1.1 x.1.2 x.2.1) (x.1.1.1.1.set x.1.2.toNat x.2.1) x.1.1.1.2))
theorem zWe {r:Rk}(h:VR r)(i:Int){m:Mod}(hm:OkM m):zJh.run [.agg (rkC r),.c (.im (.int .i64 i)),.agg (modC m)] []=some (.one (rRackB (swB r i m) (r.1.set i.toNat m) r.2)):=by
 refine zAc (ct:=zJh) rfl ?_ ((⟨r,h⟩,i),⟨m,hm⟩);rintro ⟨⟨⟨a,_⟩,i⟩,⟨m,_⟩⟩ ⟨⟨⟨b,_⟩,j⟩,⟨n,_⟩⟩ h;simp only[Prod.mk.injEq,List.cons.injEq,D.agg.injEq,D.c.injEq,C.im.injEq,I.int.injEq,true_and,and_true] at h;obtain ⟨h1,rfl,h2⟩:=h;obtain rfl:=zJd h1;obtain rfl:=zDj h2;rfl
theorem zBn1 (ex:List Nat)(H:Nat→Option Root)(j:Nat):∀(ms:List Mod) (k:Nat) (m:Mod),mapO (mapO (toI ex H (j+1))) ((tM ms).set k ((modI m).map T.im))=some (rowsM (ms.set k m))
 | [],k,m=>by simp[tM,mapO,rowsM]
 | x::ms,0,m=>by
  have h1:=zBo1 ex H ms j;have h2:mapO (toI ex H (j+1)) ((modI m).map T.im)=some (modI m):=zEu1 (zEm2 ex H (j+1)) (modI m);simp only[tM,List.map_cons,List.set_cons_zero] at h1 ⊢;simp only[mapO,h2,h1,rowsM,List.map_cons]
 | x::ms,k+1,m=>by
  have h1:=zBn1 ex H j ms k m;have h2:=zBo1 ex H [x] j;simp only[tM,List.map_cons,List.map_nil,mapO,rowsM] at h1 h2;simp only[tM,List.map_cons,List.set_cons_succ,mapO,rowsM]
  cases hx:mapO (toI ex H (j+1)) (modT x) with
  | none=>rw[hx] at h2;cases h2
  | some y=>
   rw[hx] at h2;simp only[yaC,List.cons.injEq,and_true] at h2;subst h2;rw[h1]
theorem zYb:Law prog 161 zJh:=by
 refine zAw (zAa zCs (zAa zIv (zAa zJu zAd))) hmixA func161 rfl rfl (fun ⟨⟨⟨⟨ms,cs⟩,h⟩,i⟩,⟨⟨k,⟨t1,t2⟩,⟨s1,s2⟩,lv,st,ra,rc,pts,lab,c,l⟩,hm⟩⟩=>⟨zVo1,by simp[f161,modC],?_⟩);have c6:sm=16777216:=rfl;have p:=h.parts;have b5:=h.sm1;have V:=h.sm2;have r1:=h.rk;have Z:=zBi h.sm1 h.sm2 h.ok;have E:=zIo h.sm1 h.sm2 h.ok;have b0:=h.ok;simp only at p b5 V r1 Z b0 E;simp only[rkC,modC];by_cases h0:i<0
 ·have e0:=eq_true h0;have hb:∀m,swB (ms,cs) i m=false:=fun m=>by simp only[swB];rw[decide_eq_false (by omega),Bool.false_and]
  simp only[rRackB,rRackF];try simp -dsimp only[go_sem,f161,Z,r1,e0,yaH]
  refine zAh [] ?_;simp -dsimp only[go_sem,hb,yat]
 have e0:=eq_false h0;by_cases h1:(ms.length:Int)≤i
 ·have e1:=eq_true h1;have hb:∀m,swB (ms,cs) i m=false:=fun m=>by simp only[swB];rw[decide_eq_false (show ¬i<(ms.length:Int) by omega),Bool.false_and,Bool.and_false]
  simp only[rRackB,rRackF];clear h1;try simp -dsimp only[go_sem,f161,Z,r1,e0,e1,zAj,yaH]
  refine zAh [] ?_;simp -dsimp only[go_sem,hb,yat]
 have e1:=eq_false h1;obtain ⟨n,rfl⟩:=Int.eq_ofNat_of_zero_le (show 0≤i by omega);have hk:n<ms.length:=by omega
 have hb:∀m,swB (ms,cs) (n:Int) m=isRackF (ms.set n m) cs:=fun m=>by
  simp only[swB];rw[decide_eq_true (show (0:Int)≤(n:Int) by omega),decide_eq_true (show (n:Int)<(ms.length:Int) by omega),Bool.true_and,Bool.true_and];rfl
 simp only[Int.toNat_natCast];have c3:0≤(n:Int):=by omega
 have c4:(n:Int)<(ms.length:Int):=by omega
 obtain ⟨m0,hp⟩:∃m,ms[n]?=some m:=⟨_,List.getElem?_eq_getElem hk⟩;have hg:(tM ms)[n]?=some (modT m0):=by simp[tM,hp]
 have b1:∀x,((tM ms).set n x)[n]?=some x:=fun x=>List.getElem?_set_self (by rw[zFd];exact hk);have a7:∀x y,((tM ms).set n x).set n y=(tM ms).set n y:=fun x y=>by rw[List.set_set]
 have F:=fun ex H d=>zBn1 ex H d ms n ⟨k,(t1,t2),(s1,s2),lv,st,ra,rc,pts,lab,c,l⟩
 have a8:∀x∈ms.set n ⟨k,(t1,t2),(s1,s2),lv,st,ra,rc,pts,lab,c,l⟩,OkM x:=fun x hx=>by
  rcases List.mem_or_eq_of_mem_set hx with hx|rfl
  ·exact b0 x hx
  ·exact hm
 have G:=zJq (ms:=ms.set n ⟨k,(t1,t2),(s1,s2),lv,st,ra,rc,pts,lab,c,l⟩) (cs:=cs) (by simp;omega) V a8;have b6:(ms.set n ⟨k,(t1,t2),(s1,s2),lv,st,ra,rc,pts,lab,c,l⟩).length=ms.length:=by simp
 have b2:=hb ⟨k,(t1,t2),(s1,s2),lv,st,ra,rc,pts,lab,c,l⟩;generalize ms.set n ⟨k,(t1,t2),(s1,s2),lv,st,ra,rc,pts,lab,c,l⟩=ms2 at*;simp only[modI,List.map_cons,List.map_nil] at F;have U:∀x,List.take ms.length ((tM ms).set n x)=(tM ms).set n x:=fun x=>List.take_of_length_le (by rw[List.length_set,zFd];omega);have J:List.take cs.length (tI (rowsC cs))=tI (rowsC cs):=List.take_of_length_le (by simp[zAg,zAo])
 cases hr:isRackF ms2 cs with
 | false=>
  rw[hr] at G;simp only[rRackB,yat,yau,rRackF] at G ⊢;try simp -dsimp only[go_sem,f161,Z,r1,E,rRack,G,zEp,zAj,zFd,e0,e1,c3,c4,hg,modT,b1,a7,F,U,J,zBj,zAg,zAo,yaD,Int.toNat_natCast,yaH]
  refine zAh [] ?_;simp -dsimp only[go_sem,b2,hr,yat]
 | true=>
  rw[hr] at G;simp only[rRackB,yav,rRackT] at G ⊢;try simp -dsimp only[go_sem,f161,Z,r1,E,rRack,G,zEp,zAj,zFd,e0,e1,c3,c4,hg,modT,b1,a7,F,U,J,zBj,zAg,zAo,yaD,Int.toNat_natCast,yaH]
  refine zAh [] ?_;simp -dsimp only[go_sem,b2,hr];refine⟨[_,_],?_,?_,?_,rfl,rfl⟩<;>simp[rtOk]
theorem zHc {rs:List Root}{a b c d:D}(h1:FzD rs a c)(h2:FzD rs b d):FzD rs (.tup [a,b]) (.tup [c,d]):=by
 refine .tup _ _ rfl (fun j x y hx E=>?_)
 match j,hx,E with
 | 0,hx,E=>simp at hx E;subst hx E;exact h1
 | 1,hx,E=>simp at hx E;subst hx E;exact h2
 | j+2,hx,E=>simp at hx
theorem zFz1 {rs:List Root}{a b c d e f:D}(h1:FzD rs a d)(h2:FzD rs b e)(h3:FzD rs c f):FzD rs (.tup [a,b,c]) (.tup [d,e,f]):=by
 refine .tup _ _ rfl (fun j x y hx E=>?_)
 match j,hx,E with
 | 0,hx,E=>simp at hx E;subst hx E;exact h1
 | 1,hx,E=>simp at hx E;subst hx E;exact h2
 | 2,hx,E=>simp at hx E;subst hx E;exact h3
 | j+3,hx,E=>simp at hx
theorem fz_i {rs:List Root}(i:I):FzD rs (.c (.im i)) (.c (.im i)):=.c _ _ (.im _)
theorem zOq1 {cs:List C}(h:∀x∈cs,∃i,x=.im i)(i:I):OkR false {val:=.tup [.agg cs,.c (.im i)]}:=by
 refine⟨.tup _ (fun d hd=>?_),by simp,by simp⟩;simp only[yac,yad,or_false] at hd;rcases hd with rfl|rfl
 ·refine .inr ⟨_,rfl,fun x hx=>?_⟩;obtain ⟨i,rfl⟩:=h x hx;exact .im _ (.inl rfl)
 ·exact .inl ⟨_,rfl,.im _ (.inl rfl)⟩
theorem zXa {cs:List C}(h:∀x∈cs,∃i,x=.im i)(i j:I):OkR false {val:=.tup [.agg cs,.c (.im i),.c (.im j)]}:=by
 refine⟨.tup _ (fun d hd=>?_),by simp,by simp⟩;simp only[yac,yad,or_false] at hd;rcases hd with rfl|rfl|rfl
 ·refine .inr ⟨_,rfl,fun x hx=>?_⟩;obtain ⟨i,rfl⟩:=h x hx;exact .im _ (.inl rfl)
 ·exact .inl ⟨_,rfl,.im _ (.inl rfl)⟩
 ·exact .inl ⟨_,rfl,.im _ (.inl rfl)⟩
theorem zEr2 (i j:I):OkR false {val:=.tup [.c (.im i),.c (.im j)]}:=by
 refine⟨.tup _ (fun d hd=>?_),by simp,by simp⟩;simp only[yac,yad,or_false] at hd;rcases hd with rfl|rfl<;>exact .inl ⟨_,rfl,.im _ (.inl rfl)⟩
def okRk (b:Bool)(r:Rk):Rk:=if b=true then r else ([],[])
def rDk (b:Bool)(r:Rk):Res:={val:=.tup [.agg (rkC (okRk b r)),.c (.im (.bool b))]}
theorem zOt1 {b:Bool}{r:Rk}:∀res,(Outs.one (rDk b r)).mem res→OkR false res:=okO (zOq1 (zOk1 _) _)
theorem zDm2 {b:Bool}{ms:List Mod}{cs:List Cbl}:∀res,(Outs.one (rRackB b ms cs)).mem res→∃res',(Outs.one (rDk b (ms,cs))).mem res'∧res'.roots=[]∧res.places=[]∧res'.places=[]∧FzD res.roots res.val res'.val:=by
 intro res E
 cases E
 cases b with
 | true=>exact⟨_,rfl,rfl,rfl,rfl,zHc (zYo (zDn2 rfl) (zBj1 rfl (zAo _))) (fz_i _)⟩
 | false=>exact⟨_,rfl,rfl,rfl,rfl,zHc (zYo (.nil _) (.nil _)) (fz_i _)⟩
noncomputable def zFv:Ct:=fam false (fun x:AVi=>([.agg (rkC x.1.1),.c (.im (.int .i64 x.2))],[])) (fun x=>.one (rDk (dcB x.1.1 x.2) (x.1.1.1,cutC x.1.1.2 x.2)))
theorem zAr1 {r:Rk}(h:VR r)(i:Int):zFv.run [.agg (rkC r),.c (.im (.int .i64 i))] []=some (.one (rDk (dcB r i) (r.1,cutC r.2 i))):=zAc (ct:=zFv) rfl zNm (⟨r,h⟩,i)
theorem zKi:(zFv.sc=true)=False:=by simp[zFv,fam]
theorem zBe1:Law prog 164 zFv:=zDq zBf1 (fun ⟨⟨r,h⟩,i⟩=>⟨zOt1,_,zAs1 h i,zDm2⟩)
noncomputable def zEv:Ct:=fam false (fun x:AVi=>([.agg (rkC x.1.1),.c (.im (.int .i64 x.2))],[])) (fun x=>.one (rDk (dmB x.1.1 x.2) (dropM x.1.1.1 x.2,cutM x.2 x.1.1.2)))
theorem zWl {r:Rk}(h:VR r)(i:Int):zEv.run [.agg (rkC r),.c (.im (.int .i64 i))] []=some (.one (rDk (dmB r i) (dropM r.1 i,cutM i r.2))):=zAc (ct:=zEv) rfl zNm (⟨r,h⟩,i)
theorem zJc:(zEv.sc=true)=False:=by simp[zEv,fam]
theorem zYj:Law prog 162 zEv:=zDq zYk (fun ⟨⟨r,h⟩,i⟩=>⟨zOt1,_,zWm h i,zDm2⟩)
theorem zJm2:∀a b:ASm,([D.agg (rkC a.1.1.1),.c (.im (.int .i64 a.1.2)),.agg (modC a.2.1)],([]:List (List B)))=([D.agg (rkC b.1.1.1),.c (.im (.int .i64 b.1.2)),.agg (modC b.2.1)],[])→a=b:=by
 rintro ⟨⟨⟨a,_⟩,i⟩,⟨m,_⟩⟩ ⟨⟨⟨b,_⟩,j⟩,⟨n,_⟩⟩ h;simp only[Prod.mk.injEq,List.cons.injEq,D.agg.injEq,D.c.injEq,C.im.injEq,I.int.injEq,true_and,and_true] at h;obtain ⟨h1,rfl,h2⟩:=h;obtain rfl:=zJd h1;obtain rfl:=zDj h2;rfl
noncomputable def zEu:Ct:=fam false (fun x:ASm=>([.agg (rkC x.1.1.1),.c (.im (.int .i64 x.1.2)),.agg (modC x.2.1)],[])) (fun x=>.one (rDk (swB x.1.1.1 x.1.2 x.2.1) (x.1.1.1.1.set x.1.2.toNat x.2.1,x.1.1.1.2)))
theorem zMa {r:Rk}(h:VR r)(i:Int){m:Mod}(hm:OkM m):zEu.run [.agg (rkC r),.c (.im (.int .i64 i)),.agg (modC m)] []=some (.one (rDk (swB r i m) (r.1.set i.toNat m,r.2))):=
 zAc (ct:=zEu) rfl zJm2 ((⟨r,h⟩,i),⟨m,hm⟩)
theorem zGm:(zEu.sc=true)=False:=by simp[zEu,fam]
theorem zMl:Law prog 161 zEu:=zDq zYb (fun ⟨⟨⟨r,h⟩,i⟩,⟨m,hm⟩⟩=>⟨zOt1,_,zWe h i hm,zDm2⟩)
noncomputable def zGz:Ct:=fam false (fun x:AVi×Int=>([.agg (rkC x.1.1.1),.c (.im (.int .i64 x.1.2)),.c (.im (.int .i64 x.2))],[])) (fun x=>.one (rDk (addF x.1.1.1.1 x.1.1.1.2 x.1.2 x.2) (x.1.1.1.1,x.1.1.1.2++[(x.1.2,x.2)])))
theorem zEj1 {r:Rk}(h:VR r)(a b:Int):zGz.run [.agg (rkC r),.c (.im (.int .i64 a)),.c (.im (.int .i64 b))] []=some (.one (rDk (addF r.1 r.2 a b) (r.1,r.2++[(a,b)]))):=by
 refine zAc (ct:=zGz) rfl ?_ ((⟨r,h⟩,a),b);rintro ⟨⟨⟨a,_⟩,i⟩,k⟩ ⟨⟨⟨b,_⟩,j⟩,l⟩ h;simp only[Prod.mk.injEq,List.cons.injEq,D.agg.injEq,D.c.injEq,C.im.injEq,I.int.injEq,true_and,and_true] at h;obtain ⟨h1,rfl,rfl⟩:=h;obtain rfl:=zJd h1;rfl
theorem zLu:(zGz.sc=true)=False:=by simp[zGz,fam]
theorem zFt1:Law prog 163 zGz:=zDq zJz1 (fun ⟨⟨⟨r,h⟩,a⟩,b⟩=>⟨zOt1,_,zIp1 h.sm1 (show r.2.length≤400 by have:=h.parts.2.1;omega) h.ok a b,zDm2⟩)
def rDa (b:Bool)(r:Rk)(n:Nat):Res:={val:=.tup [.agg (rkC (okRk b r)),.c (.im (.int .i64 (if b=true then (n:Int) else 0))),.c (.im (.bool b))]}
abbrev AVm:=AVr×{m:Mod//OkM m}
noncomputable def zFy:Ct:=fam false (fun x:AVm=>([.agg (rkC x.1.1),.agg (modC x.2.1)],[])) (fun x=>.one (rDa (amF x.1.1.1 x.1.1.2 x.2.1) (x.1.1.1++[x.2.1],x.1.1.2) x.1.1.1.length))
theorem zAu1 {r:Rk}(h:VR r){m:Mod}(hm:OkM m):zFy.run [.agg (rkC r),.agg (modC m)] []=some (.one (rDa (amF r.1 r.2 m) (r.1++[m],r.2) r.1.length)):=by
 refine zAc (ct:=zFy) rfl ?_ (⟨r,h⟩,⟨m,hm⟩);rintro ⟨⟨a,_⟩,⟨m,_⟩⟩ ⟨⟨b,_⟩,⟨n,_⟩⟩ h;simp only[Prod.mk.injEq,List.cons.injEq,D.agg.injEq,and_true] at h;obtain rfl:=zJd h.1;obtain rfl:=zDj h.2;rfl
theorem zKj:(zFy.sc=true)=False:=by simp[zFy,fam]
theorem zBi1:Law prog 159 zFy:=by
 refine zDq zFs1 (fun ⟨⟨r,h⟩,⟨m,E⟩⟩=>⟨okO (zXa (zOk1 _) _ _),_,zEi1 (show r.1.length≤400 by have:=h.parts.1;omega) h.sm2 h.ok E,fun res hr=>?_⟩)
 cases hr
 simp only;unfold rAm
 cases amF r.1 r.2 m with
 | true=>exact⟨_,rfl,rfl,rfl,rfl,zFz1 (zYo (zDn2 rfl) (zBj1 rfl (zAo _))) (fz_i _) (fz_i _)⟩
 | false=>exact⟨_,rfl,rfl,rfl,rfl,zFz1 (zYo (.nil _) (.nil _)) (fz_i _) (fz_i _)⟩
theorem zNf2 {r:Rk}{i:Int}(h:VR r)(hb:dcB r i=true):VR (r.1,cutC r.2 i):=by
 simp only[dcB,yay] at hb;exact⟨hb.2.2,h.wd⟩
theorem zNe2 {r:Rk}{i:Int}(h:VR r)(hb:dmB r i=true):VR (dropM r.1 i,cutM i r.2):=by
 simp only[dmB,yay] at hb;refine⟨hb.2.2,fun m E=>h.wd m ?_⟩;rcases List.mem_append.1 E with E|E
 ·exact List.mem_of_mem_take E
 ·exact List.mem_of_mem_drop E
theorem zJu2 {r:Rk}{i:Int}{m:Mod}(h:VR r)(hm:Wd m)(hb:swB r i m=true):VR (r.1.set i.toNat m,r.2):=by
 simp only[swB,yay] at hb;refine⟨hb.2.2,fun x hx=>?_⟩;rcases List.mem_or_eq_of_mem_set hx with hx|rfl
 ·exact h.wd x hx
 ·exact hm
theorem zNj2 {r:Rk}{a b:Int}(h:VR r)(hb:addF r.1 r.2 a b=true):VR (r.1,r.2++[(a,b)]):=by
 simp only[addF,yay] at hb;exact⟨hb.2,h.wd⟩
theorem zNi2 {r:Rk}{m:Mod}(h:VR r)(hm:Wd m)(hb:amF r.1 r.2 m=true):VR (r.1++[m],r.2):=by
 simp only[amF,yay] at hb;refine⟨hb.2,fun x hx=>?_⟩;rcases List.mem_append.1 hx with hx|hx
 ·exact h.wd x hx
 ·simp only[yaz] at hx;subst hx;exact hm
def canC (m:Mod):Bool:=hasF [1,2,3] m.kind
def canT (m:Mod):Bool:=hasF [1,2,6,7,8] m.kind
def rCs (m:Mod)(z:Pt):Res:=if canC m=true then {val:=.tup [(rMod (ctlM m z)).val,.c (.im (.bool true))],roots:=(rMod (ctlM m z)).roots}
 else {val:=.tup [.agg [.im (.int .i64 0),.im (.cpx .f32 0 0),.im (.cpx .f32 0 0),.im (.flt .f32 0),.nil,.im (.int .i64 0),.im (.int .i64 0),.nil,.nil,.im (.int .i64 0),.im (.int .i64 0)],.c (.im (.bool false))]}
theorem zKq2 {sc:Bool}{m:Mod}{z:Pt}:OkR sc (rCs m z):=by
 unfold rCs;split
 ·obtain ⟨h1,h2,h3⟩:=zMi1 (sc:=sc) (m:=ctlM m z);refine⟨.tup _ (fun d hd=>?_),h2,by simp⟩;simp only[yac,yad,or_false] at hd;rcases hd with rfl|rfl
  ·cases h1 with
   | agg xs hx=>exact .inr ⟨_,rfl,hx⟩
  ·exact .inl ⟨_,rfl,zBr rfl⟩
 ·refine⟨.tup _ (fun d hd=>?_),by simp,by simp⟩;simp only[yac,yad,or_false] at hd;rcases hd with rfl|rfl
  ·refine .inr ⟨_,rfl,fun x hx=>?_⟩;simp only[yac,yad,or_false] at hx;rcases hx with rfl|rfl|rfl|rfl|rfl|rfl|rfl|rfl|rfl|rfl|rfl<;>first|exact zBr rfl|exact .nil
  ·exact .inl ⟨_,rfl,zBr rfl⟩
noncomputable def zHe:Ct:=fam true (fun x:AMv×Pt=>([.agg (modC x.1.m),.c (.im (.cpx .f32 x.2.1 x.2.2))],[])) (fun x=>.one (rCs x.1.m x.2))
theorem zJo2 {x y:AMv×Pt}(h:(([D.agg (modC x.1.m),.c (.im (.cpx .f32 x.2.1 x.2.2))],[]):List D×List (List B))=([.agg (modC y.1.m),.c (.im (.cpx .f32 y.2.1 y.2.2))],[])):x=y:=by
 obtain ⟨⟨a,_,_⟩,⟨p,q⟩⟩:=x;obtain ⟨⟨b,_,_⟩,⟨F,E⟩⟩:=y;simp only[Prod.mk.injEq,List.cons.injEq,D.agg.injEq,D.c.injEq,C.im.injEq,I.cpx.injEq,true_and,and_true] at h;obtain ⟨h,rfl,rfl⟩:=h;have:=zDj h;subst this;rfl
theorem zRy {m:Mod}(h1:OkM m)(h2:isModuleF m=true)(u v:Nat):zHe.run [.agg (modC m),.c (.im (.cpx .f32 u v))] []=some (.one (rCs m (u,v))):=
 zAc (ct:=zHe) rfl (fun _ _ h=>zJo2 h) (⟨m,h1,h2⟩,(u,v))
theorem zSn:Law prog 15 zHe:=by
 refine zAw (zAa zGt (zAa zFh (zAa zJe zAd))) hmixA func15 rfl rfl (fun ⟨⟨⟨k,⟨t1,t2⟩,⟨s1,s2⟩,lv,st,ra,rc,pts,lab,c,l⟩,⟨Z,V,U⟩,G⟩,⟨u,v⟩⟩=>⟨okO zKq2,by simp[f15,modC],?_⟩);simp only at Z V U;simp only[modC];have a7:sm=16777216:=rfl;have hk:=zEt1 G;simp only at hk;have J:=fun k=>zBk (k:=k) (t1:=t1) (t2:=t2) (s1:=s1) (s2:=s2) (lv:=lv) (ra:=ra) (rc:=rc) (c:=c) (l:=l) Z V U;have F:=fun k=>zGo (k:=k) (t1:=t1) (t2:=t2) (s1:=s1) (s2:=s2) (lv:=lv) (ra:=ra) (rc:=rc) (c:=c) (l:=l) Z V U;rcases hk with rfl|rfl|rfl|rfl|rfl|rfl|rfl|rfl
 ·have E:hasF [1,2,3] 1=true:=by decide
  have hr:rCs ⟨1,(t1,t2),(s1,s2),lv,st,ra,rc,pts,lab,c,l⟩ (u,v)={val:=.tup [.agg [.im (.int .i64 1),.im (.cpx .f32 u v),.im (.cpx .f32 s1 s2),.im (.flt .f32 lv),.view 0 1 0 st.length,.im (.int .i64 ra),.im (.int .i64 rc),.view 1 1 0 pts.length,.view 2 1 0 lab.length,.im (.int .i64 c),.im (.int .i64 l)],.c (.im (.bool true))],roots:=[.arr 1 (tI (rowsZ st)),.arr 1 (tI (rowsZ pts)),.arr 1 (tI (rowsN lab))]}:=by simp[rCs,canC,E,ctlM,rMod]
  try simp -dsimp only[go_sem,f15,zAu,E,J,G,F,rMod,Int.reduceEq,yaH]
  refine zAh [] ?_;simp -dsimp only[go_sem,hr];refine⟨[2,3,4],?_,?_,?_,rfl,?_⟩<;>simp[rtOk]
 ·have E:hasF [1,2,3] 2=true:=by decide
  have hr:rCs ⟨2,(t1,t2),(s1,s2),lv,st,ra,rc,pts,lab,c,l⟩ (u,v)={val:=.tup [.agg [.im (.int .i64 2),.im (.cpx .f32 u v),.im (.cpx .f32 s1 s2),.im (.flt .f32 lv),.view 0 1 0 st.length,.im (.int .i64 ra),.im (.int .i64 rc),.view 1 1 0 pts.length,.view 2 1 0 lab.length,.im (.int .i64 c),.im (.int .i64 l)],.c (.im (.bool true))],roots:=[.arr 1 (tI (rowsZ st)),.arr 1 (tI (rowsZ pts)),.arr 1 (tI (rowsN lab))]}:=by simp[rCs,canC,E,ctlM,rMod]
  try simp -dsimp only[go_sem,f15,zAu,E,J,G,F,rMod,Int.reduceEq,yaH]
  refine zAh [] ?_;simp -dsimp only[go_sem,hr];refine⟨[2,3,4],?_,?_,?_,rfl,?_⟩<;>simp[rtOk]
 ·have E:hasF [1,2,3] 3=true:=by decide
  have hr:rCs ⟨3,(t1,t2),(s1,s2),lv,st,ra,rc,pts,lab,c,l⟩ (u,v)={val:=.tup [.agg [.im (.int .i64 3),.im (.cpx .f32 t1 t2),.im (.cpx .f32 s1 s2),.im (.flt .f32 u),.view 0 1 0 st.length,.im (.int .i64 ra),.im (.int .i64 rc),.view 1 1 0 pts.length,.view 2 1 0 lab.length,.im (.int .i64 c),.im (.int .i64 l)],.c (.im (.bool true))],roots:=[.arr 1 (tI (rowsZ st)),.arr 1 (tI (rowsZ pts)),.arr 1 (tI (rowsN lab))]}:=by simp[rCs,canC,E,ctlM,rMod]
  try simp -dsimp only[go_sem,f15,zAu,E,J,G,F,rMod,yaH]
  refine zAh [] ?_;simp -dsimp only[go_sem,hr];refine⟨[2,3,4],?_,?_,?_,rfl,?_⟩<;>simp[rtOk]
 ·have E:hasF [1,2,3] 4=false:=by decide
  have hr:rCs ⟨4,(t1,t2),(s1,s2),lv,st,ra,rc,pts,lab,c,l⟩ (u,v)={val:=.tup [.agg [.im (.int .i64 0),.im (.cpx .f32 0 0),.im (.cpx .f32 0 0),.im (.flt .f32 0),.nil,.im (.int .i64 0),.im (.int .i64 0),.nil,.nil,.im (.int .i64 0),.im (.int .i64 0)],.c (.im (.bool false))]}:=by simp[rCs,canC,E]
  try simp -dsimp only[go_sem,f15,zAu,E,yaI]
  refine zAh [] ?_;simp -dsimp only[go_sem,hr]
 ·have E:hasF [1,2,3] 5=false:=by decide
  have hr:rCs ⟨5,(t1,t2),(s1,s2),lv,st,ra,rc,pts,lab,c,l⟩ (u,v)={val:=.tup [.agg [.im (.int .i64 0),.im (.cpx .f32 0 0),.im (.cpx .f32 0 0),.im (.flt .f32 0),.nil,.im (.int .i64 0),.im (.int .i64 0),.nil,.nil,.im (.int .i64 0),.im (.int .i64 0)],.c (.im (.bool false))]}:=by simp[rCs,canC,E]
  try simp -dsimp only[go_sem,f15,zAu,E,yaI]
  refine zAh [] ?_;simp -dsimp only[go_sem,hr]
 ·have E:hasF [1,2,3] 6=false:=by decide
  have hr:rCs ⟨6,(t1,t2),(s1,s2),lv,st,ra,rc,pts,lab,c,l⟩ (u,v)={val:=.tup [.agg [.im (.int .i64 0),.im (.cpx .f32 0 0),.im (.cpx .f32 0 0),.im (.flt .f32 0),.nil,.im (.int .i64 0),.im (.int .i64 0),.nil,.nil,.im (.int .i64 0),.im (.int .i64 0)],.c (.im (.bool false))]}:=by simp[rCs,canC,E]
  try simp -dsimp only[go_sem,f15,zAu,E,yaI]
  refine zAh [] ?_;simp -dsimp only[go_sem,hr]
 ·have E:hasF [1,2,3] 7=false:=by decide
  have hr:rCs ⟨7,(t1,t2),(s1,s2),lv,st,ra,rc,pts,lab,c,l⟩ (u,v)={val:=.tup [.agg [.im (.int .i64 0),.im (.cpx .f32 0 0),.im (.cpx .f32 0 0),.im (.flt .f32 0),.nil,.im (.int .i64 0),.im (.int .i64 0),.nil,.nil,.im (.int .i64 0),.im (.int .i64 0)],.c (.im (.bool false))]}:=by simp[rCs,canC,E]
  try simp -dsimp only[go_sem,f15,zAu,E,yaI]
  refine zAh [] ?_;simp -dsimp only[go_sem,hr]
 ·have E:hasF [1,2,3] 8=false:=by decide
  have hr:rCs ⟨8,(t1,t2),(s1,s2),lv,st,ra,rc,pts,lab,c,l⟩ (u,v)={val:=.tup [.agg [.im (.int .i64 0),.im (.cpx .f32 0 0),.im (.cpx .f32 0 0),.im (.flt .f32 0),.nil,.im (.int .i64 0),.im (.int .i64 0),.nil,.nil,.im (.int .i64 0),.im (.int .i64 0)],.c (.im (.bool false))]}:=by simp[rCs,canC,E]
  try simp -dsimp only[go_sem,f15,zAu,E,yaI]
  refine zAh [] ?_;simp -dsimp only[go_sem,hr]
noncomputable def oSg (s:Txt):Outs:=.one {val:=.tup [.c (.im (.flt .f32 (sglP s).1)),.c (.im (.bool (sglP s).2))]}
theorem zKw2 (s:Txt){sc:Bool}:∀res,(oSg s).mem res→OkR sc res:=okO ⟨.tup _ (by intro d hd;simp at hd;rcases hd with rfl|rfl<;>exact .inl ⟨_,rfl,zBr rfl⟩),by simp,by simp⟩
noncomputable def zOz:Ct:=fam true (fun s:S21=>([.c (.im (.str ⟨s.1.toArray⟩))],[])) (fun s=>oSg s.1)
theorem zTn {s:Txt}(h:s.length≤2097152):zOz.run [.c (.im (.str ⟨s.toArray⟩))] []=some (oSg s):=
 zAc (ct:=zOz) rfl zNt1 ⟨s,h⟩
theorem zMa2:fconv .f64 9221120237041090561 .f32=some (qn .f32):=by decide +kernel
theorem zMb2:fconv .f64 9218868437227405312 .f32=some 2139095040:=by decide +kernel
theorem zJb2:fconv .f64 18442240474082181120 .f32=some 4286578688:=by decide +kernel
theorem zJk1:Law prog 103 zOz:=by
 refine zAf (zAa zCp2 (zAa zCq2 (zAa zYf zAd))) hmixA func103 rfl rfl (fun ⟨s,hs⟩=>⟨zKw2 s,by simp[f103],?_⟩);simp only[oSg] at hs ⊢;have J:=zAx2;have G:=zUg1;have F:=zUf1;have Z:=zMa2;have V:=zMb2;have U:=zJb2;by_cases h1:s=[110,97,110]
 ·have ho:sglP s=(qn .f32,true):=by simp[sglP,h1,nanT]
  have h1:=eq_true h1;rw[ho];generalize qn .f32=Q at*;generalize (9221120237041090561:Nat)=X1 at*;try simp -dsimp only[go_sem,f103,zAr,h1,J,Z]
 by_cases h2:s=[105,110,102]
 ·have ho:sglP s=(2139095040,true):=by simp[sglP,h2,nanT,infT]
  have h1:=eq_false h1;have h2:=eq_true h2;rw[ho];generalize (9218868437227405312:Nat)=X1 at*;generalize (2139095040:Nat)=X2 at*;try simp -dsimp only[go_sem,f103,zAr,h1,h2,G,V]
 by_cases h3:s=[45,105,110,102]
 ·have ho:sglP s=(4286578688,true):=by simp[sglP,h3,nanT,infT,ninfT]
  have h1:=eq_false h1;have h2:=eq_false h2;have h3:=eq_true h3;rw[ho];generalize (18442240474082181120:Nat)=X1 at*;generalize (4286578688:Nat)=X2 at*;try simp -dsimp only[go_sem,f103,zAr,h1,h2,h3,F,U]
 have ho:sglP s=prsO s:=by unfold sglP prsO;rw[if_neg (show ¬s=nanT from h1),if_neg (show ¬s=infT from h2),if_neg (show ¬s=ninfT from h3)];cases prsT s<;>rfl
 have E:=zWi hs;simp only[oPs] at E;rw[ho];have h1:=eq_false h1;have h2:=eq_false h2;have h3:=eq_false h3;clear J G F Z V U;try simp -dsimp only[go_sem,f103,zAr,h1,h2,h3,E]
def hsRd (ps:List Txt)(bad:Bool):List (List B):=[[.t (.im (.sl 1 (rowsS ps))),.t (.im (.bool bad))]]
theorem zDj2 {a b:List Txt}{x y:Bool}(h:hsRd a x=hsRd b y):a=b∧x=y:=by
 simp only[hsRd,List.cons.injEq,B.t.injEq,T.im.injEq,I.sl.injEq,I.bool.injEq,zUu,true_and,and_true] at h;exact h
structure ARd where
 ps:List Txt
 bad:Bool
 h:ps.length≤sm
 s:∀p∈ps,p.length≤2097152
theorem zUv {v:D}{ps:List Txt}{bad:Bool}(hv:OkD false 0 v):OkR false {val:=v,places:=hsRd ps bad}:=by
 refine⟨hv,by simp,fun c hc x hx=>?_⟩;simp only[hsRd,yac,yad,or_false] at hc;subst hc;simp only[yac,yad,or_false] at hx;rcases hx with rfl|rfl
 ·exact .t _ (.im _ (.inl rfl))
 ·exact .t _ (.im _ (.inl rfl))
def takF (ps:List Txt)(bad:Bool):Txt×List Txt×Bool:=match ps with
 | []=>([],[],true)
 | p::t=>(p,t,bad)
theorem zOl1:∀a b:ARd,([D.c (.ptr 0 0 0 0)],hsRd a.ps a.bad)=([D.c (.ptr 0 0 0 0)],hsRd b.ps b.bad)→a=b:=by
 rintro ⟨a,x,_,_⟩ ⟨b,y,_,_⟩ h;simp only[Prod.mk.injEq,true_and] at h;obtain ⟨rfl,rfl⟩:=zDj2 h;rfl
noncomputable def zYs:Ct:=fam false (fun x:ARd=>([.c (.ptr 0 0 0 0)],hsRd x.ps x.bad)) (fun x=>.one {val:=.c (.im (.str ⟨(takF x.ps x.bad).1.toArray⟩)),places:=hsRd (takF x.ps x.bad).2.1 (takF x.ps x.bad).2.2})
theorem zDr1 {ps:List Txt}{bad:Bool}(h:ps.length≤sm)(s:∀p∈ps,p.length≤2097152):zYs.run [.c (.ptr 0 0 0 0)] [[.t (.im (.sl 1 (rowsS ps))),.t (.im (.bool bad))]]=some (.one {val:=.c (.im (.str ⟨(takF ps bad).1.toArray⟩)),places:=hsRd (takF ps bad).2.1 (takF ps bad).2.2}):=
 zAc (ct:=zYs) rfl zOl1 ⟨ps,bad,h,s⟩
theorem zEx1:Law prog 40 zYs:=by
 refine zAf zAd hmixA func40 rfl rfl (fun ⟨ps,bad,h,hs⟩=>⟨okO (zUv (.c _ (.im _ (.inl rfl)))),by simp[f40],?_⟩);simp only[hsRd];have c0:((0:Nat):Int)=0:=rfl
 cases ps with
 | nil=>
  simp only[takF,zBa];try simp -dsimp only[go_sem,f40,c0]
 | cons p t=>
  have h1:(((t.length+1:Nat):Int)=0)=False:=eq_false (by omega);have h3:(1:Int)≤((t.length+1:Nat):Int):=by omega
  have h4:List.drop 1 (List.take (t.length+1) ([I.str ⟨p.toArray⟩]::rowsS t))=rowsS t:=by rw[List.take_of_length_le (by simp[zBe])];rfl
  simp only[takF,zDu];try simp -dsimp only[go_sem,f40,h4,zBe,h1,h3,Int.toNat_one,Int.toNat_natCast,Int.reduceLE]
theorem zAp2:sglP []=(0,false):=by
 have E:prsT []=none:=by
  cases h:prsT [] with
  | none=>rfl
  | some w=>
   obtain ⟨h1,h2⟩:=zWu h;exact absurd h2 (zIz2 h1)
 unfold sglP;rw[if_neg (by decide),if_neg (by decide),if_neg (by decide),E]
theorem zBv2:numF []=(0,false):=by decide
theorem zVm:(zYs.sc=true)=False:=by simp[zYs,fam]
noncomputable def zIf:Ct:=fam false (fun x:ARd=>([.c (.ptr 0 0 0 0)],hsRd x.ps x.bad)) (fun x=>.one {val:=.c (.im (.flt .f32 (rdS x.ps x.bad).1)),places:=hsRd (rdS x.ps x.bad).2.1 (rdS x.ps x.bad).2.2})
theorem zNq {ps:List Txt}{bad:Bool}(h:ps.length≤sm)(s:∀p∈ps,p.length≤2097152):zIf.run [.c (.ptr 0 0 0 0)] [[.t (.im (.sl 1 (rowsS ps))),.t (.im (.bool bad))]]=some (.one {val:=.c (.im (.flt .f32 (rdS ps bad).1)),places:=hsRd (rdS ps bad).2.1 (rdS ps bad).2.2}):=
 zAc (ct:=zIf) rfl zOl1 ⟨ps,bad,h,s⟩
theorem zCk1:Law prog 43 zIf:=by
 refine zAf (zAa zEx1 (zAa zJk1 zAd)) hmixA func43 rfl rfl (fun ⟨ps,bad,h,hs⟩=>⟨okO (zUv (.c _ (.im _ (.inl rfl)))),by simp[f43],?_⟩);simp only[hsRd];have E:=zDr1 (bad:=bad) h hs
 cases ps with
 | nil=>
   have r0:=zTn (s:=[]) (by simp);simp only[oSg,zAp2] at r0;simp only[takF,hsRd,zBa] at E;simp only[rdS,zBa];try simp -dsimp only[go_sem,f43,E,zVm,r0]
 | cons p t=>
   have r0:=zTn (s:=p) (hs p (by simp));simp only[oSg] at r0;simp only[takF,hsRd,zDu] at E;simp only[rdS,zDu]
   cases ho:(sglP p).2<;>rw[ho] at r0<;>cases bad
   all_goals (
     try simp -dsimp only[go_sem,f43,E,zVm,r0,yaI,yaH,Bool.or_true,Bool.or_false])
noncomputable def zEm:Ct:=fam false (fun x:ARd=>([.c (.ptr 0 0 0 0)],hsRd x.ps x.bad)) (fun x=>.one {val:=.c (.im (.int .i64 (rdI x.ps x.bad).1)),places:=hsRd (rdI x.ps x.bad).2.1 (rdI x.ps x.bad).2.2})
theorem zDp {ps:List Txt}{bad:Bool}(h:ps.length≤sm)(s:∀p∈ps,p.length≤2097152):zEm.run [.c (.ptr 0 0 0 0)] [[.t (.im (.sl 1 (rowsS ps))),.t (.im (.bool bad))]]=some (.one {val:=.c (.im (.int .i64 (rdI ps bad).1)),places:=hsRd (rdI ps bad).2.1 (rdI ps bad).2.2}):=
 zAc (ct:=zEm) rfl zOl1 ⟨ps,bad,h,s⟩
theorem zOs:Law prog 44 zEm:=by
 refine zAf (zAa zEx1 (zAa zSj zAd)) hmixA func44 rfl rfl (fun ⟨ps,bad,h,hs⟩=>⟨okO (zUv (.c _ (.im _ (.inl rfl)))),by simp[f44],?_⟩);simp only[hsRd];have E:=zDr1 (bad:=bad) h hs
 cases ps with
 | nil=>
   have r0:=zGd (s:=[]) (by simp);simp only[zBv2] at r0;simp only[takF,hsRd,zBa] at E;simp only[rdI,zBa];try simp -dsimp only[go_sem,f44,E,zVm,r0]
 | cons p t=>
   have r0:=zGd (s:=p) (hs p (by simp));simp only[takF,hsRd,zDu] at E;simp only[rdI,zDu]
   cases ho:(numF p).2<;>rw[ho] at r0<;>cases bad
   all_goals (
     try simp -dsimp only[go_sem,f44,E,zVm,r0,yaI,yaH,Bool.or_true,Bool.or_false])
noncomputable def zKy:Ct:=fam false (fun x:ARd=>([.c (.ptr 0 0 0 0)],hsRd x.ps x.bad)) (fun x=>.one {val:=.c (.im (.cpx .f32 (rdP x.ps x.bad).1.1 (rdP x.ps x.bad).1.2)),places:=hsRd (rdP x.ps x.bad).2.1 (rdP x.ps x.bad).2.2})
theorem zEq {ps:List Txt}{bad:Bool}(h:ps.length≤sm)(s:∀p∈ps,p.length≤2097152):zKy.run [.c (.ptr 0 0 0 0)] [[.t (.im (.sl 1 (rowsS ps))),.t (.im (.bool bad))]]=some (.one {val:=.c (.im (.cpx .f32 (rdP ps bad).1.1 (rdP ps bad).1.2)),places:=hsRd (rdP ps bad).2.1 (rdP ps bad).2.2}):=
 zAc (ct:=zKy) rfl zOl1 ⟨ps,bad,h,s⟩
theorem zMd1 {ps:List Txt}{bad:Bool}(s:∀p∈ps,p.length≤2097152):∀p∈(rdS ps bad).2.1,p.length≤2097152:=by
 cases ps with
 | nil=>simp[rdS]
 | cons a t=>exact fun p hp=>s p (List.mem_cons_of_mem _ hp)
theorem zKo {ps:List Txt}{bad:Bool}(s:∀p∈ps,p.length≤2097152):∀p∈(rdI ps bad).2.1,p.length≤2097152:=by
 cases ps with
 | nil=>simp[rdI]
 | cons a t=>exact fun p hp=>s p (List.mem_cons_of_mem _ hp)
theorem zSa {ps:List Txt}{bad:Bool}(s:∀p∈ps,p.length≤2097152):∀p∈(rdP ps bad).2.1,p.length≤2097152:=zMd1 (zMd1 s)
theorem zJm1:Law prog 42 zKy:=by
 refine zAf (zAa zCk1 zAd) hmixA func42 rfl rfl (fun ⟨ps,bad,h,hs⟩=>⟨okO (zUv (.c _ (.im _ (.inl rfl)))),by simp[f42],?_⟩);simp only[hsRd,rdP];have G:=zNq (bad:=bad) h hs;have F:=zNq (ps:=(rdS ps bad).2.1) (bad:=(rdS ps bad).2.2) (by rw[zUy1];omega) (zMd1 hs);simp only[hsRd] at G F;generalize rdS (rdS ps bad).2.1 (rdS ps bad).2.2=Y at*;generalize rdS ps bad=X at*;have E:(zIf.sc=true)=False:=by simp[zIf,fam]
 try simp -dsimp only[go_sem,f42,G,F,E]
theorem zOa1 (l:List Pt)(x y:Nat):tI (rowsZ l)++[[T.im (.cpx .f32 x y)]]=tI (rowsZ (l++[(x,y)])):=by simp[tI,rowsZ]
theorem zAi2 (l:List Int)(x:Int):tI (rowsN l)++[[T.im (.int .i64 x)]]=tI (rowsN (l++[x])):=by simp[tI,rowsN]
theorem zFn2 (l:List Int):MvR false (.arr 1 (tI (rowsN l)))=True:=eq_true (zBv _ _)
def kNms:List Txt:=[[],[115,111,117,114,99,101],[109,105,120,101,114],[103,97,105,110],[100,101,108,97,121],[115,117,109],[115,108,105,99,101,114],[109,101,116,101,114],[104,111,108,100]]
theorem zAj1:zIy.run [] []=some (.one {val:=.c (.view 0 1 0 9),roots:=[.arr 1 (tI (rowsS kNms))]}):=zCm
theorem zAr2 (l:List Txt):∀r∈rowsS l,∀i∈r,scI i=true:=by
 intro r hr i hi;simp only[rowsS,List.mem_map] at hr;obtain ⟨p,_,rfl⟩:=hr;simp only[yaz] at hi;subst hi;rfl
def kdF (w:Txt):Nat→Int
 | 0=>0
 | k+1=>if 0<k∧kNms.getD k []=w then (k:Int) else kdF w k
theorem zIr2 (w:Txt):kdF w 9=kindT w:=by
 simp only[kdF,kNms,kindT,sourceT,mixerT,gainT,delayT,sumT,slicerT,meterT,holdT,List.getD_cons_succ,List.getD_cons_zero];by_cases h1:[115,111,117,114,99,101]=w
 ·subst h1;decide
 by_cases h2:[109,105,120,101,114]=w
 ·subst h2;decide
 by_cases h3:[103,97,105,110]=w
 ·subst h3;decide
 by_cases h4:[100,101,108,97,121]=w
 ·subst h4;decide
 by_cases J:[115,117,109]=w
 ·subst J;decide
 by_cases G:[115,108,105,99,101,114]=w
 ·subst G;decide
 by_cases F:[109,101,116,101,114]=w
 ·subst F;decide
 by_cases E:[104,111,108,100]=w
 ·subst E;decide
 simp[h1,h2,h3,h4,J,G,F,E,Ne.symm h1,Ne.symm h2,Ne.symm h3,Ne.symm h4,Ne.symm J,Ne.symm G,Ne.symm F,Ne.symm E]
def rModB (m:Mod)(b:Bool):Res:={val:=.tup [.agg [.im (.int .i64 m.kind),.im (.cpx .f32 m.turn.1 m.turn.2),.im (.cpx .f32 m.state.1 m.state.2),.im (.flt .f32 m.level),.view 0 1 0 m.store.length,.im (.int .i64 m.rat),.im (.int .i64 m.rcnt),.view 1 1 0 m.pts.length,.view 2 1 0 m.lab.length,.im (.int .i64 m.count),.im (.int .i64 m.left)],.c (.im (.bool b))],roots:=[.arr 1 (tI (rowsZ m.store)),.arr 1 (tI (rowsZ m.pts)),.arr 1 (tI (rowsN m.lab))]}
theorem zOr1 {sc:Bool}{m:Mod}{b:Bool}:OkR sc (rModB m b):=by
 refine⟨.tup _ (fun d hd=>?_),fun r hr=>?_,by simp[rModB]⟩
 ·simp only[yac,yad,or_false] at hd;rcases hd with rfl|rfl
  ·refine .inr ⟨_,rfl,fun x hx=>?_⟩;simp only[yac,yad,or_false] at hx;rcases hx with rfl|rfl|rfl|rfl|rfl|rfl|rfl|rfl|rfl|rfl|rfl<;>first|exact zBr rfl|exact .view _ _ _ _ (by simp[rModB])
  ·exact .inl ⟨_,rfl,zBr rfl⟩
 ·simp only[rModB,yac,yad,or_false] at hr;rcases hr with rfl|rfl|rfl
  ·exact zDg (zCz _)
  ·exact zDg (zCz _)
  ·exact zDg (zEw _)
abbrev S20:={s:Txt//s.length≤1048576}
noncomputable def oPm (s:Txt):Outs:=match implM s with
 | some m=>.one (rModB m true)
 | none=>.one (rModB (mod0 0) false)
noncomputable def zJl:Ct:=fam true (fun s:S20=>([.c (.im (.str ⟨s.1.toArray⟩))],[])) (fun s=>oPm s.1)
theorem zZf1:∀a b:S20,([D.c (.im (.str ⟨a.1.toArray⟩))],([]:List (List B)))=([D.c (.im (.str ⟨b.1.toArray⟩))],[])→a=b:=by
 rintro ⟨a,_⟩ ⟨b,_⟩ h;simp only[Prod.mk.injEq,List.cons.injEq,D.c.injEq,C.im.injEq,I.str.injEq,zLn,and_true] at h;exact Subtype.ext h
theorem zWj {s:Txt}(h:s.length≤1048576):zJl.run [.c (.im (.str ⟨s.toArray⟩))] []=some (oPm s):=
 zAc (ct:=zJl) rfl zZf1 ⟨s,h⟩
theorem zKy2 (s:Txt){sc:Bool}:∀res,(oPm s).mem res→OkR sc res:=by
 unfold oPm
 cases implM s with
 | none=>exact okO zOr1
 | some m=>exact okO zOr1
theorem zMu2:qn .f32<4294967296:=by decide
theorem zHe2 (s:Txt):(sglP s).1<4294967296:=by
 unfold sglP;split
 ·exact zMu2
 split
 ·decide
 split
 ·decide
 ·cases h:prsT s with
  | none=>simp
  | some w=>exact (zWu h).1.lt
theorem zIt1 (ps:List Txt)(bad:Bool):(rdS ps bad).1<4294967296:=by
 cases ps with
 | nil=>simp[rdS]
 | cons p t=>exact zHe2 p
theorem zEo1 (ps:List Txt)(bad:Bool):i64B (rdI ps bad).1:=by
 cases ps with
 | nil=>simp[rdI,i64B]
 | cons p t=>exact zMl1 p
theorem zMe (ps:List Txt)(bad:Bool):(rdP ps bad).1.1<4294967296∧(rdP ps bad).1.2<4294967296:=⟨zIt1 _ _,zIt1 _ _⟩
theorem zNk1:∀(n:Nat) (ps:List Txt) (bad:Bool),ps.length≤n→(dlyP ps bad).1.length≤ps.length∧∀p∈(dlyP ps bad).1,p.1<4294967296∧p.2<4294967296
 | 0,ps,bad,h=>by
  have:ps=[]:=List.eq_nil_of_length_eq_zero (by omega);subst this;unfold dlyP;simp
 | n+1,ps,bad,h=>by
  unfold dlyP;split
  ·rename_i hc;have hl:0<ps.length:=List.length_pos_iff.2 hc.1;have F:=zNk1 n (rdP ps bad).2.1 (rdP ps bad).2.2 (by rw[zHb];omega);rw[zHb] at F;refine⟨by simp only[yab];omega,fun p E=>?_⟩;rcases List.mem_cons.1 E with rfl|E
   ·exact zMe _ _
   ·exact F.2 p E
  ·simp
theorem zDo1:∀(n:Nat) (ps:List Txt) (bad:Bool),ps.length≤n→(slcP ps bad).1.length≤ps.length∧(slcP ps bad).2.1.length=(slcP ps bad).1.length∧(∀p∈(slcP ps bad).1,p.1<4294967296∧p.2<4294967296)∧∀x∈(slcP ps bad).2.1,i64B x
 | 0,ps,bad,h=>by
  have:ps=[]:=List.eq_nil_of_length_eq_zero (by omega);subst this;unfold slcP;simp
 | n+1,ps,bad,h=>by
  unfold slcP;split
  ·rename_i hc;have hl:0<ps.length:=List.length_pos_iff.2 hc.1;have E:=zDo1 n (rdI (rdP ps bad).2.1 (rdP ps bad).2.2).2.1 (rdI (rdP ps bad).2.1 (rdP ps bad).2.2).2.2 (by rw[zGg,zHb];omega);rw[zGg,zHb] at E;refine⟨by simp only[yab];omega,by simp only[yab];omega,fun p F=>?_,fun x hx=>?_⟩
   ·rcases List.mem_cons.1 F with rfl|F
    ·exact zMe _ _
    ·exact E.2.2.1 p F
   ·rcases List.mem_cons.1 hx with rfl|hx
    ·exact zEo1 _ _
    ·exact E.2.2.2 x hx
  ·simp
theorem zBo:(zIi.sc=true)=True:=by simp[zIi,fam]
theorem zDa:(zKy.sc=true)=False:=by simp[zKy,fam]
theorem zEo:(zIf.sc=true)=False:=by simp[zIf,fam]
theorem zFe:(zEm.sc=true)=False:=by simp[zEm,fam]
theorem zEr1 {s w:Txt}{ps rest:List Txt}{M:Mod}{bd:Bool}(hws:splT 32 s=w::ps)(hR:readM (kindT w) ps=(M,rest,bd)):
 oPm s=if bd=false∧rest=[]∧isModuleF M=true∧fmtM M=s then .one (rModB M true) else .one (rModB (mod0 0) false):=by
 have h:implM s=if bd=false∧rest=[]∧isModuleF M=true∧fmtM M=s then some M else none:=by
  unfold implM;rw[hws];simp only[hR]
 unfold oPm;rw[h];by_cases hc:bd=false∧rest=[]∧isModuleF M=true∧fmtM M=s
 ·rw[if_pos hc,if_pos hc]
 ·rw[if_neg hc,if_neg hc]
theorem zNd1 (w:Txt):kindT w=1∨kindT w=2∨kindT w=3∨kindT w=4∨kindT w=5∨kindT w=6∨kindT w=7∨kindT w=8∨kindT w=0:=by
 unfold kindT
 repeat' split
 all_goals simp
theorem zYg:Law prog 8 zJl:=by
 refine zAw (zAa zQq (zAa zEx1 (zAa zQn (zAa zJm1 (zAa zCk1 (zAa zOs (zAa zFh (zAa zUj zAd)))))))) hmixA func8 rfl rfl (fun ⟨s,hs⟩=>⟨zKy2 s,by simp[f8],?_⟩);simp only at hs ⊢;have k3:sm=16777216:=rfl;have c9:((9:Nat):Int)=9:=rfl;have zTg1:MvR false (.arr 1 (tI (rowsS kNms)))=True:=eq_true (zDg (zAr2 _));have e8:=zQa (s:=s) (by omega) 32
 obtain ⟨w,ps,c6⟩:∃w ps,splT 32 s=w::ps:=by
  cases h:splT 32 s with
  | nil=>exact absurd h (zDn1 _ _)
  | cons w ps=>exact⟨w,ps,rfl⟩
 have d9:=zPs 32 s;have e5:=zPr 32 s;rw[c6] at d9 e5 e8;have f3:(w::ps).length≤sm:=by omega
 have d7:∀p∈w::ps,p.length≤2097152:=fun p hp=>by have:=e5 p hp;omega
 have rt:=zDr1 (ps:=w::ps) (bad:=false) f3 d7;simp only[takF,hsRd] at rt;try simp -dsimp only[go_sem,f8,e8,zBb,rt,zVm,zAj1]
 refine zAp (ι:={k:Nat//k≤9}) (fun k=>⟨[(0,some (.c (.im (.str ⟨s.toArray⟩)))),(2,some (.c (.ptr 0 0 0 0))),(4,some (.c (.ptr 1 0 0 0))),(5,some (.c (.im (.str ⟨w.toArray⟩)))),(6,some (.c (.ptr 2 0 0 0))),(16,some (.c (.view 3 1 0 9))),(17,some (.c (.im (.int .i64 9)))),(18,some (.c (.im (.int .i64 (k.1:Int)))))],
  [(0,some (.box [.t (.im (.int .i64 0)),.t (.im (.cpx .f32 0 0)),.t (.im (.cpx .f32 0 0)),.t (.im (.flt .f32 0)),.t .nil,.t (.im (.int .i64 0)),.t (.im (.int .i64 0)),.t .nil,.t .nil,.t (.im (.int .i64 0)),.t (.im (.int .i64 0))])),
   (1,some (.box [.t (.im (.sl 1 (rowsS ps))),.t (.im (.bool false))])),
   (2,some (.box [.t (.im (.int .i64 (kdF w k.1))),.t (.im (.cpx .f32 0 0)),.t (.im (.cpx .f32 0 0)),.t (.im (.flt .f32 0)),.t (.lent 4 1 0),.t (.im (.int .i64 0)),.t (.im (.int .i64 0)),.t (.lent 5 1 0),.t (.lent 6 1 0),.t (.im (.int .i64 0)),.t (.im (.int .i64 0))])),
   (3,some (.arr 1 (tI (rowsS kNms)))),(4,some (.arr 1 [])),(5,some (.arr 1 [])),(6,some (.arr 1 []))],7⟩) (fun k=>9-k.1) ⟨0,by omega⟩ ⟨[.nilT 2 0 4 1,.nilT 2 0 7 1,.nilT 2 0 8 1,.unf 2 0 4,.unf 2 0 7,.unf 2 0 8],[0,1,2,3,4,5,6],?sub⟩ (fun ⟨k,hk⟩=>?_)
 case sub=>
  ((simp only[go_sem,yai,c9,kdF,zTg1,zAn,zTh])<;>(try (simp -dsimp only[go_sem,yaj,yai,yak,c9,kdF,zTg1,zAn,zTh])))
  all_goals simp[]
 simp only;by_cases j0:k<9
 ·obtain ⟨q,hq⟩:∃q,kNms[k]?=some q:=⟨kNms[k]'(by simpa[kNms] using j0),List.getElem?_eq_getElem _⟩;have d5:(tI (rowsS kNms))[k]?=some [T.im (.str ⟨q.toArray⟩)]:=by simp[tI,rowsS,hq]
  have hI:((k:Int)<9)=True:=eq_true (by omega);have b0:0≤(k:Int):=by omega
  have f1:IntKind.i64.wrap ((k:Int)+1)=((k+1:Nat):Int):=by rw[zAi (by omega) (by omega)];omega
  have k4:(tI (rowsS kNms)).length=9:=rfl;have g8:kNms.getD k []=q:=by rw[List.getD_eq_getElem?_getD,hq];rfl
  by_cases j1:0<k
  ·have g0:=eq_true (show (0:Int)<(k:Int) by omega);by_cases he:q=w
   ·have f6:=eq_true he;have e0:kdF w (k+1)=(k:Int):=(by simp only[kdF,g8];rw[if_pos ⟨j1,he⟩]);(try simp -dsimp only[go_sem,hI,b0,d5,f1,c9,g0,zAr,f6,Int.toNat_natCast]);refine⟨⟨k+1,by omega⟩,by simp only[];omega,[],[0,1,2,3,4,5,6],?_⟩
    (simp only[go_sem,yai,e0,zTg1,zAn])
    all_goals simp[lk,zAn,zTh]
   ·have f6:=eq_false he;have e0:kdF w (k+1)=kdF w k:=(by simp only[kdF,g8];rw[if_neg (fun h=>he h.2)]);(try simp -dsimp only[go_sem,hI,b0,d5,f1,c9,g0,zAr,f6,Int.toNat_natCast]);refine⟨⟨k+1,by omega⟩,by simp only[];omega,[],[0,1,2,3,4,5,6],?_⟩
    (simp only[go_sem,yai,e0,zTg1,zAn])
    all_goals simp[lk,zAn,zTh]
  ·have f4:k=0:=(by omega);subst f4;have e0:kdF w (0+1)=kdF w 0:=(by simp[kdF]);have g0:¬((0:Int)<((0:Nat):Int)):=(by simp);(try simp -dsimp only[go_sem,hI,b0,d5,f1,c9,g0,Int.toNat_natCast]);refine⟨⟨0+1,by omega⟩,by simp only[];omega,[],[0,1,2,3,4,5,6],?_⟩
   (simp only[go_sem,yai,e0,zTg1,zAn])
   all_goals simp[lk,zAn,zTh]
 have hI:((k:Int)<9)=False:=eq_false (by omega);have f4:k=9:=by omega
 subst f4;rw[zIr2];have c1:ps.length≤sm:=by simp only[yab] at f3;omega
 have a8:∀p∈ps,p.length≤2097152:=fun p hp=>d7 p (List.mem_cons_of_mem _ hp);clear e8 rt hI f3 d7;have c0:((0:Nat):Int)=0:=rfl;rcases zNd1 w with hK|hK|hK|hK|hK|hK|hK|hK|hK
 ·have hR:readM (kindT w) ps=(⟨1,(rdP ps false).1,(rdP (rdP ps false).2.1 (rdP ps false).2.2).1,0,[],0,0,[],[],0,0⟩,(rdP (rdP ps false).2.1 (rdP ps false).2.2).2):=by rw[hK];simp[readM,mod0]
  have U:=zEq (bad:=false) c1 a8;have r2:=zEq (ps:=(rdP ps false).2.1) (bad:=(rdP ps false).2.2) (by rw[zHb];omega) (zSa a8);have w1:=zMe ps false;have w2:=zMe (rdP ps false).2.1 (rdP ps false).2.2;simp only[hsRd] at U r2;rw[hK];generalize rdP (rdP ps false).2.1 (rdP ps false).2.2=Y at*;generalize rdP ps false=X at*;obtain ⟨⟨t1,t2⟩,V,b1⟩:=X;obtain ⟨⟨s1,s2⟩,a7,bd⟩:=Y;simp only at U r2 w1 w2 hR;have ho:=zEr1 c6 hR
  cases bd with
  | true=>
   rw[ho,if_neg (by simp)];(try simp -dsimp only[go_sem,f8,c9,U,r2,zDa,Int.reduceLT]);refine zAh [.nilT 0 0 4 1,.nilT 0 0 7 1,.nilT 0 0 8 1,.unf 0 0 4,.unf 0 0 7,.unf 0 0 8] ?_;simp -dsimp only[go_sem,rModB,mod0];refine⟨[7,8,9],?_,?_,?_,rfl,rfl,rfl⟩<;>simp[rtOk,tI,rowsZ,rowsN]
  | false=>
  cases a7 with
  | cons p0 t0=>
   have hg:(0:Int)<((t0.length+1:Nat):Int):=(by omega);rw[ho,if_neg (by simp)];(try simp -dsimp only[go_sem,f8,c9,U,r2,zDa,Int.reduceLT,zBe,hg]);refine zAh [.nilT 0 0 4 1,.nilT 0 0 7 1,.nilT 0 0 8 1,.unf 0 0 4,.unf 0 0 7,.unf 0 0 8] ?_;simp -dsimp only[go_sem,rModB,mod0];refine⟨[7,8,9],?_,?_,?_,rfl,rfl,rfl⟩<;>simp[rtOk,tI,rowsZ,rowsN]
  | nil=>
  have G:=zBk (k:=1) (t1:=t1) (t2:=t2) (s1:=s1) (s2:=s2) (lv:=0) (st:=[]) (ra:=0) (rc:=0) (pts:=[]) (lab:=[]) (c:=0) (l:=0) (by simp) (by simp) (by simp);have rf:=zBg ⟨⟨1,(t1,t2),(s1,s2),0,[],0,0,[],[],0,0⟩,⟨by simp,by simp,by simp⟩,⟨w1,w2,by simp,by simp,by simp⟩,by simp[i64B],by simp[i64B],by simp[i64B],by simp⟩;simp only[modC,zAk,zAq] at G rf
  cases hv:isModuleF ⟨1,(t1,t2),(s1,s2),0,[],0,0,[],[],0,0⟩ with
  | false=>
   rw[hv] at G;rw[ho,if_neg (by simp[hv])];(try simp -dsimp only[go_sem,f8,c9,U,r2,zDa,zBo,List.take_nil,Int.reduceLT,yaI,zBa,c0,G]);refine zAh [.nilT 0 0 4 1,.nilT 0 0 7 1,.nilT 0 0 8 1,.unf 0 0 4,.unf 0 0 7,.unf 0 0 8] ?_;simp -dsimp only[go_sem,rModB,mod0];refine⟨[7,8,9],?_,?_,?_,rfl,rfl,rfl⟩<;>simp[rtOk,tI,rowsZ,rowsN]
  | true=>
  rw[hv] at G;by_cases hf:fmtM ⟨1,(t1,t2),(s1,s2),0,[],0,0,[],[],0,0⟩=s
  ·have E:=eq_true hf;rw[ho,if_pos ⟨rfl,rfl,hv,hf⟩];(try simp -dsimp only[go_sem,f8,c9,U,r2,zDa,zBo,List.take_nil,Int.reduceLT,yaH,zBa,c0,G,rf,zAz,zAr,E]);refine zAh [] ?_;simp -dsimp only[go_sem,rModB];refine⟨[4,5,6],?_,?_,?_,rfl,rfl,rfl⟩<;>simp[rtOk,tI,rowsZ,rowsN]
  ·have E:=eq_false hf;rw[ho,if_neg (fun h=>hf h.2.2.2)];(try simp -dsimp only[go_sem,f8,c9,U,r2,zDa,zBo,List.take_nil,Int.reduceLT,yaH,yaI,zBa,c0,G,rf,zAz,zAr,E]);refine zAh [.nilT 0 0 4 1,.nilT 0 0 7 1,.nilT 0 0 8 1,.unf 0 0 4,.unf 0 0 7,.unf 0 0 8] ?_;simp -dsimp only[go_sem,rModB,mod0];refine⟨[7,8,9],?_,?_,?_,rfl,rfl,rfl⟩<;>simp[rtOk,tI,rowsZ,rowsN]
 ·have hR:readM (kindT w) ps=(⟨2,(rdP ps false).1,(rdP (rdP ps false).2.1 (rdP ps false).2.2).1,0,[],0,0,[],[],0,0⟩,(rdP (rdP ps false).2.1 (rdP ps false).2.2).2):=by rw[hK];simp[readM,mod0]
  have U:=zEq (bad:=false) c1 a8;have r2:=zEq (ps:=(rdP ps false).2.1) (bad:=(rdP ps false).2.2) (by rw[zHb];omega) (zSa a8);have w1:=zMe ps false;have w2:=zMe (rdP ps false).2.1 (rdP ps false).2.2;simp only[hsRd] at U r2;rw[hK];generalize rdP (rdP ps false).2.1 (rdP ps false).2.2=Y at*;generalize rdP ps false=X at*;obtain ⟨⟨t1,t2⟩,V,b1⟩:=X;obtain ⟨⟨s1,s2⟩,a7,bd⟩:=Y;simp only at U r2 w1 w2 hR;have ho:=zEr1 c6 hR
  cases bd with
  | true=>
   rw[ho,if_neg (by simp)];(try simp -dsimp only[go_sem,f8,c9,U,r2,zDa,Int.reduceLT,Int.reduceEq]);refine zAh [.nilT 0 0 4 1,.nilT 0 0 7 1,.nilT 0 0 8 1,.unf 0 0 4,.unf 0 0 7,.unf 0 0 8] ?_;simp -dsimp only[go_sem,rModB,mod0];refine⟨[7,8,9],?_,?_,?_,rfl,rfl,rfl⟩<;>simp[rtOk,tI,rowsZ,rowsN]
  | false=>
  cases a7 with
  | cons p0 t0=>
   have hg:(0:Int)<((t0.length+1:Nat):Int):=(by omega);rw[ho,if_neg (by simp)];(try simp -dsimp only[go_sem,f8,c9,U,r2,zDa,Int.reduceLT,Int.reduceEq,zBe,hg]);refine zAh [.nilT 0 0 4 1,.nilT 0 0 7 1,.nilT 0 0 8 1,.unf 0 0 4,.unf 0 0 7,.unf 0 0 8] ?_;simp -dsimp only[go_sem,rModB,mod0];refine⟨[7,8,9],?_,?_,?_,rfl,rfl,rfl⟩<;>simp[rtOk,tI,rowsZ,rowsN]
  | nil=>
  have G:=zBk (k:=2) (t1:=t1) (t2:=t2) (s1:=s1) (s2:=s2) (lv:=0) (st:=[]) (ra:=0) (rc:=0) (pts:=[]) (lab:=[]) (c:=0) (l:=0) (by simp) (by simp) (by simp);have rf:=zBg ⟨⟨2,(t1,t2),(s1,s2),0,[],0,0,[],[],0,0⟩,⟨by simp,by simp,by simp⟩,⟨w1,w2,by simp,by simp,by simp⟩,by simp[i64B],by simp[i64B],by simp[i64B],by simp⟩;simp only[modC,zAk,zAq] at G rf
  cases hv:isModuleF ⟨2,(t1,t2),(s1,s2),0,[],0,0,[],[],0,0⟩ with
  | false=>
   rw[hv] at G;rw[ho,if_neg (by simp[hv])];(try simp -dsimp only[go_sem,f8,c9,U,r2,zDa,zBo,List.take_nil,Int.reduceLT,Int.reduceEq,yaI,zBa,c0,G]);refine zAh [.nilT 0 0 4 1,.nilT 0 0 7 1,.nilT 0 0 8 1,.unf 0 0 4,.unf 0 0 7,.unf 0 0 8] ?_;simp -dsimp only[go_sem,rModB,mod0];refine⟨[7,8,9],?_,?_,?_,rfl,rfl,rfl⟩<;>simp[rtOk,tI,rowsZ,rowsN]
  | true=>
  rw[hv] at G;by_cases hf:fmtM ⟨2,(t1,t2),(s1,s2),0,[],0,0,[],[],0,0⟩=s
  ·have E:=eq_true hf;rw[ho,if_pos ⟨rfl,rfl,hv,hf⟩];(try simp -dsimp only[go_sem,f8,c9,U,r2,zDa,zBo,List.take_nil,Int.reduceLT,Int.reduceEq,yaH,zBa,c0,G,rf,zAz,zAr,E]);refine zAh [] ?_;simp -dsimp only[go_sem,rModB];refine⟨[4,5,6],?_,?_,?_,rfl,rfl,rfl⟩<;>simp[rtOk,tI,rowsZ,rowsN]
  ·have E:=eq_false hf;rw[ho,if_neg (fun h=>hf h.2.2.2)];(try simp -dsimp only[go_sem,f8,c9,U,r2,zDa,zBo,List.take_nil,Int.reduceLT,Int.reduceEq,yaH,yaI,zBa,c0,G,rf,zAz,zAr,E]);refine zAh [.nilT 0 0 4 1,.nilT 0 0 7 1,.nilT 0 0 8 1,.unf 0 0 4,.unf 0 0 7,.unf 0 0 8] ?_;simp -dsimp only[go_sem,rModB,mod0];refine⟨[7,8,9],?_,?_,?_,rfl,rfl,rfl⟩<;>simp[rtOk,tI,rowsZ,rowsN]
 ·have hR:readM (kindT w) ps=(⟨3,(0,0),(0,0),(rdS ps false).1,[],0,0,[],[],0,0⟩,(rdS ps false).2):=by rw[hK];simp[readM,mod0]
  have U:=zNq (bad:=false) c1 a8;have w1:=zIt1 ps false;simp only[hsRd] at U;rw[hK];generalize rdS ps false=X at*;obtain ⟨lv,a7,bd⟩:=X;simp only at U w1 hR;have ho:=zEr1 c6 hR
  cases bd with
  | true=>
   rw[ho,if_neg (by simp)];(try simp -dsimp only[go_sem,f8,c9,U,zEo,Int.reduceLT,Int.reduceEq]);refine zAh [.nilT 0 0 4 1,.nilT 0 0 7 1,.nilT 0 0 8 1,.unf 0 0 4,.unf 0 0 7,.unf 0 0 8] ?_;simp -dsimp only[go_sem,rModB,mod0];refine⟨[7,8,9],?_,?_,?_,rfl,rfl,rfl⟩<;>simp[rtOk,tI,rowsZ,rowsN]
  | false=>
  cases a7 with
  | cons p0 t0=>
   have hg:(0:Int)<((t0.length+1:Nat):Int):=(by omega);rw[ho,if_neg (by simp)];(try simp -dsimp only[go_sem,f8,c9,U,zEo,Int.reduceLT,Int.reduceEq,zBe,hg]);refine zAh [.nilT 0 0 4 1,.nilT 0 0 7 1,.nilT 0 0 8 1,.unf 0 0 4,.unf 0 0 7,.unf 0 0 8] ?_;simp -dsimp only[go_sem,rModB,mod0];refine⟨[7,8,9],?_,?_,?_,rfl,rfl,rfl⟩<;>simp[rtOk,tI,rowsZ,rowsN]
  | nil=>
  have G:=zBk (k:=3) (t1:=0) (t2:=0) (s1:=0) (s2:=0) (lv:=lv) (st:=[]) (ra:=0) (rc:=0) (pts:=[]) (lab:=[]) (c:=0) (l:=0) (by simp) (by simp) (by simp);have rf:=zBg ⟨⟨3,(0,0),(0,0),lv,[],0,0,[],[],0,0⟩,⟨by simp,by simp,by simp⟩,⟨⟨by simp,by simp⟩,⟨by simp,by simp⟩,w1,by simp,by simp⟩,by simp[i64B],by simp[i64B],by simp[i64B],by simp⟩;simp only[modC,zAk,zAq] at G rf
  cases hv:isModuleF ⟨3,(0,0),(0,0),lv,[],0,0,[],[],0,0⟩ with
  | false=>
   rw[hv] at G;rw[ho,if_neg (by simp[hv])];(try simp -dsimp only[go_sem,f8,c9,U,zEo,zBo,List.take_nil,Int.reduceLT,Int.reduceEq,yaI,zBa,c0,G]);refine zAh [.nilT 0 0 4 1,.nilT 0 0 7 1,.nilT 0 0 8 1,.unf 0 0 4,.unf 0 0 7,.unf 0 0 8] ?_;simp -dsimp only[go_sem,rModB,mod0];refine⟨[7,8,9],?_,?_,?_,rfl,rfl,rfl⟩<;>simp[rtOk,tI,rowsZ,rowsN]
  | true=>
  rw[hv] at G;by_cases hf:fmtM ⟨3,(0,0),(0,0),lv,[],0,0,[],[],0,0⟩=s
  ·have E:=eq_true hf;rw[ho,if_pos ⟨rfl,rfl,hv,hf⟩];(try simp -dsimp only[go_sem,f8,c9,U,zEo,zBo,List.take_nil,Int.reduceLT,Int.reduceEq,yaH,zBa,c0,G,rf,zAz,zAr,E]);refine zAh [] ?_;simp -dsimp only[go_sem,rModB];refine⟨[4,5,6],?_,?_,?_,rfl,rfl,rfl⟩<;>simp[rtOk,tI,rowsZ,rowsN]
  ·have E:=eq_false hf;rw[ho,if_neg (fun h=>hf h.2.2.2)];(try simp -dsimp only[go_sem,f8,c9,U,zEo,zBo,List.take_nil,Int.reduceLT,Int.reduceEq,yaH,yaI,zBa,c0,G,rf,zAz,zAr,E]);refine zAh [.nilT 0 0 4 1,.nilT 0 0 7 1,.nilT 0 0 8 1,.unf 0 0 4,.unf 0 0 7,.unf 0 0 8] ?_;simp -dsimp only[go_sem,rModB,mod0];refine⟨[7,8,9],?_,?_,?_,rfl,rfl,rfl⟩<;>simp[rtOk,tI,rowsZ,rowsN]
 ·have hR:readM (kindT w) ps=(⟨4,(0,0),(0,0),0,(dlyP (rdI ps false).2.1 (rdI ps false).2.2).1,(rdI ps false).1,((dlyP (rdI ps false).2.1 (rdI ps false).2.2).1.length:Int),[],[],0,0⟩,(dlyP (rdI ps false).2.1 (rdI ps false).2.2).2):=by rw[hK];simp[readM,mod0]
  have U:=zDp (bad:=false) c1 a8;have w1:=zEo1 ps false;have l1:=zGg ps false;have s1:=zKo (bad:=false) a8;simp only[hsRd] at U;rw[hK];generalize rdI ps false=X at*;obtain ⟨ra,V,b1⟩:=X;simp only at U w1 l1 s1 hR;have e2:V.length≤1048576:=by simp only[yab] at d9;omega
  have b8:=zNk1 _ V b1 (Nat.le_refl _);try simp -dsimp only[go_sem,c9,U,zFe,Int.reduceLT,Int.reduceEq]
  refine zAp (ι:={x:List Pt×List Txt×Bool//dlyP V b1=(x.1++(dlyP x.2.1 x.2.2).1,(dlyP x.2.1 x.2.2).2)∧x.2.1.length≤V.length∧x.1.length≤V.length∧∀p∈x.2.1,p.length≤2097152}) (fun x=>⟨[(0,some (.c (.im (.str ⟨s.toArray⟩)))),(2,some (.c (.ptr 0 0 0 0))),(4,some (.c (.ptr 1 0 0 0))),(6,some (.c (.ptr 2 0 0 0)))],
   [(0,some (.box [.t (.im (.int .i64 0)),.t (.im (.cpx .f32 0 0)),.t (.im (.cpx .f32 0 0)),.t (.im (.flt .f32 0)),.t .nil,.t (.im (.int .i64 0)),.t (.im (.int .i64 0)),.t .nil,.t .nil,.t (.im (.int .i64 0)),.t (.im (.int .i64 0))])),
    (1,some (.box [.t (.im (.sl 1 (rowsS x.1.2.1))),.t (.im (.bool x.1.2.2))])),
    (2,some (.box [.t (.im (.int .i64 4)),.t (.im (.cpx .f32 0 0)),.t (.im (.cpx .f32 0 0)),.t (.im (.flt .f32 0)),.t (.lent 4 1 x.1.1.length),.t (.im (.int .i64 ra)),.t (.im (.int .i64 0)),.t (.lent 5 1 0),.t (.lent 6 1 0),.t (.im (.int .i64 0)),.t (.im (.int .i64 0))])),
    (4,some (.arr 1 (tI (rowsZ x.1.1)))),(5,some (.arr 1 [])),(6,some (.arr 1 []))],7⟩) (fun x=>x.1.2.1.length) ⟨([],V,b1),by simp,by simp,by simp,s1⟩ ⟨[],[0,1,2,4,5,6],?sub⟩ (fun ⟨⟨acc,F,b⟩,J,f2,d6,d1⟩=>?_)
  case sub=>
   ((simp only[go_sem,yai,zAn,zAk])<;>(try (simp -dsimp only[go_sem,yaj,yai,zEf2,zAn,zAk,zNy1])))
   all_goals simp[tI]
  simp only at J f2 d6 d1 ⊢;by_cases d2:F≠[]∧b=false
  ·obtain ⟨d8,rfl⟩:=d2;have i7:0<F.length:=List.length_pos_iff.2 d8
   have hu:dlyP F false=((rdP F false).1::(dlyP (rdP F false).2.1 (rdP F false).2.2).1,(dlyP (rdP F false).2.1 (rdP F false).2.2).2):=by
    conv=>lhs;unfold dlyP
    rw[dif_pos ⟨d8,rfl⟩]
   rw[hu] at J;have rp:=zEq (ps:=F) (bad:=false) (by omega) d1;have pl:=zHb F false;have d4:=zSa (bad:=false) d1;have d3:(acc++(rdP F false).1::(dlyP (rdP F false).2.1 (rdP F false).2.2).1).length≤V.length:=(by have:=b8.1;rw[J] at this;exact this);simp only[hsRd] at rp;generalize rdP F false=Y at*;obtain ⟨⟨u,v⟩,g5,b2⟩:=Y;simp only at rp pl d4 J d3;have g9:acc.length+1≤V.length:=(by simp only[yaw,yab] at d3;omega);have hg:(0:Int)<(F.length:Int):=(by omega);have f9:(acc.length+1)*8≤140737488355328:=(by omega);have tk:List.take acc.length (tI (rowsZ acc))=tI (rowsZ acc):=List.take_of_length_le (by rw[zAg,zAb];omega);try simp -dsimp only[go_sem,zBe,hg,rp,zDa,f9,zOa1,zAg,zAb,appendH,srcRows,List.take_succ_cons,yan,yao,yap,okT,yaq,yaw,yaI,yal]
   with_reducible repeat' first|refine sl_i ?_|refine ro_i ?_
   refine⟨⟨(acc++[(u,v)],g5,b2),by rw[J];simp,by simp only[];omega,by simp only[yaw,yab,List.length_nil];omega,d4⟩,by simp only[];omega,[],[0,1,2,55,5,6],?_⟩
   (simp only[go_sem,yai,zEf2,zAn,yaw,yab,List.length_nil])
  ·have f7:dlyP F b=([],F,b):=(by unfold dlyP;rw[dif_neg d2]);rw[f7,List.append_nil] at J;rw[J] at hR b8;simp only at hR b8;have d3:acc.length≤1048576:=Nat.le_trans d6 e2;have d0:List.take acc.length (tI (rowsZ acc))=tI (rowsZ acc):=List.take_of_length_le (by rw[zAg,zAb];omega);have hg:¬((0:Int)<((0:Nat):Int)):=(by omega);have G:=zBk (k:=4) (t1:=0) (t2:=0) (s1:=0) (s2:=0) (lv:=0) (st:=acc) (ra:=ra) (rc:=(acc.length:Int)) (pts:=[]) (lab:=[]) (c:=0) (l:=0) (by simp only[sm];omega) (by simp) (by simp);have rf:=zBg ⟨⟨4,(0,0),(0,0),0,acc,ra,(acc.length:Int),[],[],0,0⟩,⟨by simp only[sm];omega,by simp,by simp⟩,⟨⟨by simp,by simp⟩,⟨by simp,by simp⟩,by simp,b8.2,by simp⟩,w1,by simp[i64B],by simp[i64B],by simp⟩;simp only[modC,zAk,zAq] at G rf;have ho:=zEr1 c6 hR
   cases b with
   | true=>
    rw[ho,if_neg (by simp)]
    cases F with
    | nil=>
     (try simp -dsimp only[go_sem,f8,Int.reduceLT,zBa,c0]);refine zAh [.nilT 0 0 4 1,.nilT 0 0 7 1,.nilT 0 0 8 1,.unf 0 0 4,.unf 0 0 7,.unf 0 0 8] ?_;simp -dsimp only[go_sem,rModB,mod0];refine⟨[7,8,9],?_,?_,?_,rfl,rfl,rfl⟩<;>simp[rtOk,tI,rowsZ,rowsN]
    | cons p0 t0=>
     have f5:(0:Int)<((t0.length+1:Nat):Int):=(by omega);(try simp -dsimp only[go_sem,f8,yaH,zBe,zDu,yab,f5]);refine zAh [.nilT 0 0 4 1,.nilT 0 0 7 1,.nilT 0 0 8 1,.unf 0 0 4,.unf 0 0 7,.unf 0 0 8] ?_;simp -dsimp only[go_sem,rModB,mod0];refine⟨[7,8,9],?_,?_,?_,rfl,rfl,rfl⟩<;>simp[rtOk,tI,rowsZ,rowsN]
   | false=>
    cases F with
    | cons p0 t0=>exact absurd ⟨by simp,rfl⟩ d2
    | nil=>
    cases hv:isModuleF ⟨4,(0,0),(0,0),0,acc,ra,(acc.length:Int),[],[],0,0⟩ with
    | false=>
     rw[hv] at G;rw[ho,if_neg (by simp[hv])];(try simp -dsimp only[go_sem,f8,zBo,List.take_nil,Int.reduceLT,yaI,zAg,zBj,zAb,d0,zBa,c0,G]);refine zAh [.nilT 0 0 4 1,.nilT 0 0 7 1,.nilT 0 0 8 1,.unf 0 0 4,.unf 0 0 7,.unf 0 0 8] ?_;simp -dsimp only[go_sem,rModB,mod0];refine⟨[7,8,9],?_,?_,?_,rfl,rfl,rfl⟩<;>simp[rtOk,tI,rowsZ,rowsN]
    | true=>
    rw[hv] at G;by_cases hf:fmtM ⟨4,(0,0),(0,0),0,acc,ra,(acc.length:Int),[],[],0,0⟩=s
    ·have E:=eq_true hf;rw[ho,if_pos ⟨rfl,rfl,hv,hf⟩];(try simp -dsimp only[go_sem,f8,zBo,List.take_nil,Int.reduceLT,yaH,zAg,zBj,zAb,d0,zBa,c0,G,rf,zAz,zAr,E]);refine zAh [] ?_;simp -dsimp only[go_sem,rModB];refine⟨[4,5,6],?_,?_,?_,rfl,rfl,rfl⟩<;>simp[rtOk,tI,rowsZ,rowsN]
    ·have E:=eq_false hf;rw[ho,if_neg (fun h=>hf h.2.2.2)];(try simp -dsimp only[go_sem,f8,zBo,List.take_nil,Int.reduceLT,yaH,yaI,zAg,zBj,zAb,d0,zBa,c0,G,rf,zAz,zAr,E]);refine zAh [.nilT 0 0 4 1,.nilT 0 0 7 1,.nilT 0 0 8 1,.unf 0 0 4,.unf 0 0 7,.unf 0 0 8] ?_;simp -dsimp only[go_sem,rModB,mod0];refine⟨[7,8,9],?_,?_,?_,rfl,rfl,rfl⟩<;>simp[rtOk,tI,rowsZ,rowsN]
 ·have hR:readM (kindT w) ps=(⟨5,(0,0),(0,0),0,[],0,0,[],[],0,0⟩,ps,false):=by rw[hK];simp[readM,mod0]
  rw[hK];generalize ps=a7 at*;have ho:=zEr1 c6 hR
  cases a7 with
  | cons p0 t0=>
   have hg:(0:Int)<((t0.length+1:Nat):Int):=(by omega);rw[ho,if_neg (by simp)];(try simp -dsimp only[go_sem,f8,c9,Int.reduceLT,Int.reduceEq,zBe,hg]);refine zAh [.nilT 0 0 4 1,.nilT 0 0 7 1,.nilT 0 0 8 1,.unf 0 0 4,.unf 0 0 7,.unf 0 0 8] ?_;simp -dsimp only[go_sem,rModB,mod0];refine⟨[7,8,9],?_,?_,?_,rfl,rfl,rfl⟩<;>simp[rtOk,tI,rowsZ,rowsN]
  | nil=>
  have G:=zBk (k:=5) (t1:=0) (t2:=0) (s1:=0) (s2:=0) (lv:=0) (st:=[]) (ra:=0) (rc:=0) (pts:=[]) (lab:=[]) (c:=0) (l:=0) (by simp) (by simp) (by simp);have rf:=zBg ⟨⟨5,(0,0),(0,0),0,[],0,0,[],[],0,0⟩,⟨by simp,by simp,by simp⟩,⟨⟨by simp,by simp⟩,⟨by simp,by simp⟩,by simp,by simp,by simp⟩,by simp[i64B],by simp[i64B],by simp[i64B],by simp⟩;simp only[modC,zAk,zAq] at G rf
  cases hv:isModuleF ⟨5,(0,0),(0,0),0,[],0,0,[],[],0,0⟩ with
  | false=>
   rw[hv] at G;rw[ho,if_neg (by simp[hv])];(try simp -dsimp only[go_sem,f8,c9,zBo,List.take_nil,Int.reduceLT,Int.reduceEq,yaI,zBa,c0,G]);refine zAh [.nilT 0 0 4 1,.nilT 0 0 7 1,.nilT 0 0 8 1,.unf 0 0 4,.unf 0 0 7,.unf 0 0 8] ?_;simp -dsimp only[go_sem,rModB,mod0];refine⟨[7,8,9],?_,?_,?_,rfl,rfl,rfl⟩<;>simp[rtOk,tI,rowsZ,rowsN]
  | true=>
  rw[hv] at G;by_cases hf:fmtM ⟨5,(0,0),(0,0),0,[],0,0,[],[],0,0⟩=s
  ·have E:=eq_true hf;rw[ho,if_pos ⟨rfl,rfl,hv,hf⟩];(try simp -dsimp only[go_sem,f8,c9,zBo,List.take_nil,Int.reduceLT,Int.reduceEq,yaH,zBa,c0,G,rf,zAz,zAr,E]);refine zAh [] ?_;simp -dsimp only[go_sem,rModB];refine⟨[4,5,6],?_,?_,?_,rfl,rfl,rfl⟩<;>simp[rtOk,tI,rowsZ,rowsN]
  ·have E:=eq_false hf;rw[ho,if_neg (fun h=>hf h.2.2.2)];(try simp -dsimp only[go_sem,f8,c9,zBo,List.take_nil,Int.reduceLT,Int.reduceEq,yaH,yaI,zBa,c0,G,rf,zAz,zAr,E]);refine zAh [.nilT 0 0 4 1,.nilT 0 0 7 1,.nilT 0 0 8 1,.unf 0 0 4,.unf 0 0 7,.unf 0 0 8] ?_;simp -dsimp only[go_sem,rModB,mod0];refine⟨[7,8,9],?_,?_,?_,rfl,rfl,rfl⟩<;>simp[rtOk,tI,rowsZ,rowsN]
 ·have hR:readM (kindT w) ps=(⟨6,(0,0),(0,0),0,[],0,0,(slcP (rdI ps false).2.1 (rdI ps false).2.2).1,(slcP (rdI ps false).2.1 (rdI ps false).2.2).2.1,(rdI ps false).1,0⟩,(slcP (rdI ps false).2.1 (rdI ps false).2.2).2.2):=by rw[hK];simp[readM,mod0]
  have U:=zDp (bad:=false) c1 a8;have w1:=zEo1 ps false;have l1:=zGg ps false;have s1:=zKo (bad:=false) a8;simp only[hsRd] at U;rw[hK];generalize rdI ps false=X at*;obtain ⟨ra,V,b1⟩:=X;simp only at U w1 l1 s1 hR;have e2:V.length≤1048576:=by simp only[yab] at d9;omega
  have b8:=zDo1 _ V b1 (Nat.le_refl _);try simp -dsimp only[go_sem,c9,U,zFe,Int.reduceLT,Int.reduceEq]
  refine zAp (ι:={x:List Pt×List Int×List Txt×Bool//slcP V b1=(x.1++(slcP x.2.2.1 x.2.2.2).1,x.2.1++(slcP x.2.2.1 x.2.2.2).2.1,(slcP x.2.2.1 x.2.2.2).2.2)∧x.2.2.1.length≤V.length∧x.1.length≤V.length∧x.2.1.length≤V.length∧∀p∈x.2.2.1,p.length≤2097152}) (fun x=>⟨[(0,some (.c (.im (.str ⟨s.toArray⟩)))),(2,some (.c (.ptr 0 0 0 0))),(4,some (.c (.ptr 1 0 0 0))),(6,some (.c (.ptr 2 0 0 0)))],
   [(0,some (.box [.t (.im (.int .i64 0)),.t (.im (.cpx .f32 0 0)),.t (.im (.cpx .f32 0 0)),.t (.im (.flt .f32 0)),.t .nil,.t (.im (.int .i64 0)),.t (.im (.int .i64 0)),.t .nil,.t .nil,.t (.im (.int .i64 0)),.t (.im (.int .i64 0))])),
    (1,some (.box [.t (.im (.sl 1 (rowsS x.1.2.2.1))),.t (.im (.bool x.1.2.2.2))])),
    (2,some (.box [.t (.im (.int .i64 6)),.t (.im (.cpx .f32 0 0)),.t (.im (.cpx .f32 0 0)),.t (.im (.flt .f32 0)),.t (.lent 4 1 0),.t (.im (.int .i64 0)),.t (.im (.int .i64 0)),.t (.lent 5 1 x.1.1.length),.t (.lent 6 1 x.1.2.1.length),.t (.im (.int .i64 ra)),.t (.im (.int .i64 0))])),
    (4,some (.arr 1 [])),(5,some (.arr 1 (tI (rowsZ x.1.1)))),(6,some (.arr 1 (tI (rowsN x.1.2.1))))],7⟩) (fun x=>x.1.2.2.1.length) ⟨([],[],V,b1),by simp,by simp,by simp,by simp,s1⟩ ⟨[],[0,1,2,4,5,6],?sub⟩ (fun ⟨⟨acc,b5,F,b⟩,J,f2,d6,g7,d1⟩=>?_)
  case sub=>
   ((simp only[go_sem,yai,zAn,zAk,zAq])<;>(try (simp -dsimp only[go_sem,yaj,yai,zEf2,zFn2,zAn,zAk,zAq,zNy1])))
   all_goals simp[tI]
  simp only at J f2 d6 d1 g7 ⊢;by_cases d2:F≠[]∧b=false
  ·obtain ⟨d8,rfl⟩:=d2;have i7:0<F.length:=List.length_pos_iff.2 d8
   have hu:slcP F false=((rdP F false).1::(slcP (rdI (rdP F false).2.1 (rdP F false).2.2).2.1 (rdI (rdP F false).2.1 (rdP F false).2.2).2.2).1,
    (rdI (rdP F false).2.1 (rdP F false).2.2).1::(slcP (rdI (rdP F false).2.1 (rdP F false).2.2).2.1 (rdI (rdP F false).2.1 (rdP F false).2.2).2.2).2.1,
    (slcP (rdI (rdP F false).2.1 (rdP F false).2.2).2.1 (rdI (rdP F false).2.1 (rdP F false).2.2).2.2).2.2):=by
    conv=>lhs;unfold slcP
    rw[dif_pos ⟨d8,rfl⟩]
   rw[hu] at J;have rp:=zEq (ps:=F) (bad:=false) (by omega) d1;have pl:=zHb F false;have d4:=zSa (bad:=false) d1;have rn:=zDp (ps:=(rdP F false).2.1) (bad:=(rdP F false).2.2) (by rw[pl];omega) d4;have nl:=zGg (rdP F false).2.1 (rdP F false).2.2;have g6:=zKo (bad:=(rdP F false).2.2) d4;have d3:(acc++(rdP F false).1::(slcP (rdI (rdP F false).2.1 (rdP F false).2.2).2.1 (rdI (rdP F false).2.1 (rdP F false).2.2).2.2).1).length≤V.length:=(by have:=b8.1;rw[J] at this;exact this);have e6:(b5++(rdI (rdP F false).2.1 (rdP F false).2.2).1::(slcP (rdI (rdP F false).2.1 (rdP F false).2.2).2.1 (rdI (rdP F false).2.1 (rdP F false).2.2).2.2).2.1).length≤V.length:=(by have:=b8.1;have h2:=b8.2.1;rw[J] at this h2;simp only at this h2;omega);simp only[hsRd] at rp rn;generalize rdI (rdP F false).2.1 (rdP F false).2.2=Y2 at*;generalize rdP F false=Y at*;obtain ⟨⟨u,v⟩,g5,b2⟩:=Y;obtain ⟨lb,h9,b3⟩:=Y2;simp only at rp pl d4 rn nl g6 J d3 e6;have g9:acc.length+1≤V.length:=(by simp only[yaw,yab] at d3;omega);have j8:b5.length+1≤V.length:=(by simp only[yaw,yab] at e6;omega);have hg:(0:Int)<(F.length:Int):=(by omega);have f9:(acc.length+1)*8≤140737488355328:=(by omega);have j2:(b5.length+1)*8≤140737488355328:=(by omega);have tk:List.take acc.length (tI (rowsZ acc))=tI (rowsZ acc):=List.take_of_length_le (by rw[zAg,zAb];omega);have j9:List.take b5.length (tI (rowsN b5))=tI (rowsN b5):=List.take_of_length_le (by rw[zAg,zAe];omega);try simp -dsimp only[go_sem,zBe,hg,rp,rn,zDa,zFe,f9,j2,zOa1,zAi2,zAg,zAb,zAe,appendH,srcRows,List.take_succ_cons,yan,yao,yap,okT,yaq,yaw,yaI,yal]
   with_reducible repeat' first|refine sl_i ?_|refine ro_i ?_
   refine⟨⟨(acc++[(u,v)],b5++[lb],h9,b3),by rw[J];simp,by simp only[];omega,by simp only[yaw,yab,List.length_nil];omega,by simp only[yaw,yab,List.length_nil];omega,g6⟩,by simp only[];omega,[],[0,1,2,4,55,135],?_⟩
   (simp only[go_sem,yai,zEf2,zFn2,zAn,yaw,yab,List.length_nil])
  ·have f7:slcP F b=([],[],F,b):=(by unfold slcP;rw[dif_neg d2]);rw[f7,List.append_nil,List.append_nil] at J;rw[J] at hR b8;simp only at hR b8;have d3:acc.length≤1048576:=Nat.le_trans d6 e2;have j7:b5.length≤1048576:=Nat.le_trans g7 e2;have d0:List.take acc.length (tI (rowsZ acc))=tI (rowsZ acc):=List.take_of_length_le (by rw[zAg,zAb];omega);have e7:List.take b5.length (tI (rowsN b5))=tI (rowsN b5):=List.take_of_length_le (by rw[zAg,zAe];omega);have hg:¬((0:Int)<((0:Nat):Int)):=(by omega);have G:=zBk (k:=6) (t1:=0) (t2:=0) (s1:=0) (s2:=0) (lv:=0) (st:=[]) (ra:=0) (rc:=0) (pts:=acc) (lab:=b5) (c:=ra) (l:=0) (by simp) (by simp only[sm];omega) (by simp only[sm];omega);have rf:=zBg ⟨⟨6,(0,0),(0,0),0,[],0,0,acc,b5,ra,0⟩,⟨by simp,by simp only[sm];omega,by simp only[sm];omega⟩,⟨⟨by simp,by simp⟩,⟨by simp,by simp⟩,by simp,by simp,b8.2.2.1⟩,by simp[i64B],w1,by simp[i64B],b8.2.2.2⟩;simp only[modC,zAk] at G rf;have ho:=zEr1 c6 hR
   cases b with
   | true=>
    rw[ho,if_neg (by simp)]
    cases F with
    | nil=>
     (try simp -dsimp only[go_sem,f8,Int.reduceLT,zBa,c0]);refine zAh [.nilT 0 0 4 1,.nilT 0 0 7 1,.nilT 0 0 8 1,.unf 0 0 4,.unf 0 0 7,.unf 0 0 8] ?_;simp -dsimp only[go_sem,rModB,mod0];refine⟨[7,8,9],?_,?_,?_,rfl,rfl,rfl⟩<;>simp[rtOk,tI,rowsZ,rowsN]
    | cons p0 t0=>
     have f5:(0:Int)<((t0.length+1:Nat):Int):=(by omega);(try simp -dsimp only[go_sem,f8,yaH,zBe,zDu,yab,f5]);refine zAh [.nilT 0 0 4 1,.nilT 0 0 7 1,.nilT 0 0 8 1,.unf 0 0 4,.unf 0 0 7,.unf 0 0 8] ?_;simp -dsimp only[go_sem,rModB,mod0];refine⟨[7,8,9],?_,?_,?_,rfl,rfl,rfl⟩<;>simp[rtOk,tI,rowsZ,rowsN]
   | false=>
    cases F with
    | cons p0 t0=>exact absurd ⟨by simp,rfl⟩ d2
    | nil=>
    cases hv:isModuleF ⟨6,(0,0),(0,0),0,[],0,0,acc,b5,ra,0⟩ with
    | false=>
     rw[hv] at G;rw[ho,if_neg (by simp[hv])];(try simp -dsimp only[go_sem,f8,zBo,List.take_nil,Int.reduceLT,yaI,zAg,zBj,zAb,zAe,d0,e7,zBa,c0,G]);refine zAh [.nilT 0 0 4 1,.nilT 0 0 7 1,.nilT 0 0 8 1,.unf 0 0 4,.unf 0 0 7,.unf 0 0 8] ?_;simp -dsimp only[go_sem,rModB,mod0];refine⟨[7,8,9],?_,?_,?_,rfl,rfl,rfl⟩<;>simp[rtOk,tI,rowsZ,rowsN]
    | true=>
    rw[hv] at G;by_cases hf:fmtM ⟨6,(0,0),(0,0),0,[],0,0,acc,b5,ra,0⟩=s
    ·have E:=eq_true hf;rw[ho,if_pos ⟨rfl,rfl,hv,hf⟩];(try simp -dsimp only[go_sem,f8,zBo,List.take_nil,Int.reduceLT,yaH,zAg,zBj,zAb,zAe,d0,e7,zBa,c0,G,rf,zAz,zAr,E]);refine zAh [] ?_;simp -dsimp only[go_sem,rModB];refine⟨[4,5,6],?_,?_,?_,rfl,rfl,rfl⟩<;>simp[rtOk,tI,rowsZ,rowsN]
    ·have E:=eq_false hf;rw[ho,if_neg (fun h=>hf h.2.2.2)];(try simp -dsimp only[go_sem,f8,zBo,List.take_nil,Int.reduceLT,yaH,yaI,zAg,zBj,zAb,zAe,d0,e7,zBa,c0,G,rf,zAz,zAr,E]);refine zAh [.nilT 0 0 4 1,.nilT 0 0 7 1,.nilT 0 0 8 1,.unf 0 0 4,.unf 0 0 7,.unf 0 0 8] ?_;simp -dsimp only[go_sem,rModB,mod0];refine⟨[7,8,9],?_,?_,?_,rfl,rfl,rfl⟩<;>simp[rtOk,tI,rowsZ,rowsN]
 ·have hR:readM (kindT w) ps=(⟨7,(0,0),(0,0),(rdS ps false).1,[],0,0,[],[],0,0⟩,(rdS ps false).2):=by rw[hK];simp[readM,mod0]
  have U:=zNq (bad:=false) c1 a8;have w1:=zIt1 ps false;simp only[hsRd] at U;rw[hK];generalize rdS ps false=X at*;obtain ⟨lv,a7,bd⟩:=X;simp only at U w1 hR;have ho:=zEr1 c6 hR
  cases bd with
  | true=>
   rw[ho,if_neg (by simp)];(try simp -dsimp only[go_sem,f8,c9,U,zEo,Int.reduceLT,Int.reduceEq]);refine zAh [.nilT 0 0 4 1,.nilT 0 0 7 1,.nilT 0 0 8 1,.unf 0 0 4,.unf 0 0 7,.unf 0 0 8] ?_;simp -dsimp only[go_sem,rModB,mod0];refine⟨[7,8,9],?_,?_,?_,rfl,rfl,rfl⟩<;>simp[rtOk,tI,rowsZ,rowsN]
  | false=>
  cases a7 with
  | cons p0 t0=>
   have hg:(0:Int)<((t0.length+1:Nat):Int):=(by omega);rw[ho,if_neg (by simp)];(try simp -dsimp only[go_sem,f8,c9,U,zEo,Int.reduceLT,Int.reduceEq,zBe,hg]);refine zAh [.nilT 0 0 4 1,.nilT 0 0 7 1,.nilT 0 0 8 1,.unf 0 0 4,.unf 0 0 7,.unf 0 0 8] ?_;simp -dsimp only[go_sem,rModB,mod0];refine⟨[7,8,9],?_,?_,?_,rfl,rfl,rfl⟩<;>simp[rtOk,tI,rowsZ,rowsN]
  | nil=>
  have G:=zBk (k:=7) (t1:=0) (t2:=0) (s1:=0) (s2:=0) (lv:=lv) (st:=[]) (ra:=0) (rc:=0) (pts:=[]) (lab:=[]) (c:=0) (l:=0) (by simp) (by simp) (by simp);have rf:=zBg ⟨⟨7,(0,0),(0,0),lv,[],0,0,[],[],0,0⟩,⟨by simp,by simp,by simp⟩,⟨⟨by simp,by simp⟩,⟨by simp,by simp⟩,w1,by simp,by simp⟩,by simp[i64B],by simp[i64B],by simp[i64B],by simp⟩;simp only[modC,zAk,zAq] at G rf
  cases hv:isModuleF ⟨7,(0,0),(0,0),lv,[],0,0,[],[],0,0⟩ with
  | false=>
   rw[hv] at G;rw[ho,if_neg (by simp[hv])];(try simp -dsimp only[go_sem,f8,c9,U,zEo,zBo,List.take_nil,Int.reduceLT,Int.reduceEq,yaI,zBa,c0,G]);refine zAh [.nilT 0 0 4 1,.nilT 0 0 7 1,.nilT 0 0 8 1,.unf 0 0 4,.unf 0 0 7,.unf 0 0 8] ?_;simp -dsimp only[go_sem,rModB,mod0];refine⟨[7,8,9],?_,?_,?_,rfl,rfl,rfl⟩<;>simp[rtOk,tI,rowsZ,rowsN]
  | true=>
  rw[hv] at G;by_cases hf:fmtM ⟨7,(0,0),(0,0),lv,[],0,0,[],[],0,0⟩=s
  ·have E:=eq_true hf;rw[ho,if_pos ⟨rfl,rfl,hv,hf⟩];(try simp -dsimp only[go_sem,f8,c9,U,zEo,zBo,List.take_nil,Int.reduceLT,Int.reduceEq,yaH,zBa,c0,G,rf,zAz,zAr,E]);refine zAh [] ?_;simp -dsimp only[go_sem,rModB];refine⟨[4,5,6],?_,?_,?_,rfl,rfl,rfl⟩<;>simp[rtOk,tI,rowsZ,rowsN]
  ·have E:=eq_false hf;rw[ho,if_neg (fun h=>hf h.2.2.2)];(try simp -dsimp only[go_sem,f8,c9,U,zEo,zBo,List.take_nil,Int.reduceLT,Int.reduceEq,yaH,yaI,zBa,c0,G,rf,zAz,zAr,E]);refine zAh [.nilT 0 0 4 1,.nilT 0 0 7 1,.nilT 0 0 8 1,.unf 0 0 4,.unf 0 0 7,.unf 0 0 8] ?_;simp -dsimp only[go_sem,rModB,mod0];refine⟨[7,8,9],?_,?_,?_,rfl,rfl,rfl⟩<;>simp[rtOk,tI,rowsZ,rowsN]
 ·have hR:readM (kindT w) ps=(⟨8,(0,0),(rdP (rdI (rdI ps false).2.1 (rdI ps false).2.2).2.1 (rdI (rdI ps false).2.1 (rdI ps false).2.2).2.2).1,0,[],0,0,[],[],(rdI ps false).1,(rdI (rdI ps false).2.1 (rdI ps false).2.2).1⟩,(rdP (rdI (rdI ps false).2.1 (rdI ps false).2.2).2.1 (rdI (rdI ps false).2.1 (rdI ps false).2.2).2.2).2):=by rw[hK];simp[readM,mod0]
  have U:=zDp (bad:=false) c1 a8;have r2:=zDp (ps:=(rdI ps false).2.1) (bad:=(rdI ps false).2.2) (by rw[zGg];omega) (zKo a8);have r3:=zEq (ps:=(rdI (rdI ps false).2.1 (rdI ps false).2.2).2.1) (bad:=(rdI (rdI ps false).2.1 (rdI ps false).2.2).2.2) (by rw[zGg,zGg];omega) (zKo (zKo a8));have w1:=zEo1 ps false;have w2:=zEo1 (rdI ps false).2.1 (rdI ps false).2.2;have w3:=zMe (rdI (rdI ps false).2.1 (rdI ps false).2.2).2.1 (rdI (rdI ps false).2.1 (rdI ps false).2.2).2.2;simp only[hsRd] at U r2 r3;rw[hK];generalize rdP (rdI (rdI ps false).2.1 (rdI ps false).2.2).2.1 (rdI (rdI ps false).2.1 (rdI ps false).2.2).2.2=Z at*;generalize rdI (rdI ps false).2.1 (rdI ps false).2.2=Y at*;generalize rdI ps false=X at*;obtain ⟨c,V,b1⟩:=X;obtain ⟨lf,k1,b2⟩:=Y;obtain ⟨⟨s1,s2⟩,a7,bd⟩:=Z;simp only at U r2 r3 w1 w2 w3 hR;have ho:=zEr1 c6 hR
  cases bd with
  | true=>
   rw[ho,if_neg (by simp)];(try simp -dsimp only[go_sem,f8,c9,U,r2,r3,zFe,zDa,Int.reduceLT,Int.reduceEq]);refine zAh [.nilT 0 0 4 1,.nilT 0 0 7 1,.nilT 0 0 8 1,.unf 0 0 4,.unf 0 0 7,.unf 0 0 8] ?_;simp -dsimp only[go_sem,rModB,mod0];refine⟨[7,8,9],?_,?_,?_,rfl,rfl,rfl⟩<;>simp[rtOk,tI,rowsZ,rowsN]
  | false=>
  cases a7 with
  | cons p0 t0=>
   have hg:(0:Int)<((t0.length+1:Nat):Int):=(by omega);rw[ho,if_neg (by simp)];(try simp -dsimp only[go_sem,f8,c9,U,r2,r3,zFe,zDa,Int.reduceLT,Int.reduceEq,zBe,hg]);refine zAh [.nilT 0 0 4 1,.nilT 0 0 7 1,.nilT 0 0 8 1,.unf 0 0 4,.unf 0 0 7,.unf 0 0 8] ?_;simp -dsimp only[go_sem,rModB,mod0];refine⟨[7,8,9],?_,?_,?_,rfl,rfl,rfl⟩<;>simp[rtOk,tI,rowsZ,rowsN]
  | nil=>
  have G:=zBk (k:=8) (t1:=0) (t2:=0) (s1:=s1) (s2:=s2) (lv:=0) (st:=[]) (ra:=0) (rc:=0) (pts:=[]) (lab:=[]) (c:=c) (l:=lf) (by simp) (by simp) (by simp);have rf:=zBg ⟨⟨8,(0,0),(s1,s2),0,[],0,0,[],[],c,lf⟩,⟨by simp,by simp,by simp⟩,⟨⟨by simp,by simp⟩,w3,by simp,by simp,by simp⟩,by simp[i64B],w1,w2,by simp⟩;simp only[modC,zAk,zAq] at G rf
  cases hv:isModuleF ⟨8,(0,0),(s1,s2),0,[],0,0,[],[],c,lf⟩ with
  | false=>
   rw[hv] at G;rw[ho,if_neg (by simp[hv])];(try simp -dsimp only[go_sem,f8,c9,U,r2,r3,zFe,zDa,zBo,List.take_nil,Int.reduceLT,Int.reduceEq,yaI,zBa,c0,G]);refine zAh [.nilT 0 0 4 1,.nilT 0 0 7 1,.nilT 0 0 8 1,.unf 0 0 4,.unf 0 0 7,.unf 0 0 8] ?_;simp -dsimp only[go_sem,rModB,mod0];refine⟨[7,8,9],?_,?_,?_,rfl,rfl,rfl⟩<;>simp[rtOk,tI,rowsZ,rowsN]
  | true=>
  rw[hv] at G;by_cases hf:fmtM ⟨8,(0,0),(s1,s2),0,[],0,0,[],[],c,lf⟩=s
  ·have E:=eq_true hf;rw[ho,if_pos ⟨rfl,rfl,hv,hf⟩];(try simp -dsimp only[go_sem,f8,c9,U,r2,r3,zFe,zDa,zBo,List.take_nil,Int.reduceLT,Int.reduceEq,yaH,zBa,c0,G,rf,zAz,zAr,E]);refine zAh [] ?_;simp -dsimp only[go_sem,rModB];refine⟨[4,5,6],?_,?_,?_,rfl,rfl,rfl⟩<;>simp[rtOk,tI,rowsZ,rowsN]
  ·have E:=eq_false hf;rw[ho,if_neg (fun h=>hf h.2.2.2)];(try simp -dsimp only[go_sem,f8,c9,U,r2,r3,zFe,zDa,zBo,List.take_nil,Int.reduceLT,Int.reduceEq,yaH,yaI,zBa,c0,G,rf,zAz,zAr,E]);refine zAh [.nilT 0 0 4 1,.nilT 0 0 7 1,.nilT 0 0 8 1,.unf 0 0 4,.unf 0 0 7,.unf 0 0 8] ?_;simp -dsimp only[go_sem,rModB,mod0];refine⟨[7,8,9],?_,?_,?_,rfl,rfl,rfl⟩<;>simp[rtOk,tI,rowsZ,rowsN]
 ·have hR:readM (kindT w) ps=(⟨0,(0,0),(0,0),0,[],0,0,[],[],0,0⟩,ps,false):=by rw[hK];simp[readM,mod0]
  rw[hK];generalize ps=a7 at*;have ho:=zEr1 c6 hR
  cases a7 with
  | cons p0 t0=>
   have hg:(0:Int)<((t0.length+1:Nat):Int):=(by omega);rw[ho,if_neg (by simp)];(try simp -dsimp only[go_sem,f8,c9,Int.reduceLT,Int.reduceEq,zBe,hg]);refine zAh [.nilT 0 0 4 1,.nilT 0 0 7 1,.nilT 0 0 8 1,.unf 0 0 4,.unf 0 0 7,.unf 0 0 8] ?_;simp -dsimp only[go_sem,rModB,mod0];refine⟨[7,8,9],?_,?_,?_,rfl,rfl,rfl⟩<;>simp[rtOk,tI,rowsZ,rowsN]
  | nil=>
  have G:=zBk (k:=0) (t1:=0) (t2:=0) (s1:=0) (s2:=0) (lv:=0) (st:=[]) (ra:=0) (rc:=0) (pts:=[]) (lab:=[]) (c:=0) (l:=0) (by simp) (by simp) (by simp);have rf:=zBg ⟨⟨0,(0,0),(0,0),0,[],0,0,[],[],0,0⟩,⟨by simp,by simp,by simp⟩,⟨⟨by simp,by simp⟩,⟨by simp,by simp⟩,by simp,by simp,by simp⟩,by simp[i64B],by simp[i64B],by simp[i64B],by simp⟩;simp only[modC,zAk,zAq] at G rf
  cases hv:isModuleF ⟨0,(0,0),(0,0),0,[],0,0,[],[],0,0⟩ with
  | false=>
   rw[hv] at G;rw[ho,if_neg (by simp[hv])];(try simp -dsimp only[go_sem,f8,c9,zBo,List.take_nil,Int.reduceLT,Int.reduceEq,yaI,zBa,c0,G]);refine zAh [.nilT 0 0 4 1,.nilT 0 0 7 1,.nilT 0 0 8 1,.unf 0 0 4,.unf 0 0 7,.unf 0 0 8] ?_;simp -dsimp only[go_sem,rModB,mod0];refine⟨[7,8,9],?_,?_,?_,rfl,rfl,rfl⟩<;>simp[rtOk,tI,rowsZ,rowsN]
  | true=>
  rw[hv] at G;by_cases hf:fmtM ⟨0,(0,0),(0,0),0,[],0,0,[],[],0,0⟩=s
  ·have E:=eq_true hf;rw[ho,if_pos ⟨rfl,rfl,hv,hf⟩];(try simp -dsimp only[go_sem,f8,c9,zBo,List.take_nil,Int.reduceLT,Int.reduceEq,yaH,zBa,c0,G,rf,zAz,zAr,E]);refine zAh [] ?_;simp -dsimp only[go_sem,rModB];refine⟨[4,5,6],?_,?_,?_,rfl,rfl,rfl⟩<;>simp[rtOk,tI,rowsZ,rowsN]
  ·have E:=eq_false hf;rw[ho,if_neg (fun h=>hf h.2.2.2)];(try simp -dsimp only[go_sem,f8,c9,zBo,List.take_nil,Int.reduceLT,Int.reduceEq,yaH,yaI,zBa,c0,G,rf,zAz,zAr,E]);refine zAh [.nilT 0 0 4 1,.nilT 0 0 7 1,.nilT 0 0 8 1,.unf 0 0 4,.unf 0 0 7,.unf 0 0 8] ?_;simp -dsimp only[go_sem,rModB,mod0];refine⟨[7,8,9],?_,?_,?_,rfl,rfl,rfl⟩<;>simp[rtOk,tI,rowsZ,rowsN]
theorem zTo1 (l:List Txt)(x:Txt):tI (rowsS l)++[[T.im (.str ⟨x.toArray⟩)]]=tI (rowsS (l++[x])):=by simp[tI,rowsS]
theorem zHz1 (l:List Txt):∀r∈rowsS l,∀i∈r,scI i=true:=by
 intro r hr i hi;simp only[rowsS,List.mem_map] at hr;obtain ⟨p,_,rfl⟩:=hr;simp only[yaz] at hi;subst hi;rfl
theorem zTg1 (l:List Txt):MvR false (.arr 1 (tI (rowsS l)))=True:=eq_true (zDg (zHz1 _))
def negS (s:Txt):Prop:=s[0]?=some 45∧1<s.length∧s[1]?≠some 45
instance (s:Txt):Decidable (negS s):=by unfold negS;infer_instance
theorem wd_z (k:Int):Wd (mod0 k):=⟨⟨zJs,zJs,by simp[mod0],by simp[mod0],by simp[mod0]⟩,zDx,zDx,zDx,by simp[mod0]⟩
theorem zBi2 (k:Int)(ps:List Txt):Wd (readM k ps).1:=by
 unfold readM;split
 ·exact⟨⟨zMe _ _,zMe _ _,by simp[mod0],by simp[mod0],by simp[mod0]⟩,zDx,zDx,zDx,by simp[mod0]⟩
 split
 ·exact⟨⟨zJs,zJs,zIt1 _ _,by simp[mod0],by simp[mod0]⟩,zDx,zDx,zDx,by simp[mod0]⟩
 split
 ·exact⟨⟨zJs,zJs,by simp[mod0],(zNk1 _ _ _ (Nat.le_refl _)).2,by simp[mod0]⟩,zEo1 _ _,zDx,zDx,by simp[mod0]⟩
 split
 ·exact⟨⟨zJs,zJs,by simp[mod0],by simp[mod0],(zDo1 _ _ _ (Nat.le_refl _)).2.2.1⟩,zDx,zEo1 _ _,zDx,(zDo1 _ _ _ (Nat.le_refl _)).2.2.2⟩
 split
 ·exact⟨⟨zJs,zMe _ _,by simp[mod0],by simp[mod0],by simp[mod0]⟩,zDx,zEo1 _ _,zEo1 _ _,by simp[mod0]⟩
 ·exact wd_z k
theorem zDh2 {s:Txt}{m:Mod}(h:implM s=some m):Wd m:=by
 unfold implM at h;split at h
 ·cases h
 ·split at h
  ·injection h with h;subst h;exact zBi2 _ _
  ·cases h
theorem zXr1 {s:Txt}{m:Mod}(h:implM s=some m):OkM m:=by
 have F:sm=16777216:=rfl;have h1:=(zCt1 h).1;rcases zEc h1 with ⟨t,u,rfl⟩|⟨t,u,rfl⟩|⟨l,rfl⟩|⟨st,a,rfl,hr⟩|rfl|⟨pts,lab,c,rfl,E⟩|⟨l,rfl,_⟩|⟨u,c,l,rfl,_⟩
 ·exact⟨by simp,by simp,by simp⟩
 ·exact⟨by simp,by simp,by simp⟩
 ·exact⟨by simp,by simp,by simp⟩
 ·have:st.length≤16:=by
   unfold isRingF at hr;simp only[yay,yaG] at hr;exact hr.1.2.1
  exact⟨by simp only;omega,by simp,by simp⟩
 ·exact⟨by simp,by simp,by simp⟩
 ·obtain ⟨J,G⟩:=zEn E;exact⟨by simp,by simp only;omega,by simp only;omega⟩
 ·exact⟨by simp,by simp,by simp⟩
 ·exact⟨by simp,by simp,by simp⟩
theorem zPo1 {rs:List Root}(m:Mod)(h:rs=[.arr 1 (tI (rowsZ m.store)),.arr 1 (tI (rowsZ m.pts)),.arr 1 (tI (rowsN m.lab))]):FzD rs (rMod m).val (.agg (modC m)):=by
 subst h;refine .agg _ _ rfl (fun j x y hx E=>?_)
 match j,hx,E with
 | 0,hx,E=>simp[modC] at hx E;subst hx E;exact .im _
 | 1,hx,E=>simp[modC] at hx E;subst hx E;exact .im _
 | 2,hx,E=>simp[modC] at hx E;subst hx E;exact .im _
 | 3,hx,E=>simp[modC] at hx E;subst hx E;exact .im _
 | 4,hx,E=>simp[modC] at hx E;subst hx E;exact zBj1 rfl (zAb _)
 | 5,hx,E=>simp[modC] at hx E;subst hx E;exact .im _
 | 6,hx,E=>simp[modC] at hx E;subst hx E;exact .im _
 | 7,hx,E=>simp[modC] at hx E;subst hx E;exact zBj1 rfl (zAb _)
 | 8,hx,E=>simp[modC] at hx E;subst hx E;exact zBj1 rfl (zAe _)
 | 9,hx,E=>simp[modC] at hx E;subst hx E;exact .im _
 | 10,hx,E=>simp[modC] at hx E;subst hx E;exact .im _
 | j+11,hx,E=>simp at hx
theorem zFj2 {rs:List Root}:FzD rs (.agg [.im (.int .i64 0),.im (.cpx .f32 0 0),.im (.cpx .f32 0 0),.im (.flt .f32 0),.nil,.im (.int .i64 0),.im (.int .i64 0),.nil,.nil,.im (.int .i64 0),.im (.int .i64 0)]) (.agg (modC (mod0 0))):=by
 refine .agg _ _ rfl (fun j x y hx E=>?_)
 match j,hx,E with
 | 0,hx,E=>simp[modC,mod0] at hx E;subst hx E;exact .im _
 | 1,hx,E=>simp[modC,mod0] at hx E;subst hx E;exact .im _
 | 2,hx,E=>simp[modC,mod0] at hx E;subst hx E;exact .im _
 | 3,hx,E=>simp[modC,mod0] at hx E;subst hx E;exact .im _
 | 4,hx,E=>simp[modC,mod0] at hx E;subst hx E;exact .nil _
 | 5,hx,E=>simp[modC,mod0] at hx E;subst hx E;exact .im _
 | 6,hx,E=>simp[modC,mod0] at hx E;subst hx E;exact .im _
 | 7,hx,E=>simp[modC,mod0] at hx E;subst hx E;exact .nil _
 | 8,hx,E=>simp[modC,mod0] at hx E;subst hx E;exact .nil _
 | 9,hx,E=>simp[modC,mod0] at hx E;subst hx E;exact .im _
 | 10,hx,E=>simp[modC,mod0] at hx E;subst hx E;exact .im _
 | j+11,hx,E=>simp at hx
theorem zJb1 {m:Mod}{b:Bool}:∀res,(Outs.one (rMB m b)).mem res→OkR false res:=okO (zOq1 (zVz1 _) _)
noncomputable def pmM (s:Txt):Mod:=(implM s).getD (mod0 0)
noncomputable def zEi:Ct:=fam false (fun s:S20=>([.c (.im (.str ⟨s.1.toArray⟩))],[])) (fun s=>.one (rMB (pmM s.1) (implM s.1).isSome))
theorem zLh {s:Txt}(h:s.length≤1048576):zEi.run [.c (.im (.str ⟨s.toArray⟩))] []=some (.one (rMB (pmM s) (implM s).isSome)):=
 zAc (ct:=zEi) rfl zZf1 ⟨s,h⟩
theorem zCf:(zEi.sc=true)=False:=by simp[zEi,fam]
theorem zUg:Law prog 8 zEi:=by
 refine zDq zYg (fun ⟨s,h⟩=>⟨zJb1,_,zWj h,fun res hr=>?_⟩);simp only[pmM];unfold oPm at hr
 cases hi:implM s with
 | none=>rw[hi] at hr;cases hr;exact⟨_,rfl,rfl,rfl,rfl,zHc (zPo1 (mod0 0) rfl) (fz_i _)⟩
 | some m=>rw[hi] at hr;cases hr;exact⟨_,rfl,rfl,rfl,rfl,zHc (zPo1 m rfl) (fz_i _)⟩
theorem zKi2 {s:Txt}:OkM (pmM s):=by
 unfold pmM
 cases h:implM s with
 | none=>exact⟨by simp[mod0],by simp[mod0],by simp[mod0]⟩
 | some m=>exact zXr1 h
theorem zKj2 {s:Txt}(h:(implM s).isSome=true):VM (pmM s):=by
 unfold pmM
 cases h':implM s with
 | none=>rw[h'] at h;cases h
 | some m=>exact⟨(zCt1 h').1,zDh2 h'⟩
def SM (m:Mod):Prop:=VM m∨m=mod0 0
theorem zMn2 {m:Mod}(h:SM m):OkM m:=by
 rcases h with h|rfl
 ·exact zBk1 h.1
 ·exact⟨by simp[mod0],by simp[mod0],by simp[mod0]⟩
theorem zOx1 {r:Rk}(h:VR r)(i:Int):SM (modAt r.1 i):=by
 unfold modAt;split
 ·rename_i hi;left;have E:i.toNat<r.1.length:=by omega
  rw[List.getD_eq_getElem?_getD,List.getElem?_eq_getElem E];exact h.vm _ (List.getElem_mem E)
 ·exact .inr rfl
abbrev ASM:={m:Mod//SM m}
theorem zNu1:∀a b:ASM,([D.agg (modC a.1)],([]:List (List B)))=([D.agg (modC b.1)],[])→a=b:=by
 rintro ⟨a,_⟩ ⟨b,_⟩ h;simp only[Prod.mk.injEq,List.cons.injEq,D.agg.injEq,and_true] at h;exact Subtype.ext (zDj h)
theorem zZo1:∀a b:ASM×Pt,([D.agg (modC a.1.1),.c (.im (.cpx .f32 a.2.1 a.2.2))],([]:List (List B)))=([D.agg (modC b.1.1),.c (.im (.cpx .f32 b.2.1 b.2.2))],[])→a=b:=by
 rintro ⟨⟨a,_⟩,⟨p,q⟩⟩ ⟨⟨b,_⟩,⟨F,E⟩⟩ h;simp only[Prod.mk.injEq,List.cons.injEq,D.agg.injEq,D.c.injEq,C.im.injEq,I.cpx.injEq,true_and,and_true] at h;obtain ⟨h,rfl,rfl⟩:=h;exact Prod.ext (Subtype.ext (zDj h)) rfl
def rsM (m:Mod):Mod:=if canR m=true then resetM m else mod0 0
noncomputable def zEh:Ct:=fam false (fun x:ASM=>([.agg (modC x.1)],[])) (fun x=>.one (rMB (rsM x.1) (canR x.1)))
theorem zUd {m:Mod}(h:SM m):zEh.run [.agg (modC m)] []=some (.one (rMB (rsM m) (canR m))):=zAc (ct:=zEh) rfl zNu1 ⟨m,h⟩
theorem zVp:(zEh.sc=true)=False:=by simp[zEh,fam]
noncomputable def zYs1:Ct:=fam false (fun _:Unit=>([.agg (modC (mod0 0))],[])) (fun _=>.one (rMB (mod0 0) false))
noncomputable def zYr1:Ct:=fam false (fun x:{m:Mod//VM m}=>([.agg (modC x.1)],[])) (fun x=>.one (rMB (rsM x.1) (canR x.1)))
theorem zSk1:Law prog 14 zYs1:=by
 refine zAw (zAa zGt zAd) hmixA func14 rfl rfl (fun _=>⟨zJb1,by simp[f14,modC],?_⟩);have E:hasF [2,4,6,7,8] 0=false:=by decide
 simp only[rMB,modC,mod0,zAk,zAq];try simp -dsimp only[go_sem,f14,zAu,E,yaI]
 refine zAh [.nilI 1 [.b 1 0 4,.b 1 0 7,.b 1 0 8]] ?_;simp -dsimp only[go_sem]
theorem zSj1:Law prog 14 zYr1:=by
 refine zDq zYe (fun ⟨m,h⟩=>⟨zJb1,_,zWh (zBk1 h.1) h.1,fun res hr=>?_⟩)
 cases hr
 simp only[rRs,rsM]
 cases canR m with
 | true=>exact⟨_,rfl,rfl,rfl,rfl,zHc (zPo1 (resetM m) rfl) (fz_i _)⟩
 | false=>exact⟨_,rfl,rfl,rfl,rfl,zHc zFj2 (fz_i _)⟩
theorem zGe1 {P:Program} {f:FuncId} {α β γ:Type} {sc:Bool} {A:α→List D×List (List B)} {oA:α→Outs} {B':β→List D×List (List B)} {oB:β→Outs} {C':γ→List D×List (List B)} {oC:γ→Outs}
 (h1:Law P f (fam sc A oA)) (h2:Law P f (fam sc B' oB)) (iA:∀a b,A a=A b→a=b) (iB:∀a b,B' a=B' b→a=b)
 (h:∀c,(∃a,A a=C' c∧oA a=oC c)∨(∃b,B' b=C' c∧oB b=oC c)):Law P f (fam sc C' oC):=by
 refine zXb1 h1 (fun ds hs o ho=>?_);simp only[fam] at ho;split at ho
 ·rename_i E;injection ho with ho;subst ho;have hc:=Classical.choose_spec E;generalize Classical.choose E=c at hc ⊢;rcases h c with ⟨a,G,F⟩|⟨b,G,F⟩
  ·exact⟨_,h1,rfl,by rw[←F];have:=zBd (sc:=sc) (out:=oA) iA a;rw[G,hc] at this;exact this⟩
  ·exact⟨_,h2,rfl,by rw[←F];have:=zBd (sc:=sc) (out:=oB) iB b;rw[G,hc] at this;exact this⟩
 ·cases ho
theorem zUf:Law prog 14 zEh:=
 zGe1 zSj1 zSk1 (fun ⟨a,E⟩ ⟨b,hb⟩ h=>by have:=zNu1 ⟨a,.inl E⟩ ⟨b,.inl hb⟩ h;exact Subtype.ext (congrArg (fun x:ASM=>x.1) this)) (fun _ _ _=>rfl)
  (fun ⟨m,h⟩=>h.elim (fun h=>.inl ⟨⟨m,h⟩,rfl,rfl⟩) (fun h=>.inr ⟨(),by subst h;rfl,by subst h;rfl⟩))
theorem zJz2 {m:Mod}(h:SM m)(hb:canR m=true):VM (rsM m):=by
 unfold rsM;rw[if_pos hb];rcases h with h|rfl
 ·exact zBh2 h
 ·exact absurd hb (by decide)
def csM (m:Mod)(z:Pt):Mod:=if canC m=true then ctlM m z else mod0 0
noncomputable def zDl:Ct:=fam false (fun x:ASM×Pt=>([.agg (modC x.1.1),.c (.im (.cpx .f32 x.2.1 x.2.2))],[])) (fun x=>.one (rMB (csM x.1.1 x.2) (canC x.1.1)))
theorem zQe {m:Mod}(h:SM m)(u v:Nat):zDl.run [.agg (modC m),.c (.im (.cpx .f32 u v))] []=some (.one (rMB (csM m (u,v)) (canC m))):=zAc (ct:=zDl) rfl zZo1 (⟨m,h⟩,(u,v))
theorem zRq:(zDl.sc=true)=False:=by simp[zDl,fam]
noncomputable def zNq1:Ct:=fam false (fun z:Pt=>([.agg (modC (mod0 0)),.c (.im (.cpx .f32 z.1 z.2))],[])) (fun _=>.one (rMB (mod0 0) false))
noncomputable def zNp1:Ct:=fam false (fun x:{m:Mod//VM m}×Pt=>([.agg (modC x.1.1),.c (.im (.cpx .f32 x.2.1 x.2.2))],[])) (fun x=>.one (rMB (csM x.1.1 x.2) (canC x.1.1)))
theorem zJy1:Law prog 15 zNq1:=by
 refine zAw (zAa zGt zAd) hmixA func15 rfl rfl (fun _=>⟨zJb1,by simp[f15,modC],?_⟩);have E:hasF [1,2,3] 0=false:=by decide
 simp only[rMB,modC,mod0,zAk,zAq];try simp -dsimp only[go_sem,f15,zAu,E,yaI]
 refine zAh [.nilI 1 [.b 1 0 4,.b 1 0 7,.b 1 0 8]] ?_;simp -dsimp only[go_sem]
theorem zJx1:Law prog 15 zNp1:=by
 refine zDq zSn (fun ⟨⟨m,h⟩,⟨u,v⟩⟩=>⟨zJb1,_,zRy (zBk1 h.1) h.1 u v,fun res hr=>?_⟩)
 cases hr
 simp only[rCs,csM]
 cases canC m with
 | true=>exact⟨_,rfl,rfl,rfl,rfl,zHc (zPo1 (ctlM m (u,v)) rfl) (fz_i _)⟩
 | false=>exact⟨_,rfl,rfl,rfl,rfl,zHc zFj2 (fz_i _)⟩
theorem zQu:Law prog 15 zDl:=
 zGe1 zJx1 zJy1 (fun ⟨⟨a,E⟩,p⟩ ⟨⟨b,hb⟩,q⟩ h=>by have:=zZo1 (⟨a,.inl E⟩,p) (⟨b,.inl hb⟩,q) h;exact Prod.ext (Subtype.ext (congrArg (fun x:ASM×Pt=>x.1.1) this)) (congrArg (fun x:ASM×Pt=>x.2) this)) (fun a b h=>by simpa[Prod.ext_iff] using h)
  (fun ⟨⟨m,h⟩,z⟩=>h.elim (fun h=>.inl ⟨(⟨m,h⟩,z),rfl,rfl⟩) (fun h=>.inr ⟨z,by subst h;rfl,by subst h;rfl⟩))
theorem zMi2 {m:Mod}{z:Pt}(h:SM m)(hz:W2 z)(hb:canC m=true):VM (csM m z):=by
 unfold csM;rw[if_pos hb];rcases h with h|rfl
 ·refine zMh2 h ?_ hz;simp only[canC,hasF,idxF] at hb;by_cases h1:m.kind=1
  ·exact .inl h1
  by_cases h2:m.kind=2
  ·exact .inr (.inl h2)
  by_cases h3:m.kind=3
  ·exact .inr (.inr h3)
  simp[h1,h2,h3] at hb
 ·exact absurd hb (by decide)
abbrev PW:={p:Pt//W2 p}
def oTlD (b:Bool):Outs:=.any PW (fun p=>{val:=.tup [.c (.im (.cpx .f32 p.1.1 p.1.2)),.c (.im (.bool b))]})
theorem zLf2:Nonempty PW=True:=by simp only[eq_iff_iff,iff_true];exact⟨⟨(0,0),by decide,by decide⟩⟩
noncomputable def zEt:Ct:=fam false (fun x:ASM=>([.agg (modC x.1)],[])) (fun x=>oTlD (canT x.1))
theorem zWd {m:Mod}(h:SM m):zEt.run [.agg (modC m)] []=some (oTlD (canT m)):=zAc (ct:=zEt) rfl zNu1 ⟨m,h⟩
theorem zAh1:(zEt.sc=true)=False:=by simp[zEt,fam]
theorem zYa:Law prog 18 zEt:=by
 refine zAf (zAa zGt (zAa zFh zAd)) hmixA func18 rfl rfl (fun ⟨⟨k,⟨t1,t2⟩,⟨s1,s2⟩,lv,st,ra,rc,pts,lab,c,l⟩,J⟩=>⟨okA (fun o=>zEr2 _ _),by simp[f18,modC],?_⟩);have hn:=zLf2;rcases J with ⟨F,hw⟩|h0;rotate_left
 ·obtain rfl:k=0:=congrArg Mod.kind h0;have E:hasF [1,2,6,7,8] 0=false:=by decide
  simp only[modC,oTlD,canT];try simp -dsimp only[go_sem,f18,zAu,E,yaI]
  exact⟨⟨(_,_),(⟨by decide,by decide⟩:W2 (0,0))⟩,rfl,rfl⟩
 obtain ⟨q1,Z,V⟩:=zBk1 F;simp only at q1 Z V;simp only[modC,oTlD,canT];have J:sm=16777216:=rfl;have hk:=zEt1 F;simp only at hk;have G:=fun k=>zBk (k:=k) (t1:=t1) (t2:=t2) (s1:=s1) (s2:=s2) (lv:=lv) (ra:=ra) (rc:=rc) (c:=c) (l:=l) q1 Z V;have U:W2 (s1,s2):=hw.w.state;have w2:lv<4294967296:=hw.w.level;have w0:W2 (0,0):=⟨by decide,by decide⟩;rcases hk with rfl|rfl|rfl|rfl|rfl|rfl|rfl|rfl
 ·have E:hasF [1,2,6,7,8] 1=true:=by decide
  try simp -dsimp only[go_sem,f18,zAu,E,G,F,Int.reduceEq,yaH]
  exact⟨⟨(_,_),U⟩,rfl,rfl⟩
 ·have E:hasF [1,2,6,7,8] 2=true:=by decide
  try simp -dsimp only[go_sem,f18,zAu,E,G,F,Int.reduceEq,yaH]
  exact⟨⟨(_,_),U⟩,rfl,rfl⟩
 ·have E:hasF [1,2,6,7,8] 3=false:=by decide
  try simp -dsimp only[go_sem,f18,zAu,E,yaI]
  exact⟨⟨(_,_),w0⟩,rfl,rfl⟩
 ·have E:hasF [1,2,6,7,8] 4=false:=by decide
  try simp -dsimp only[go_sem,f18,zAu,E,yaI]
  exact⟨⟨(_,_),w0⟩,rfl,rfl⟩
 ·have E:hasF [1,2,6,7,8] 5=false:=by decide
  try simp -dsimp only[go_sem,f18,zAu,E,yaI]
  exact⟨⟨(_,_),w0⟩,rfl,rfl⟩
 ·have E:hasF [1,2,6,7,8] 6=true:=by decide
  try simp -dsimp only[go_sem,f18,zAu,E,G,F,yaH]
  exact⟨⟨(_,_),nr32 _,show (0:Nat)<4294967296 by decide⟩,rfl,rfl⟩
 ·have E:hasF [1,2,6,7,8] 7=true:=by decide
  try simp -dsimp only[go_sem,f18,zAu,E,G,F,Int.reduceEq,yaH]
  exact⟨⟨(_,_),w2,show (0:Nat)<4294967296 by decide⟩,rfl,rfl⟩
 ·have E:hasF [1,2,6,7,8] 8=true:=by decide
  try simp -dsimp only[go_sem,f18,zAu,E,G,F,Int.reduceEq,yaH]
  exact⟨⟨(_,_),U⟩,rfl,rfl⟩
structure QRun (R:Rk) (n:Int) where
 r:Rk
 l:List Pt
 b:Bool
 w:∀p∈l,W2 p
 len:l.length≤500
 ok:b=true→VR r∧(l.length:Int)=n
def rRunD {R:Rk}{n:Int}(q:QRun R n):Res:={val:=.tup [.agg (rkC q.r),.c (.im (.sl 1 (rowsZ q.l))),.c (.im (.bool q.b))]}
def oRunD (R:Rk)(n:Int):Outs:=.any (QRun R n) rRunD
theorem zHz2 (R:Rk)(n:Int):Nonempty (QRun R n)=True:=by simp only[eq_iff_iff,iff_true];exact⟨⟨([],[]),[],false,by simp,by simp,by simp⟩⟩
theorem zOs1 (R:Rk)(n:Int):∀res,(oRunD R n).mem res→OkR false res:=okA (fun q=>zXa (zOk1 _) _ _)
theorem zFi2 {ms:List Mod}{cs:List Cbl}{a b n:Int}{xs:List Pt}(h:VR (ms,cs)):∀res,(oRun ms cs a b xs n).mem res→∃res',(oRunD (ms,cs) n).mem res'∧res'.roots=[]∧res.places=[]∧res'.places=[]∧FzD res.roots res.val res'.val:=by
 rintro res ⟨O,rfl⟩;simp only;by_cases hc:canRunF ms cs a b n=true
 ·rw[if_pos hc];obtain ⟨h1,h2,h3⟩:=zJy2 (O:=O) (a:=a) (b:=b) (xs:=xs) h n.toNat;simp only[canRunF,yay,yaG] at hc;obtain ⟨_,_,E,c2⟩:=hc
  have hl:(((runS O cs a b xs ms n.toNat).2.length:Nat):Int)=n:=by
   simp only at h3;rw[h3];omega
  refine⟨_,⟨⟨((runS O cs a b xs ms n.toNat).1,cs),(runS O cs a b xs ms n.toNat).2,true,h2,by omega,fun _=>⟨h1,hl⟩⟩,rfl⟩,rfl,rfl,rfl,?_⟩;exact zFz1 (zYo (zDn2 rfl) (zBj1 rfl (zAo _))) (.c _ _ (zBj1 rfl (zAb _))) (fz_i _)
 ·rw[if_neg hc];refine⟨_,⟨⟨([],[]),[],false,by simp,by simp,by simp⟩,rfl⟩,rfl,rfl,rfl,?_⟩;exact zFz1 (zYo (.nil _) (.nil _)) (.c _ _ (.nil _)) (fz_i _)
structure ARn where
 R:Rk
 a:Int
 b:Int
 xs:List Pt
 n:Int
 v:VR R
 xl:xs.length≤sm
noncomputable def zJf2:Ct:=fam false (fun x:ARn=>([.agg (rkC x.R),.agg [.im (.int .i64 x.a),.im (.int .i64 x.b)],.c (.im (.sl 1 (rowsZ x.xs))),.c (.im (.int .i64 x.n))],[])) (fun x=>oRunD x.R x.n)
theorem zCw2:Law prog 168 zJf2:=zDq zYd (fun ⟨R,a,b,xs,n,v,h⟩=>⟨zOs1 _ _,_,zWg v.sm1 v.sm2 h v.ok a b n,zFi2 v⟩)
structure ARun0' where
 ms:List Mod
 cs:List Cbl
 a:Int
 b:Int
 n:Int
 ml:ms.length≤sm
 cl:cs.length≤sm
 ok:∀m∈ms,OkM m
noncomputable def zGx1:Ct:=fam true (fun x:ARun0'=>([.agg [.im (.sl 11 (rowsM x.ms)),.im (.sl 2 (rowsC x.cs))],.agg [.im (.int .i64 x.a),.im (.int .i64 x.b)],.c .nil,.c (.im (.int .i64 x.n))],[])) (fun x=>oRun x.ms x.cs x.a x.b [] x.n)
theorem zUn1 {ms:List Mod}{cs:List Cbl}(h1:ms.length≤sm)(h2:cs.length≤sm)(h5:∀m∈ms,OkM m)(a b n:Int):zGx1.run [.agg [.im (.sl 11 (rowsM ms)),.im (.sl 2 (rowsC cs))],.agg [.im (.int .i64 a),.im (.int .i64 b)],.c .nil,.c (.im (.int .i64 n))] []=some (oRun ms cs a b [] n):=by
 refine zAc (ct:=zGx1) rfl ?_ ⟨ms,cs,a,b,n,h1,h2,h5⟩;rintro ⟨a,b,c,d,e,_,_,_⟩ ⟨J,G,F,d',E,_,_,_⟩ h;simp[zBp,zBh] at h ⊢;simp[h]
theorem zXe1:Law prog 168 zGx1:=
 zJc2 zYd (fun a:ARun=>zWg a.ml a.cl a.xl a.ok a.a a.b a.n) (fun x=>⟨x.ms,x.cs,x.a,x.b,[],x.n,x.ml,x.cl,by simp,x.ok⟩)
  (fun x=>⟨.cons (.same _) (.cons (.same _) (.cons (.c _ _ (.nil 1)) (.cons (.same _) .nil))),rfl⟩) (fun x=>rfl)
structure ARn0 where
 R:Rk
 a:Int
 b:Int
 n:Int
 v:VR R
noncomputable def zDw2:Ct:=fam false (fun x:ARn0=>([.agg (rkC x.R),.agg [.im (.int .i64 x.a),.im (.int .i64 x.b)],.c .nil,.c (.im (.int .i64 x.n))],[])) (fun x=>oRunD x.R x.n)
theorem zXd1:Law prog 168 zDw2:=zDq zXe1 (fun ⟨R,a,b,n,v⟩=>⟨zOs1 _ _,_,zUn1 v.sm1 v.sm2 v.ok a b n,zFi2 v⟩)
def argsRun:ARn ⊕ ARn0→List D×List (List B)
 | .inl x=>([.agg (rkC x.R),.agg [.im (.int .i64 x.a),.im (.int .i64 x.b)],.c (.im (.sl 1 (rowsZ x.xs))),.c (.im (.int .i64 x.n))],[])
 | .inr x=>([.agg (rkC x.R),.agg [.im (.int .i64 x.a),.im (.int .i64 x.b)],.c .nil,.c (.im (.int .i64 x.n))],[])
def outRun:ARn ⊕ ARn0→Outs
 | .inl x=>oRunD x.R x.n
 | .inr x=>oRunD x.R x.n
noncomputable def zZr:Ct:=fam false argsRun outRun
theorem zDu1:∀a b,argsRun a=argsRun b→a=b
 | .inl ⟨a,b,c,d,e,_,_⟩,.inl ⟨a',b',c',d',e',_,_⟩,h=>by
  simp only[argsRun,Prod.mk.injEq,List.cons.injEq,D.agg.injEq,D.c.injEq,C.im.injEq,I.int.injEq,I.sl.injEq,zAs,true_and,and_true] at h;obtain ⟨h1,⟨rfl,rfl⟩,rfl,rfl⟩:=h;obtain rfl:=zJd h1;rfl
 | .inl ⟨a,b,c,d,e,_,_⟩,.inr ⟨a',b',c',d',_⟩,h=>by simp[argsRun] at h
 | .inr ⟨a,b,c,d,_⟩,.inl ⟨a',b',c',d',e',_,_⟩,h=>by simp[argsRun] at h
 | .inr ⟨a,b,c,d,_⟩,.inr ⟨a',b',c',d',_⟩,h=>by
  simp only[argsRun,Prod.mk.injEq,List.cons.injEq,D.agg.injEq,D.c.injEq,C.im.injEq,I.int.injEq,true_and,and_true] at h;obtain ⟨h1,⟨rfl,rfl⟩,rfl⟩:=h;obtain rfl:=zJd h1;rfl
theorem zBc2 {R:Rk}{xs:List Pt}(v:VR R)(h:xs.length≤sm)(a b n:Int):zZr.run [.agg (rkC R),.agg [.im (.int .i64 a),.im (.int .i64 b)],.c (.im (.sl 1 (rowsZ xs))),.c (.im (.int .i64 n))] []=some (oRunD R n):=
 zBd zDu1 (.inl ⟨R,a,b,xs,n,v,h⟩)
theorem zUm1 {R:Rk}(v:VR R)(a b n:Int):zZr.run [.agg (rkC R),.agg [.im (.int .i64 a),.im (.int .i64 b)],.c .nil,.c (.im (.int .i64 n))] []=some (oRunD R n):=
 zBd zDu1 (.inr ⟨R,a,b,n,v⟩)
theorem zTv1:(zZr.sc=true)=False:=by simp[zZr,fam]
theorem zCx2:Law prog 168 zZr:=
 zGe1 zCw2 zXd1 (fun a b h=>Sum.inl.inj (zDu1 (.inl a) (.inl b) h)) (fun a b h=>Sum.inr.inj (zDu1 (.inr a) (.inr b) h)) (fun
  | .inl x=>.inl ⟨x,rfl,rfl⟩
  | .inr x=>.inr ⟨x,rfl,rfl⟩)
def Nms (l:List Int):Prop:=l.length≤16∧∀x∈l,0≤x∧x<16
theorem Nms.i64 {l:List Int}(h:Nms l):∀x∈l,i64B x:=fun x hx=>by
 obtain ⟨h1,h2⟩:=h.2 x hx;exact⟨by omega,by omega⟩
abbrev QNms:={l:List Int//Nms l}
def oNb:Outs:=.any (QNms×Bool) (fun q=>{val:=.tup [.c (.im (.sl 1 (rowsN q.1.1))),.c (.im (.bool q.2))]})
theorem zFa2:Nonempty (QNms×Bool)=True:=by simp only[eq_iff_iff,iff_true];exact⟨⟨[],by simp,by simp⟩,false⟩
theorem zVp1:∀res,oNb.mem res→OkR false res:=okA (fun q=>zEr2 _ _)
noncomputable def zNd:Ct:=fam false (fun r:AVr=>([.agg (rkC r.1)],[])) (fun _=>oNb)
theorem zRc1 {r:Rk}(h:VR r):zNd.run [.agg (rkC r)] []=some oNb:=zAc (ct:=zNd) rfl zHj1 ⟨r,h⟩
theorem zTx1:(zNd.sc=true)=False:=by simp[zNd,fam]
theorem zSn1:Law prog 170 zNd:=by
 refine zDq zNb1 (fun ⟨⟨ms,cs⟩,h⟩=>⟨zVp1,_,zLw1 h.ok h.rk,fun res hr=>?_⟩);have p:=h.parts;simp only at p
 cases ho:orderF ms cs with
 | none=>
  simp only[ho,oOrder] at hr
  cases hr
  exact⟨_,⟨(⟨[],by simp,by simp⟩,false),rfl⟩,rfl,rfl,rfl,zHc (.c _ _ (.nil _)) (fz_i _)⟩
 | some l=>
  simp only[ho,oOrder] at hr
  cases hr
  have E:∀x∈l,0≤x∧x<16:=fun x hx=>by
   have:=zEs1 (ms:=ms) (cs:=cs) x (by unfold ordL;rw[ho];exact hx);omega
  have hl:l.length≤16:=by
   have:=zOr (ms:=ms) (cs:=cs) ms.length [] l ho;simp only[List.length_nil] at this;omega
  exact⟨_,⟨(⟨l,hl,E⟩,true),rfl⟩,rfl,rfl,rfl,zHc (.c _ _ (zBj1 rfl (zAe _))) (fz_i _)⟩
theorem zLx2 (gs:List (List Int)):FzR (tG gs) (rowsG gs):=by
 refine⟨by rw[zOb,zWq],fun i r r0 h1 h2=>?_,fun i j r r0 x t h1 h2 h3 h4=>?_⟩
 ·simp only[rowsG,tG,List.getElem?_map,Option.map_eq_some_iff] at h1 h2;obtain ⟨m,F,rfl⟩:=h1;obtain ⟨G,E,rfl⟩:=h2;rfl
 ·simp only[rowsG,tG,List.getElem?_map,Option.map_eq_some_iff] at h1 h2;obtain ⟨m,F,rfl⟩:=h1;obtain ⟨G,E,rfl⟩:=h2;rw[F] at E;injection E with E;subst E
  match j,h3,h4 with
  | 0,h3,h4=>simp at h3 h4;subst h3 h4;exact zGa1 _ _
  | j+1,h3,h4=>simp at h3
abbrev QGs:={gs:List (List Int)//gs.length≤16∧∀g∈gs,Nms g}
def oJkD:Outs:=.any QGs (fun q=>{val:=.c (.im (.sl 1 (rowsG q.1)))})
theorem zLe2:Nonempty QGs=True:=by simp only[eq_iff_iff,iff_true];exact⟨⟨[],by simp,by simp⟩⟩
noncomputable def zNf:Ct:=fam false (fun r:AVr=>([.agg (rkC r.1)],[])) (fun _=>oJkD)
theorem zRd1 {r:Rk}(h:VR r):zNf.run [.agg (rkC r)] []=some oJkD:=zAc (ct:=zNf) rfl zHj1 ⟨r,h⟩
theorem zTy1:(zNf.sc=true)=False:=by simp[zNf,fam]
theorem zSo1:Law prog 173 zNf:=by
 refine zDq zNc1 (fun ⟨⟨ms,cs⟩,h⟩=>⟨okA (fun q=>⟨.c _ (.im _ (.inl rfl)),by simp,by simp⟩),_,zLx1 h.ok h.rk,fun res hr=>?_⟩);obtain ⟨⟨gs,F⟩,rfl⟩:=hr;have p:=h.parts;simp only at p F;refine⟨_,⟨⟨gs,by have:=F.le;omega,fun g E=>?_⟩,rfl⟩,rfl,rfl,rfl,.c _ _ ?_⟩
 ·obtain ⟨g1,g2,g3⟩:=F.gr g E;exact⟨by omega,fun x hx=>by have:=g3 x hx;omega⟩
 ·have:=FzC.view (rs:=[.arr 1 (tG gs)]) 0 1 _ _ rfl (zLx2 gs)
  rwa [zOb] at this
noncomputable def zYt1:Ct:=fam true (fun x:{x:AVi//¬(0≤x.2∧x.2<x.1.1.1.length)}=>([.agg (rkC x.1.1.1),.c (.im (.int .i64 x.1.2))],[])) (fun _=>.one rNoT)
theorem zSl1:Law prog 174 zYt1:=by
 refine zAf (zAa zCs zAd) hmixA func174 rfl rfl (fun ⟨⟨⟨⟨ms,cs⟩,h⟩,i⟩,U⟩=>⟨okO ⟨.tup _ (by intro d hd;simp[] at hd;rcases hd with rfl|rfl;exact .inl ⟨_,rfl,.nil⟩;exact .inl ⟨_,rfl,zBr rfl⟩),by simp[rNoT],by simp[rNoT]⟩,by simp[f174],?_⟩);have E:=zBi h.sm1 h.sm2 h.ok;have J:=h.rk;rw[h.rk] at E;simp only[rkC,rNoT] at E U ⊢;by_cases G:i<0
 ·have F:=eq_true G;try simp -dsimp only[go_sem,f174,E,F,yaH]
 ·have F:=eq_false G;have V:(ms.length:Int)≤i:=by omega
  try simp -dsimp only[go_sem,f174,E,F,V,zAj,yaH]
noncomputable def zNb:Ct:=fam false (fun x:AVi=>([.agg (rkC x.1.1),.c (.im (.int .i64 x.2))],[])) (fun _=>oNb)
theorem zRb1 {r:Rk}(h:VR r)(i:Int):zNb.run [.agg (rkC r),.c (.im (.int .i64 i))] []=some oNb:=zAc (ct:=zNb) rfl zNm (⟨r,h⟩,i)
theorem zTw1:(zNb.sc=true)=False:=by simp[zNb,fam]
theorem zSm1 (hsort:SortLaw prog 233):Law prog 174 zNb:=by
 have h1:Law prog 174 (fam false (fun x:{x:AVi//¬(0≤x.2∧x.2<x.1.1.1.length)}=>([.agg (rkC x.1.1.1),.c (.im (.int .i64 x.1.2))],[])) (fun _=>oNb)):=
  zDq zSl1 (fun x=>⟨zVp1,_,zBd (fun a b h=>Subtype.ext (zNm _ _ h)) x,fun res hr=>by
   cases hr
   exact⟨_,⟨(⟨[],by simp,by simp⟩,false),rfl⟩,rfl,rfl,rfl,zHc (.c _ _ (.nil _)) (fz_i _)⟩⟩)
 have h2:Law prog 174 (fam false (fun x:{x:AVi//0≤x.2∧x.2<x.1.1.1.length}=>([.agg (rkC x.1.1.1),.c (.im (.int .i64 x.1.2))],[])) (fun _=>oNb)):=by
  refine zDq (zNa1 hsort) (fun ⟨⟨⟨⟨ms,cs⟩,h⟩,i⟩,hi⟩=>?_);simp only at hi;obtain ⟨k,rfl⟩:=Int.eq_ofNat_of_zero_le hi.1;refine⟨zVp1,_,zLv1 (i:=k) h.ok h.rk (show k<ms.length by omega),fun res hr=>?_⟩;obtain ⟨⟨L,E⟩,rfl⟩:=hr;have p:=h.parts;simp only at p;have G:L.length≤ms.length:=E.len;have F:∀x∈L,0≤x∧x<(ms.length:Int):=E.rg;exact⟨_,⟨(⟨L,by omega,fun x hx=>by have:=F x hx;omega⟩,true),rfl⟩,rfl,rfl,rfl,zHc (.c _ _ (zBj1 rfl (zAe _))) (fz_i _)⟩
 refine zGe1 h1 h2 (fun a b h=>Subtype.ext (zNm _ _ h)) (fun a b h=>Subtype.ext (zNm _ _ h)) (fun x=>?_);by_cases hx:0≤x.2∧x.2<x.1.1.1.length
 ·exact .inr ⟨⟨x,hx⟩,rfl,rfl⟩
 ·exact .inl ⟨⟨x,hx⟩,rfl,rfl⟩
end Go.SX
namespace Go.SX
open Go Go.Proofs Ieee Go.RowKit
theorem zCs2 {P : Program} {f : FuncId} {fn : Func} (hf : P.funcs[f]? = some fn) (hb : fn.body.isNone = false) (hnm : (fn.name == "runtime.NumGoroutine") = false) {α : Type} {sc : Bool} {ds : α → List D} {out : α → Outs}
 (hok:∀a res,(out a).mem res→OkR sc res)
 (h:∀a (args:List Value) (w:World) (g:Gh),args.length=(ds a).length→(∀(t:Nat) (d:D) (v:Value),(ds a)[t]?=some d→args[t]?=some v→DV g d v)→(∀b o v,g.fz b o=some v→w.cell? ⟨b,o,none⟩=some v)→
  Calls P f args.toArray w (fun e w'=>∃v,e=.returned v∧(∃res,(out a).mem res∧res.roots=[]∧res.places=[]∧(∀ρ,reD ρ res.val=some res.val)∧∀g,DV g res.val v)∧Below w.heap.size w w')):
 Law P f (fam sc (fun a=>(ds a,[])) out):=by
 refine⟨⟨fun dss hs o hr res hm=>?_,fun dss hs o hr=>?_⟩,fn,hf,hnm,hb⟩
 ·simp only[fam] at hr
  split at hr
  ·injection hr with hr;subst hr;exact hok _ _ hm
  ·cases hr
 ·simp only[fam] at hr
  split at hr
  ·rename_i hex
   injection hr with hr
   subst hr
   have hc:=Classical.choose_spec hex
   generalize Classical.choose hex=a0 at hc ⊢
   simp only[Prod.mk.injEq] at hc
   obtain ⟨hd,hh⟩:=hc
   subst hh
   intro en args hl hu hR
   refine (h a0 args en.w0 en.g0 (by rw[hd];exact hl) (fun t d v h1 h2=>?_) (fun b o v hv=>(hR.fz b o v hv).1)).mono ?_
   ·rw[hd] at h1
    obtain ⟨v',h3,h4⟩:=hR.slots t d h1
    have h5:args.toArray[t]?=some v:=by simpa using h2
    have h6:args.toArray[t]?=some v':=h3
    rw[h5] at h6;injection h6 with h6;subst h6
    exact h4
   ·rintro e w' ⟨v,he,⟨res,hm,hr0,hp0,hre,hdv⟩,hB⟩
    refine⟨v,he,res,hm,en.g0,[],fun _=>none,fun _=>none,⟨#[],[]⟩,res.val,?_,by simp,by simp[hr0],by simp,by simp[hr0],by simp[hp0],hre _,hdv _⟩
    refine⟨⟨hR.fr.laid,hB.os,hB.tape,hB.output,hB.size,Gh.le.refl _,fun b hb ho=>⟨ho,hB.block b hb⟩,fun b n ho=>?_,fun b o v _ hv=>.inl hv⟩,rfl,fun b x hx=>Nat.lt_of_lt_of_le (hR.lt b x hx) hB.size,fun b o v hv=>?_,by simp,by simp,by simp⟩
    ·have:=hu n (hR.fr.place b n ho).1
     simp at this
    ·obtain ⟨h1,h2⟩:=hR.fz b o v hv
     refine⟨?_,h2⟩
     have hlt:b<en.w0.heap.size:=World.block_lt_of_cell? _ _ h1
     rw[hB.cell (p:=⟨b,o,none⟩) hlt];exact h1
  ·cases hr
def jnT (l:List Txt)(c:UInt8):Txt:=Lib.join l [c]
theorem zXk1 (c:UInt8){N:Nat}:∀l:List Txt,(∀p∈l,p.length≤N)→(jnT l c).length≤l.length*(N+1)
 | [],_=>by simp[jnT,Lib.join]
 | x::l,h=>by
  have:=Lib.join_length x l [c]
  have hl:∀l:List Txt,(∀p∈l,p.length≤N)→Lib.lens l≤l.length*N:=fun l=>by
   induction l with
   | nil=>intro _;simp[Lib.lens]
   | cons a t ih=>
    intro h;have:=h a (by simp);have:=ih (fun p E=>h p (by simp[E]));simp only[Lib.lens,List.map_cons,List.sum_cons,yab,Nat.add_mul] at*;omega
  have h2:=hl _ h;unfold jnT;rw[this];simp only[yab,List.length_nil,Nat.mul_add,Nat.add_mul] at*;omega
structure AJn where
 l:List Txt
 c:UInt8
 h:l.length≤sm
 s:∀p∈l,p.length≤2097152
noncomputable def zZs:Ct:=fam false (fun x:AJn=>([.c (.im (.sl 1 (rowsS x.l))),.c (.im (.str ⟨#[x.c]⟩))],[])) (fun x=>.one {val:=.c (.im (.str ⟨(jnT x.l x.c).toArray⟩))})
theorem zEa1 {l:List Txt}(c:UInt8)(h:l.length≤sm)(s:∀p∈l,p.length≤2097152):zZs.run [.c (.im (.sl 1 (rowsS l))),.c (.im (.str ⟨#[c]⟩))] []=some (.one {val:=.c (.im (.str ⟨(jnT l c).toArray⟩))}):=by
 refine zAc (ct:=zZs) rfl ?_ ⟨l,c,h,s⟩;rintro ⟨a,b,_,_⟩ ⟨F,E,_,_⟩ h;simp only[Prod.mk.injEq,List.cons.injEq,D.c.injEq,C.im.injEq,I.sl.injEq,I.str.injEq,ByteArray.mk.injEq,true_and,and_true] at h;obtain ⟨h1,h2⟩:=h;obtain rfl:=(zUu.mp h1:a=F);have:b=E:=by simpa using h2
 subst this;rfl
theorem zRp:(zZs.sc=true)=False:=by simp[zZs,fam]
theorem zFk1:Law Tryz.prog 160 zZs:=by
 refine zCs2 (ds:=fun x:AJn=>[.c (.im (.sl 1 (rowsS x.l))),.c (.im (.str ⟨#[x.c]⟩))]) Tryz.func160 rfl rfl (fun a=>zAv rfl) (fun ⟨l,c,hl,hs⟩ args w g F hv b0=>?_)
 match args,F with
 | [v0,v1],_=>
  have U:=hv 0 _ v0 rfl rfl;have h1:=hv 1 _ v1 rfl rfl;rw[zBp1 h1];have a8:sm=16777216:=rfl;have Z:=zXk1 c l hs;have J:(l.map fun s:Txt=>(⟨s.toArray⟩:ByteArray)).map (·.data.toList)=l:=by rw[List.map_map];exact List.map_id' l
  have fin:∀(e:Ending) (w':World),e=.returned (.string ⟨(Lib.join l [c]).toArray⟩)∧Below w.heap.size w w'→∃v,e=.returned v∧(∃res,(Outs.one {val:=.c (.im (.str ⟨(jnT l c).toArray⟩))}).mem res∧res.roots=[]∧res.places=[]∧(∀ρ,reD ρ res.val=some res.val)∧∀g,DV g res.val v)∧Below w.heap.size w w':=
   fun e w' ⟨he,hB⟩=>⟨_,he,⟨_,rfl,rfl,rfl,fun _=>rfl,fun g=>zKm1 (fun _=>.str _) g⟩,hB⟩
  have nil:∀(a:Option Addr) (c':Nat),l=[]→Calls Tryz.prog 160 [Value.slice a 0 c',.string ⟨#[c]⟩].toArray w (fun e w'=>∃v,e=.returned v∧(∃res,(Outs.one {val:=.c (.im (.str ⟨(jnT l c).toArray⟩))}).mem res∧res.roots=[]∧res.places=[]∧(∀ρ,reD ρ res.val=some res.val)∧∀g,DV g res.val v)∧Below w.heap.size w w'):=fun a c' hn=>
   (Any.strings_Join_none Tryz.lays156 Tryz.lays156_extra a c' ⟨#[c]⟩ w).mono fun e w' ⟨he,hw⟩=>fin e w' ⟨by subst hn;exact he,hw▸Below.refl _ _⟩
  cases U with
  | c _ _ U=>
   cases U with
   | im _ _ U=>
    generalize E:rowsS l=rows at U
    cases U with
    | sl0 _ a c'=> exact nil a c' (by cases l with|nil=>rfl|cons=>simp[rowsS] at E)
    | sl _ rows b off cc vs hc hl2 hx hr=>
     subst E
     cases l with
     | nil=>exact nil _ _ rfl
     | cons x0 t=>
      generalize hL:x0::t=L at*;have F:(rowsS L).length=(L.map fun s:Txt=>(⟨s.toArray⟩:ByteArray)).length:=(by simp[rowsS])
      have G:∀(j:Nat) x,(L.map fun s:Txt=>(⟨s.toArray⟩:ByteArray))[j]?=some x→w.cell? ⟨b,off+j,none⟩=some (.string x):=fun j x hj=>by
       have a6:(rowsS L)[j]?=some [I.str x]:=by
        simp only[List.getElem?_map,Option.map_eq_some_iff] at hj;obtain ⟨p,hp,rfl⟩:=hj;simp[rowsS,hp]
       have k1:=hx j _ 0 _ a6 rfl;have k2:=hr j _ 0 _ a6 rfl;have k3:=b0 _ _ _ k1;generalize vs j 0=V at*
       cases k2
       simpa using k3
      have b2:b<w.heap.size:=World.block_lt_of_cell? _ _ (G 0 ⟨x0.toArray⟩ (by rw[←hL];rfl));rw[F] at hc ⊢;refine (Any.strings_Join Tryz.lays156 Tryz.lays156_extra b off cc (L.map fun s:Txt=>(⟨s.toArray⟩:ByteArray)) ⟨#[c]⟩ w G b2 (by simp only[List.length_map];omega) hc (by rw[J];simp only[jnT] at Z;simp only[] ;refine Nat.le_trans Z ?_;rw[a8] at hl;exact Nat.le_trans (Nat.mul_le_mul_right _ hl) (by decide))).mono fun e w' h=>fin e w' ?_;rw[J] at h;exact h
end Go.SX
