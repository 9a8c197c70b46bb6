/-
  SX: the engine, parts K to T, in one text. Plain definitions and theorems over any program.
  No condition.
-/
import Derived.Calls
import Derived.Orders
import Derived.Tactics
import Derived.Scope
import Derived.Test.YtfmpjhjnpeheeaaGreatDoorPkA
set_option maxRecDepth 100000
set_option maxHeartbeats 16000000
set_option linter.unusedVariables false
set_option linter.unusedSimpArgs false
namespace Go.SX
open Go Go.RowKit
variable {en : En} {g : Gh} {S : Nat → Option D} {H : Nat → Option Root} {a : Act} {w : World} {P : Program}
def tby (P:Program)(t:TypeId):Option Nat:=match P.info? t with|some i=>some i.bytes|none=>none
theorem elT {t e:TypeId}{sz bytes:Nat}{zc:List C}(ht:tel P t=some e)(hs:tsz P e=some sz)(hb:tby P e=some bytes)(hz:tzr P e=some zc)(hl:zc.length=sz):ElT P t e sz bytes:=by
 refine⟨zFk ht,?_⟩;unfold tsz at hs;unfold tby at hb;unfold tzr at hz
 cases hi:P.info? e with
 | none=>simp[hi] at hs
 | some i=>
  simp only[hi,yaC] at hs hb hz
  cases E:i.zero with
  | none=>simp[E] at hz
  | some z=>
   simp only[E] at hz;have:=(zFb (g:=⟨fun _=>False,fun _=>0,fun _=>0,fun _=>0,fun _=>none,fun _ _=>none⟩) hz).1;exact⟨i,z,rfl,hs,hb,E,by rw[←hl,←this];simp⟩
def appendZ (P:Program)(t:TypeId)(S:Nat→Option D)(H:Nat→Option Root)(s x:Operand):Option (Nat×Nat×List (List T)×Option Nat):=
 match tel P t with
 | some e=>match tsz P e,tby P e,tzr P e with
  | some sz,some bytes,some zc=>match mapT zc,x with
   | some zt,.const (.int .i64 k)=>if zc.length=sz∧0<sz∧0<bytes∧zt.all okT=true∧0<k∧k≤1048576 then match evC S s with
    | some (.view n sz' 0 len)=>if sz'=sz then match H n with
     | some (.arr sz2 rows)=>if sz2=sz∧rows.length=len then some (sz,bytes,rows++List.replicate k.toNat zt,some n) else none
     | _=>none
     else none
    | _=>none
    else none
   | _,_=>none
  | _,_,_=>none
 | none=>none
def AppZ (P:Program)(t t2:TypeId):Prop:=∀(en:En) (g:Gh) (S:Nat→Option D) (H:Nat→Option Root) (a:Act) (w:World),Rel en g S H a w→∀(ty:TypeId) (s x:Operand) (sz bytes nm:Nat) (rows:List (List T)) (on:Option Nat),
 appendZ P t S H s x=some (sz,bytes,rows,on)→¬g.used nm→rows.length*bytes≤140737488355328→
  ∃v w',(Builtin.append_ #[t,t2] ty #[a.eval s,a.eval x]).run P w=.ok v w'∧Grown en g nm S (match on with|some n=>upd H n none|none=>H) a w' sz rows v
def appendH (P:Program)(t:TypeId)(S:Nat→Option D)(H:Nat→Option Root)(s x:Operand):Option (Nat×Nat×List (List T)×Option Nat):=
 match tel P t with
 | some e=>match tsz P e,tby P e,tzr P e with
  | some sz,some bytes,some zc=>if zc.length=sz∧0<sz∧0<bytes then match srcRows S H x sz with
   | some src=>match evC S s with
    | some (.view n sz' 0 len)=>if sz'=sz then match H n with
     | some (.arr sz2 rows)=>if sz2=sz∧rows.length=len then some (sz,bytes,rows++src,some n) else none
     | _=>none
     else none
    | some .nil=>some (sz,bytes,src,none)
    | _=>none
   | none=>none
   else none
  | _,_,_=>none
 | none=>none
theorem zHf1 (h:Rel en g S H a w) {t ty:TypeId} {s x:Operand} {sz bytes nm:Nat} {rows:List (List T)} {on:Option Nat} (hd:appendH P t S H s x=some (sz,bytes,rows,on)) (hnm:¬g.used nm)
 (hb:rows.length*bytes≤140737488355328):
 ∃v w',(Builtin.append_ #[t,t] ty #[a.eval s,a.eval x]).run P w=.ok v w'∧Grown en g nm S (match on with|some n=>upd H n none|none=>H) a w' sz rows v:=by
 unfold appendH at hd;split at hd
 ·rename_i e ht;split at hd
  ·rename_i F b4 zc f2 g7 e9;split at hd
   ·rename_i hc;obtain ⟨f0,V,e5⟩:=hc;split at hd
    ·rename_i src d9;have he:=elT ht f2 g7 e9 f0;obtain ⟨A,c,news,hx,hS⟩:=zPq h V d9
     have hz:∀k,(Builtin.zeroCells (((P.info? e).bind (·.zero)).getD undef).cells k).size=k*F:=fun k=>by
      obtain ⟨i,z,hi,_,_,e8,d7⟩:=he.info;simp[hi,e8,size_zeroCells,d7]
     have a7:∀(n:Nat) (A':Option Addr),a.eval s=.slice A' 0 0→rows=src→sz=F→bytes=b4→(∀b',en.g0.own b'≠some (n,[]))→
      ∃v w',(Builtin.append_ #[t,t] ty #[a.eval s,a.eval x]).run P w=.ok v w'∧Grown en g nm S (upd H n none) a w' sz rows v:=by
      rintro n A' G rfl rfl rfl U;rcases Nat.eq_zero_or_pos rows.length with hk|hk
      ·have c6:rows=[]:=List.eq_nil_of_length_eq_zero hk;subst c6;obtain ⟨g',h1,h2,h3,h4⟩:=h.new0 hnm V n;exact⟨_,w,by rw[G,hx];exact zLz he A' A 0 0 c (Nat.le_refl _) w,g',h1,h3,h4,.view0 nm sz 0 A' h2⟩
      ·rcases hS.at_ with h0|⟨b,o,rfl,b3⟩
       ·omega
       ·obtain ⟨cap',d3,a8⟩:=zFp (ty:=ty) (B:=A') (len:=0) (cap:=0) (olds:=[]) he w (by simp) (.inl rfl) (fun _=>rfl) hk hS.len b3 (by omega) e5 (by rw[Nat.zero_add];exact hb)
        have hG:=zKt (ty:=ty) h he V hnm U hS (rows:=[]) (olds:=[]) (fun i r hr=>by simp at hr) (by simp) (fun i r j x hr=>by simp at hr) (cap':=cap') (by simpa using d3)
         (Builtin.zeroCells (((P.info? e).bind (·.zero)).getD undef).cells (cap'- ([].length+rows.length))) (by rw[hz])
        simp only[List.length_nil,Nat.zero_add,List.nil_append] at hG a8;exact⟨_,_,by rw[G,hx];exact a8,hG⟩
     split at hd
     ·rename_i n h8 len b1;split at hd
      ·rename_i b6;rw[b6] at b1;clear b6;split at hd
       ·rename_i h7 E hn;split at hd
        ·rename_i g5;obtain ⟨c1,b9⟩:=g5;rw[c1] at hn;rw[←b9] at b1;clear c1 b9;simp only[yaC,Prod.mk.injEq] at hd;obtain ⟨rfl,rfl,rfl,rfl⟩:=hd
         have U:∀b',en.g0.own b'≠some (n,[]):=fun b' d4=>by
          obtain ⟨c0,g6,_⟩:=h.wd n _ b' hn d4
          cases g6
         have J:=zCg h b1;obtain ⟨hu,hR⟩:=h.roots n _ hn;have d0:(E++src).length=E.length+src.length:=(by simp);generalize b7:E.length=len0 at J;generalize G:a.eval s=u at J
         cases J with
         | view0 _ _ _ A' hu'=>
          have c6:E=[]:=List.eq_nil_of_length_eq_zero b7;subst c6;have:=a7 n A' G rfl rfl rfl U;rw[G] at this;exact this
         | view _ _ _ _ cap hu' hbase hl hc'=>
          subst b7;rw[Nat.zero_mul] at G ⊢;rw[Nat.zero_add] at hc'
          cases hR with
          | arr0 _ hs' h0=>
           have d2:cap=0:=by
            rcases Nat.eq_zero_or_pos cap with h1|h1
            ·exact h1
            ·have:=Nat.mul_pos h1 V;omega
           subst d2;have:=a7 n _ G rfl rfl rfl U;rw[G] at this;exact this
          | mk _ cs e' hh hon hf hr=>
           obtain ⟨e4,e3,f3,Z⟩:=hf;by_cases a6:E.length+src.length≤cap
           ·
            have e2:E.length*F+0+news.length≤cs.size:=by
             rw[hS.len,Nat.add_zero,←Nat.add_mul,e3];exact Nat.le_trans (Nat.mul_le_mul_right _ a6) hc'
            have e0:∀v∈news,v.oneCell'=true:=fun v J=>by
             obtain ⟨p,hp,rfl⟩:=List.mem_iff_getElem.1 J;rw[hS.len] at hp;have hi:p / F<src.length:=Nat.div_lt_of_lt_mul (by rw[Nat.mul_comm];exact hp);have hj:p%F<F:=Nat.mod_lt _ V;have h1:=hS.row _ _ (List.getElem?_eq_getElem hi);obtain ⟨v,J,f1⟩:=hS.val (p / F) _ (p%F) _ (List.getElem?_eq_getElem hi) (List.getElem?_eq_getElem (show p%F<(src[p / F]).length by omega));rw[Nat.mul_comm,Nat.div_add_mod] at J;rw[(List.getElem?_eq_some_iff.1 J).2];exact f1.one
            have d8:=zCe P (g.rb n) (E.length*F) e' news 0 cs w hh e2 e0;rw[Nat.add_zero] at d8;obtain ⟨i,z,hi,f8,j0,i7,d7⟩:=he.info
            have f9:(Builtin.firstCells F src.length (.slice A src.length c)).run P w=.ok news.toArray w:=by
             rcases hS.at_ with h0|⟨b,o,rfl,b3⟩
             ·have f5:news=[]:=List.eq_nil_of_length_eq_zero (by rw[hS.len,h0,Nat.zero_mul]);subst f5;rw[h0]
              cases A<;>simp[Builtin.firstCells,loadCells,loadCellsFrom]
             ·exact run_firstCells_some (P:=P) w F src.length ⟨b,o,none⟩ src.length c news hS.len (fun j v J=>by rw[zCw];exact b3 j v J)
            refine⟨.slice (some ⟨g.rb n,0,none⟩) (E.length+src.length) cap,w.setRow (g.rb n) (setsA cs (E.length*F) news),?_,?_⟩
            ·rw[hx];simp[Builtin.append_,run_underlying he.under,sizeOf,typeInfo,hi,f8,Builtin.lenOf,a6,f9,zCw,d8]
            ·exact zEm1 h V hnm U hS hh hon ⟨e4,e3,f3,Z⟩ hr a6 hc'
           ·
            have d1:∀p,p<E.length*F→∃v,cs[p]?=some v:=fun p hp=>⟨_,Array.getElem?_eq_getElem (by omega)⟩;obtain ⟨olds,c8,e1⟩:=zAb1 d1;have hk:0<src.length:=(by omega);rcases hS.at_ with h0|⟨b,o,rfl,b3⟩
            ·omega
            ·have g9:At w (g.rb n) 0 olds:=fun j v J=>by
              have hj:j<E.length*F:=(by rw[←c8];exact (List.getElem?_eq_some_iff.1 J).1);rw[e1 j hj] at J;rw[cell_of_row w _ _ cs e' _ hh,Nat.zero_add];exact J
             obtain ⟨cap',d3,a8⟩:=zFp (ty:=ty) (B:=some ⟨g.rb n,0,none⟩) (len:=E.length) (cap:=cap) (olds:=olds) he w c8 (.inr ⟨_,_,rfl,g9⟩) (fun h9=>by cases h9) hk hS.len b3 (by omega) e5 (by rw[d0] at hb;exact hb)
             have hG:=zKt (ty:=ty) h he V hnm U hS (rows:=E) (olds:=olds) Z c8 (fun i r j y c7 hy=>by
              obtain ⟨v,J,g8⟩:=hr i j (.t y) (by simp[Root.get,c7,hy])
              rw[e4,Nat.zero_add] at J
              simp only[Root.sz] at J
              have i6:j<F:=by rw[←Z i r c7];exact (List.getElem?_eq_some_iff.1 hy).1
              have i8:i<E.length:=(List.getElem?_eq_some_iff.1 c7).1
              have f7:i*F+j<E.length*F:=by
               have h2:=Nat.mul_le_mul_right F (show i+1≤E.length by omega)
               rw[Nat.add_mul] at h2;omega
              exact⟨v,by rw[e1 _ f7];exact J,by cases g8 with|t _ _ h=>exact h⟩) (cap':=cap') d3
              (Builtin.zeroCells (((P.info? e).bind (·.zero)).getD undef).cells (cap'- (E.length+src.length))) (hz _)
             exact⟨_,_,by rw[hx];exact a8,hG⟩
        ·cases hd
       ·cases hd
      ·cases hd
     ·rename_i b1;simp only[yaC,Prod.mk.injEq] at hd;obtain ⟨rfl,rfl,rfl,rfl⟩:=hd;have J:=zCg h b1;generalize G:a.eval s=u at J
      cases J with
      | nil=>
       have U:∀b',en.g0.own b'≠some (nm,[]):=fun b' d4=>hnm (h.fr.gle.used nm (h.fr.place b' nm d4).1);obtain ⟨v,w',h1,g',h2,h3,h4,h5⟩:=a7 nm none G rfl rfl rfl U;rw[G] at h1;refine⟨v,w',h1,g',h2,h3,h4.less (fun _ _ h=>h) (fun k r hk=>?_),h5⟩;unfold upd at hk ⊢;by_cases e':k=nm
       ·rw[if_pos e'] at hk ⊢;exact hk
       ·rw[if_neg e'] at hk ⊢;rw[if_neg e'];exact hk
     ·cases hd
    ·cases hd
   ·cases hd
  ·cases hd
 ·cases hd
end Go.SX
namespace Go.SX
open Go Go.RowKit
variable {en : En} {g : Gh} {S : Nat → Option D} {H : Nat → Option Root} {a : Act} {w : World} {P : Program}
def mkOp (P:Program)(S:Nat→Option D)(o:Op)(nm:Nat):Option (D×Root):=
 match o with
 | .alloc t=>match tzr P t with
  | some cs=>some (.c (.ptr nm 0 0 0),.box (cs.map toB))
  | none=>none
 | .box t x=>match ev S x with
  | some d=>match dCs d with
   | some cs=>some (.c (.ptr nm 0 0 0),.box (cs.map toB))
   | none=>none
  | none=>none
 | .buildSlice t len parts=>match tel P t with
  | some e=>match tsz P e,tzr P e with
   | some sz,some zc=>if zc.length=sz∧0<sz∧len*sz≤16777216 then match rowsD sz S parts.toList (List.replicate len zc) with
    | some rows=>match mapTs rows with
     | some ts=>some (.c (.view nm sz 0 len),.arr sz ts)
     | none=>none
    | none=>none
    else none
   | _,_=>none
  | none=>none
 | .makeSlice t l c=>match tel P t with
  | some e=>match tsz P e,tby P e,tzr P e with
   | some sz,some by_,some zc=>match mapT zc with
    | some zt=>if zc.length=sz∧0<sz then match evI S l,evI S c with
     | some (.int _ n),some (.int _ m)=>if 0≤n∧n≤m∧m≤9223372036854775807∧(by_:Int)*m≤281474976710656 then some (.c (.view nm sz 0 n.toNat),.arr sz (List.replicate n.toNat zt)) else none
     | _,_=>none
     else none
    | none=>none
   | _,_,_=>none
  | none=>none
 | _=>none
theorem zAh2 {e:TypeId}{sz by_:Nat}{zc:List C}(hs:tsz P e=some sz)(hb:tby P e=some by_)(hz:tzr P e=some zc):
 ∃i z,P.info? e=some i∧i.size=sz∧i.bytes=by_∧i.zero=some z∧mapCV z.cells.toList=some zc:=by
 unfold tsz at hs;unfold tby at hb;unfold tzr at hz
 cases hi:P.info? e with
 | none=>simp[hi] at hs
 | some i=>
  simp only[hi,yaC] at hs hb hz
  cases E:i.zero with
  | none=>simp[E] at hz
  | some z=>simp only[E] at hz;exact⟨i,z,rfl,hs,hb,E,hz⟩
theorem zNw1 {e:TypeId}{sz:Nat}{zc:List C}(hs:tsz P e=some sz)(hz:tzr P e=some zc):
 ∃i z,P.info? e=some i∧i.size=sz∧i.zero=some z∧mapCV z.cells.toList=some zc:=by
 unfold tsz at hs;unfold tzr at hz
 cases hi:P.info? e with
 | none=>simp[hi] at hs
 | some i=>
  simp only[hi,yaC] at hs hz
  cases E:i.zero with
  | none=>simp[E] at hz
  | some z=>simp only[E] at hz;exact⟨i,z,rfl,hs,E,hz⟩
theorem zIa {zc:List C}{zt:List T}(h:mapT zc=some zt):∀n,mapTs (List.replicate n zc)=some (List.replicate n zt)
 | 0=>rfl
 | n+1=>by simp[List.replicate_succ,mapTs,h,zIa h n]
theorem zRo1 (h:Rel en g S H a w){o:Oper}{nm:Nat}{d:D}{r:Root}(hnm:¬g.used nm)(hd:mkOp P S o.op nm=some (d,r)):
 ∃v w' g',(execOp a.eval o).run P w=.ok (.value v) w'∧Made en g g' nm S (upd H nm (some r)) a w' d v:=by
 obtain ⟨dst,op,type,pos,after,guard⟩:=o;simp only at hd;unfold mkOp at hd;split at hd
 ·rename_i t;split at hd
  ·rename_i cs hz;simp only[yaC,Prod.mk.injEq] at hd;obtain ⟨rfl,rfl⟩:=hd;obtain ⟨z,c1,E⟩:=zHk1 (g:=g) hz;refine⟨_,_,_,?_,zVr1 h hnm E t⟩;simp[execOp,Instr.alloc,c1,newVar,newRow]
  ·cases hd
 ·rename_i t x;split at hd
  ·rename_i d0 he;split at hd
   ·rename_i cs d2;simp only[yaC,Prod.mk.injEq] at hd;obtain ⟨rfl,rfl⟩:=hd;refine⟨_,_,_,?_,zVr1 h hnm (zRb (zBt h he) d2) t⟩;simp[execOp,Instr.box,newVar,newRow]
   ·cases hd
  ·cases hd
 ·rename_i t len parts;split at hd
  ·rename_i e ht;split at hd
   ·rename_i sz zc F hz;split at hd
    ·rename_i hc;split at hd
     ·rename_i rows Z;split at hd
      ·rename_i ts c6;simp only[yaC,Prod.mk.injEq] at hd;obtain ⟨rfl,rfl⟩:=hd;obtain ⟨i,z,hi,b2,a7,a6⟩:=zNw1 F hz;have E:CVs g zc z.cells.toList:=zFb a6;obtain ⟨U,V,d9⟩:=hc;have hF:=zYq (g:=g) E U V len;obtain ⟨A',h1,h2,h3⟩:=zWr h parts.toList _ _ _ hF Z;obtain ⟨k1,k2,k3⟩:=zYb1 h2 c6;have b1:ts.length=len:=(by rw[k1,h3];simp);have:=zVs1 h hnm k2 k3 e len (by omega) (by rw[h2.1,h3];simp);refine⟨_,_,_,?_,by rw[b1] at this;exact this⟩;have e1:(Array.map (fun (p:Nat×Operand)=>(p.1,a.eval p.2)) parts).toList=parts.toList.map fun (p:Nat×Operand)=>(p.1,a.eval p.2):=(by simp);have c7:¬(2^ 24<len*sz):=(by omega);by_cases hn:len*sz=0
       ·have hm:madeCells z.cells (len*sz)=#[]:=(by simp[hn,madeCells,Array.range_zero']);rw[hm] at h1;simp[execOp,Instr.buildSlice,run_underlying (zFk ht),zCx F,hn,newRow,Array.range_zero',h1]
       ·have hm:(Array.range (len*sz)).map (z.cells[·%z.cells.size]!)=madeCells z.cells (len*sz):=rfl;simp[execOp,Instr.buildSlice,run_underlying (zFk ht),zCx F,hn,c7,newRow,zeroValue,typeInfo,hi,a7,hm,h1]
      ·cases hd
     ·cases hd
    ·cases hd
   ·cases hd
  ·cases hd
 ·rename_i t l c;split at hd
  ·rename_i e ht;split at hd
   ·rename_i sz by_ zc F d3 hz;split at hd
    ·rename_i zt b9;split at hd
     ·rename_i hc;split at hd
      ·rename_i kl n kc m hl hm;split at hd
       ·rename_i hb;simp only[yaC,Prod.mk.injEq] at hd;obtain ⟨rfl,rfl⟩:=hd;obtain ⟨i,z,hi,b2,d1,a7,a6⟩:=zAh2 F d3 hz;have E:CVs g zc z.cells.toList:=zFb a6;obtain ⟨U,V⟩:=hc;obtain ⟨d7,d6,d5,d4⟩:=hb;have hF:=zYq (g:=g) E U V m.toNat;obtain ⟨k1,k2,k3⟩:=zYb1 hF (zIa b9 _);have a8:n.toNat≤m.toNat:=(by omega)
        have J:∀(i:Nat) (r:List T),(List.replicate n.toNat zt)[i]?=some r→(List.replicate m.toNat zt)[i]?=some r:=fun i r hr=>by
         rw[List.getElem?_replicate] at hr ⊢;split at hr
         ·rw[if_pos (by omega)];exact hr
         ·cases hr
        have:=zVs1 h hnm (rows:=List.replicate n.toNat zt) (fun i r hr=>k2 i r (J i r hr)) (fun i r j x hr hx=>k3 i r j x (J i r hr) hx) e m.toNat (by simpa using a8) (by rw[hF.1];simp);rw[List.length_replicate] at this;refine⟨_,_,_,?_,this⟩;have G:=run_make (P:=P) w t e i z (zFk ht) hi a7 kl kc n m d7 d6 (by rw[d1];exact d4) d5;rw[b2] at G;simp only[execOp,(zCd h hl).int_inv,(zCd h hm).int_inv,Sem.run_bind,G,Result.andThen_ok];rfl
       ·cases hd
      ·cases hd
     ·cases hd
    ·cases hd
   ·cases hd
  ·cases hd
 ·cases hd
def clearH (P:Program)(t:TypeId)(S:Nat→Option D)(H:Nat→Option Root)(x:Operand):Option (Nat×Root):=
 match tel P t with
 | some e=>match tsz P e,tzr P e with
  | some sz0,some zc=>match mapT zc with
   | some zt=>match evC S x with
    | some (.view n sz lo len)=>match H n with
     | some (.arr sz' rows)=>if (sz0=sz∧sz'=sz∧zc.length=sz∧0<sz)∧lo=0∧rows.length=len then some (n,.arr sz (List.replicate len zt)) else none
     | _=>none
    | _=>none
   | none=>none
  | _,_=>none
 | none=>none
theorem zKy1 (h:Rel en g S H a w){t ty:TypeId}{x:Operand}{n:Nat}{r':Root}(hd:clearH P t S H x=some (n,r')):
 ∃w',(Builtin.clear_ #[t] ty #[a.eval x]).run P w=.ok (.tuple #[]) w'∧Rel en g S (upd H n (some r')) a w':=by
 unfold clearH at hd;split at hd
 ·rename_i e ht;split at hd
  ·rename_i e0 zc c6 hz;split at hd
   ·rename_i zt b3;split at hd
    ·rename_i m sz lo len hx;split at hd
     ·rename_i E rows hr;split at hd
      ·rename_i hc;obtain ⟨⟨rfl,rfl,a8,b6⟩,rfl,J⟩:=hc;simp only[yaC,Prod.mk.injEq] at hd;obtain ⟨rfl,rfl⟩:=hd;obtain ⟨i,z,hi,e7,d3,d1⟩:=zNw1 c6 hz;have b4:CVs g zc z.cells.toList:=zFb d1;have hF:=zYq (g:=g) b4 a8 b6 len;obtain ⟨k1,k2,k3⟩:=zYb1 hF (zIa b3 len);have hp:=zCg h hx;generalize a.eval x=u at hp
       have G:(Builtin.zeroCells z.cells len)=madeCells z.cells (len*E):=by
        have:z.cells.size=E:=(by rw[←a8,←b4.1];simp);unfold Builtin.zeroCells madeCells;rw[this]
       have U:rows.length=0→Rel en g S (upd H m (some (.arr E (List.replicate len zt)))) a w:=fun h0=>by
        have e1:rows=[]:=List.eq_nil_of_length_eq_zero h0
        have e2:upd H m (some (.arr E (List.replicate len zt)))=H:=by
         funext k;unfold upd;split
         ·rename_i e;subst e;rw[hr,e1];have:len=0:=(by omega);subst this;rfl
         ·rfl
        rw[e2];exact h
       have V:∀(A:Option Addr) (c:Nat),(Builtin.clear_ #[t] ty #[.slice A 0 c]).run P w=.ok (.tuple #[]) w:=fun A c=>by
        cases A<;>simp[Builtin.clear_,run_underlying (zFk ht)]<;>rfl
       by_cases h0:len=0
       ·subst h0
        cases hp with
        | view0=>exact⟨w,V _ _,U J⟩
        | view=>exact⟨w,V _ _,U J⟩
       ·obtain ⟨hu,hR⟩:=h.roots m _ hr
        cases hR with
        | arr0=>simp at J;omega
        | mk _ A e' hh ho hf hrr=>
         obtain ⟨f1,f2,f3,f4⟩:=hf
         cases hp with
         | view0=>omega
         | view _ _ _ _ cap _ hbase hl hc=>
          have b5:(Builtin.zeroCells z.cells len).toList.length=len*E:=(by rw[G];simp[size_madeCells])
          have b7:∀v∈(Builtin.zeroCells z.cells len).toList,v.oneCell'=true:=fun v hv=>by
           obtain ⟨q,hq,rfl⟩:=List.mem_iff_getElem.1 hv;rw[b5] at hq;have c8:q / E< len:=Nat.div_lt_of_lt_mul (by rw[Nat.mul_comm];exact hq);have c7:q%E< zt.length:=(by rw[(zSg b3).1,a8];exact Nat.mod_lt _ b6);obtain ⟨v',F,b0⟩:=k3 (q / E) zt (q%E) zt[q%E] (by rw[List.getElem?_replicate,if_pos c8]) (List.getElem?_eq_getElem c7);rw[show q / E* E+q%E=q by rw[Nat.mul_comm];exact Nat.div_add_mod q E] at F;rw[←G] at F;have:(Builtin.zeroCells z.cells len)[q]?=some (Builtin.zeroCells z.cells len).toList[q]:=(by simp);rw[this] at F;injection F with F;rw[F];exact b0.one
          have a7:g.base m+(Builtin.zeroCells z.cells len).toList.length≤A.size:=by
           rw[b5];have:=f3;subst J;omega
          have Z:=zCe P (g.rb m) (g.base m) e' (Builtin.zeroCells z.cells len).toList 0 A w hh (by simpa using a7) b7;rw[Nat.add_zero] at Z;refine⟨w.setRow (g.rb m) (setsA A (g.base m) (Builtin.zeroCells z.cells len).toList),?_,h.store hr hh ho (zGb _ _ _) (fun b hb o e6=>?_) ?_ (fun b hb=>?_)⟩
          ·cases len with
           | zero=>exact absurd rfl h0
           | succ len=>
            simp only[Nat.zero_mul] at*;simp[Builtin.clear_,run_underlying (zFk ht),zeroValue,typeInfo,hi,d3];rw[hbase] at Z;rw[Z,hbase];rfl
          ·obtain ⟨c0,b1,_⟩:=h.wd m _ b hr hb
           cases b1
          ·refine .mk _ (setsA A (g.base m) (Builtin.zeroCells z.cells len).toList) e' (setRow_heap w _ A _ e' _ hh) ho ?_ (fun i' j' x' a6=>?_)
           ·exact⟨f1,by rw[zGb];exact f2,by rw[List.length_replicate,←J];exact f3,k2⟩
           ·simp only[Root.get] at a6
            cases hg:(List.replicate len zt)[i']? with
            | none=>simp[hg] at a6
            | some r0=>
             simp only[hg,Option.map_eq_some_iff] at a6;obtain ⟨y,hy,rfl⟩:=a6;obtain ⟨v,F,b0⟩:=k3 i' r0 j' y hg hy;rw[←G] at F;have d2:i'* E+j'< (Builtin.zeroCells z.cells len).toList.length:=(by have:=(Array.getElem?_eq_some_iff.1 F).1;simpa using this);refine⟨v,?_,.t _ _ (b0.tr _ _ _)⟩;show (setsA A (g.base m) (Builtin.zeroCells z.cells len).toList)[g.base m+i'* E+j']?=some v;rw[Nat.add_assoc,zPt _ _ _ _ a7 d2];simpa using F
          ·obtain ⟨c0,b1,_⟩:=h.wd m _ b hr hb
           cases b1
      ·cases hd
     ·cases hd
    ·cases hd
   ·cases hd
  ·cases hd
 ·cases hd
end Go.SX
namespace Go.SX
open Go Go.RowKit
variable {en : En} {g : Gh} {S : Nat → Option D} {H : Nat → Option Root} {a : Act} {w : World} {P : Program}
def mapO {α β:Type}(f:α→Option β):List α→Option (List β)
 | []=>some []
 | x::xs=>match f x with
  | some y=>match mapO f xs with
   | some ys=>some (y::ys)
   | none=>none
  | none=>none
theorem zBs {α β:Type}{f:α→Option β}:∀{xs:List α} {ys:List β},mapO f xs=some ys→ys.length=xs.length
 | [],ys,h=>by simp only[mapO,yaC] at h;subst h;rfl
 | x::xs,ys,h=>by
  simp only[mapO] at h;split at h
  ·split at h
   ·rename_i F E;injection h with h;subst h;simp[zBs E]
   ·cases h
  ·cases h
theorem zCa {α β:Type}{f:α→Option β}:∀{xs:List α} {ys:List β},mapO f xs=some ys→∀(j:Nat) (y:β),ys[j]?=some y→∃x,xs[j]?=some x∧f x=some y
 | [],ys,h,j,y,hy=>by simp only[mapO,yaC] at h;subst h;simp at hy
 | x::xs,ys,h,j,y,hy=>by
  simp only[mapO] at h;split at h
  ·rename_i J G;split at h
   ·rename_i F E;injection h with h;subst h
    cases j with
    | zero=>simp at hy;subst hy;exact⟨x,rfl,G⟩
    | succ j=>simp at hy ⊢;exact zCa E j y hy
   ·cases h
  ·cases h
theorem zPa1 {α β γ:Type}{f:α→Option β}{k:γ→α}{k':γ→β}(h:∀x,f (k x)=some (k' x)):∀xs:List γ,mapO f (xs.map k)=some (xs.map k')
 | []=>rfl
 | x::xs=>by simp[mapO,h,zPa1 h xs]
theorem zEu1 {α β:Type}{f:α→Option β}{k:β→α}(h:∀x,f (k x)=some x)(xs:List β):mapO f (xs.map k)=some xs:=by
 have:=zPa1 (f:=f) (k:=k) (k':=id) h xs;simpa using this
def toI (ex:List Nat)(H:Nat→Option Root):Nat→T→Option I
 | 0,.im i=>some i
 | 0,_=>none
 | _+1,.im i=>some i
 | _+1,.nil=>some (.raw (.slice none 0 0))
 | _+1,.dead=>none
 | k+1,.own sz rows=>match mapO (mapO (toI ex H k)) rows with
  | some r=>some (.sl sz r)
  | none=>none
 | k+1,.lent n sz len=>if n∈ex then none else match H n with
  | some (.arr sz' rows)=>if sz'=sz∧len≤rows.length then match mapO (mapO (toI ex H k)) ((rows.drop 0).take len) with
   | some r=>some (.sl sz r)
   | none=>none
   else none
  | _=>none
theorem zEm2 (ex:List Nat)(H:Nat→Option Root)(k:Nat)(i:I):toI ex H k (.im i)=some i:=by cases k<;>rfl
theorem zZu1 (ex:List Nat)(H:Nat→Option Root)(k:Nat)(rows:List (List I)):mapO (mapO (toI ex H k)) (rows.map (fun r=>r.map T.im))=some rows:=
 zEu1 (fun r=>zEu1 (zEm2 ex H k) r) rows
structure Frz (br:Bool) (g:Gh) (w:World) (ex:List Nat) (fz:Nat→Nat→Option Value):Prop where
 old:∀b o v,g.fz b o=some v→fz b o=some v
 own:br=true→∀b n p o v,g.own b=some (n,p)→n ∉ ex→w.cell? ⟨b,o,none⟩=some v→fz b o=some v
theorem zEi2 {br:Bool} (hbrr:br=true) {fz:Nat→Nat→Option Value} {ex:List Nat} (hF:Frz br g w ex fz) {f:T→Option I} {m sz lo len:Nat} {rows:List (List T)} {r:List (List I)} {v:Value} (hm:m ∉ ex)
 (Z:CV g (.view m sz lo len) v) (hR:RootR w g m (.arr sz rows)) (hl:lo+len≤rows.length) (hr:mapO (mapO f) ((rows.drop lo).take len)=some r)
 (hf:∀(q:Pth) (t:T) (i:I) (u:Value),TR w g m q t u→f t=some i→IR fz i u):IR fz (.sl sz r) v:=by
 have F:r.length=len:=by rw[zBs hr];simp;omega
 have h0:∀A c,r.length=0→IR fz (.sl sz r) (.slice A 0 c):=fun A c h=>by
  have:r=[]:=List.eq_nil_of_length_eq_zero h;subst this;exact .sl0 _ _ _
 cases Z with
 | view0 _ _ _ A hu=>exact h0 A 0 F
 | view _ _ _ _ cap hu hb hc hcap=>
  cases hR with
  | arr0 _ hs hrc=>
   simp only[List.length_nil] at hl;have:len=0:=(by omega);subst this;exact h0 _ _ F
  | mk _ cs e hh ho hform hcell=>
   obtain ⟨b1,b5,b4,G⟩:=hform
   have a6:∀(i:Nat) (r':List I) (j:Nat) (x:I),r[i]?=some r'→r'[j]?=some x→∃v,fz (g.rb m) (lo*sz+i*sz+j)=some v∧IR fz x v:=by
    intro i r' j x hi hj;obtain ⟨row,E,U⟩:=zCa hr i r' hi;obtain ⟨t,ht,a8⟩:=zCa U j x hj
    have J:rows[lo+i]?=some row:=by
     rw[List.getElem?_take] at E;split at E
     ·rwa [List.getElem?_drop] at E
     ·cases E
    obtain ⟨v,Z,b0⟩:=hcell (lo+i) j (.t t) (by simp[Root.get,J,ht]);rw[b1,Nat.zero_add] at Z;simp only[Root.sz] at Z;have a7:TR w g m [(lo+i,j)] t v:=(by cases b0 with|t _ _ h=>exact h);refine⟨v,?_,hf _ t x v a7 a8⟩;refine hF.own hbrr (g.rb m) m [] _ v ho hm ?_;rw[cell_of_row w _ _ cs e _ hh,←Nat.add_mul];exact Z
   obtain ⟨vs,V⟩:=zHx a6
   have:=IR.sl (fz:=fz) sz r (g.rb m) (lo*sz) cap vs (by rw[F];exact hc) (fun i r' hi=>by
    obtain ⟨row,E,U⟩:=zCa hr i r' hi
    rw[zBs U]
    rw[List.getElem?_take] at E
    split at E
    ·rw[List.getElem?_drop] at E;exact G _ row E
    ·cases E) (fun i r' j x hi hj=>(V i r' j x hi hj).1) (fun i r' j x hi hj=>(V i r' j x hi hj).2)
   rw[F] at this;exact this
theorem zVf {br:Bool}(hbr:br=true){fz:Nat→Nat→Option Value}{ex:List Nat}(hF:Frz br g w ex fz)(hroots:∀n r,H n=some r→br=true∧g.used n∧RootR w g n r):
 ∀(k:Nat) (n:Nat) (q:Pth) (t:T) (i:I) (v:Value),n ∉ ex→TR w g n q t v→toI ex H k t=some i→IR fz i v
 | 0,n,q,t,i,v,hn,U,hi=>by
  cases t<;>simp only[toI,yaC] at hi<;>first
   | (cases hi;done)
   | (subst hi;cases U with|im _ _ _ h=>exact h.mono hF.old)
 | k+1,n,q,t,i,v,hn,U,hi=>by
  cases U with
  | im _ i0 _ h=>simp only[toI,yaC] at hi;subst hi;exact h.mono hF.old
  | nil=>simp only[toI,yaC] at hi;subst hi;exact .raw _ rfl
  | dead=>simp[toI] at hi
  | own0 _ sz A=>
   simp only[toI,mapO,yaC] at hi;subst hi;exact .sl0 _ _ _
  | own _ sz rows b cap cs e vs hh ho hl hc hz hx hr=>
   simp only[toI] at hi;split at hi
   ·rename_i r G;injection hi with hi;subst hi;have J:=zBs G
    have:=IR.sl (fz:=fz) sz r b 0 cap vs (by rw[J];exact hl) (fun i r' hi=>by
     obtain ⟨row,E,F⟩:=zCa G i r' hi
     rw[zBs F];exact hz i row E)
     (fun i r' j x hi hj=>by
      obtain ⟨row,E,F⟩:=zCa G i r' hi
      obtain ⟨t,U,_⟩:=zCa F j x hj
      refine hF.own hbr b n q _ _ ho hn ?_
      rw[cell_of_row w _ _ cs e _ hh,Nat.zero_add]
      exact hx i row j t E U)
     (fun i r' j x hi hj=>by
      obtain ⟨row,E,F⟩:=zCa G i r' hi
      obtain ⟨t,U,V⟩:=zCa F j x hj
      exact zVf hbr hF hroots k n _ t x _ hn (hr i row j t E U) V)
    rw[J] at this;exact this
   ·cases hi
  | lent _ m sz len _ hv=>
   simp only[toI] at hi;split at hi
   ·cases hi
   ·rename_i Z;split at hi
    ·rename_i a6 rows hH;split at hi
     ·rename_i hc;obtain ⟨rfl,hl⟩:=hc;split at hi
      ·rename_i r hr;injection hi with hi;subst hi;exact zEi2 hbr hF Z hv (hroots m _ hH).2.2 (by omega) hr (fun q t i u h1 h2=>zVf hbr hF hroots k m q t i u Z h1 h2)
      ·cases hi
     ·cases hi
    ·cases hi
def pos:List Nat→Nat→Option Nat
 | [],_=>none
 | x::xs,n=>if x=n then some 0 else (pos xs n).map (·+1)
theorem zEq1:∀{xs:List Nat} {n k:Nat},pos xs n=some k→xs[k]?=some n
 | [],n,k,h=>by cases h
 | x::xs,n,k,h=>by
  simp only[pos] at h;split at h
  ·rename_i e;injection h with h;subst h;simp[e]
  ·rw[Option.map_eq_some_iff] at h;obtain ⟨k',E,rfl⟩:=h;simpa using zEq1 E
theorem zNu:∀{xs:List Nat} {n:Nat},pos xs n=none↔n ∉ xs
 | [],n=>by simp[pos]
 | x::xs,n=>by
  simp only[pos];split
  ·rename_i e;simp[e]
  ·rename_i e;rw[Option.map_eq_none_iff,zNu];simp[Ne.symm e]
theorem zUz1:∀{xs:List Nat} {n k:Nat},xs.Nodup→xs[k]?=some n→pos xs n=some k
 | [],n,k,_,h=>by simp at h
 | x::xs,n,k,hn,h=>by
  cases k with
  | zero=>simp at h;simp[pos,h]
  | succ k=>
   simp only[List.getElem?_cons_succ] at h;have F:n∈xs:=List.mem_of_getElem? h;have E:x≠n:=fun e=>(List.nodup_cons.1 hn).1 (e▸F);simp[pos,E,zUz1 (List.nodup_cons.1 hn).2 h]
structure Plc where
 n:Nat
 sz:Nat
 i:Nat
 deriving Inhabited,DecidableEq
def exN (ex:List Plc):List Nat:=ex.map Plc.n
def loC (ex:List Plc)(H:Nat→Option Root):Nat→C→Option C
 | _,.im i=>some (.im i)
 | _,.nil=>some .nil
 | _,.iptr row off=>some (.iptr row off)
 | _,.view n sz lo len=>if n∈exN ex then none else match H n with
  | some (.arr sz' rows)=>if sz'=sz∧lo+len≤rows.length then match mapO (mapO (toI (exN ex) H 4)) ((rows.drop lo).take len) with
   | some r=>some (.im (.sl sz r))
   | none=>none
   else none
  | _=>none
 | _,.ptr n sz i off=>match pos (exN ex) n with
  | some k=>match ex[k]? with
   | some p=>if p.sz=sz∧p.i=i then some (.ptr k 0 0 off) else none
   | none=>none
  | none=>none
 | 0,.fn f caps=>match caps with
  | []=>some (.fn f [])
  | _=>none
 | k+1,.fn f caps=>match mapO (loC ex H k) caps with
  | some cs=>some (.fn f cs)
  | none=>none
theorem zJh1 {br:Bool} {g0:Gh} {ex:List Plc} (hF:Frz br g w (exN ex) g0.fz) (hroots:∀n r,H n=some r→br=true∧g.used n∧RootR w g n r)
 (hp:∀k p,ex[k]?=some p→g0.used k∧g0.rb k=g.rb p.n∧g0.base k=g.base p.n+p.i*p.sz):∀(k:Nat) (c E:C) (v:Value),CV g c v→loC ex H k c=some E→CV g0 E v:=by
 have base:∀(k:Nat) (c E:C) (v:Value),(∀f caps,c≠.fn f caps)→CV g c v→loC ex H k c=some E→CV g0 E v:=by
  intro k c E v V hc hl
  cases c with
  | im i=>simp only[loC,yaC] at hl;subst hl;cases hc with|im _ _ h=>exact .im _ _ (h.mono hF.old)
  | nil=>simp only[loC,yaC] at hl;subst hl;cases hc;exact .nil
  | iptr row off=>
   simp only[loC,yaC] at hl;subst hl
   cases hc with|iptr _ _ b o vs hx hr=>exact .iptr row off b o vs (fun j x hj=>hF.old _ _ _ (hx j x hj)) (fun j x hj=>(hr j x hj).mono hF.old)
  | view n sz lo len=>
   simp only[loC] at hl;split at hl
   ·cases hl
   ·rename_i hm;split at hl
    ·rename_i b0 rows hH;split at hl
     ·rename_i F;obtain ⟨rfl,Z⟩:=F;split at hl
      ·rename_i r hr;injection hl with hl;subst hl;have U:=(hroots n _ hH).1;exact .im _ _ (zEi2 U hF hm hc (hroots n _ hH).2.2 Z hr (fun q t i u h1 h2=>zVf U hF hroots 4 n q t i u hm h1 h2))
      ·cases hl
     ·cases hl
    ·cases hl
  | ptr n sz i off=>
   simp only[loC] at hl;split at hl
   ·rename_i k' hk;split at hl
    ·rename_i p G;split at hl
     ·rename_i F;obtain ⟨rfl,rfl⟩:=F;injection hl with hl;subst hl;obtain ⟨h1,h2,h3⟩:=hp k' p G
      have hn:p.n=n:=by
       have:=zEq1 hk;simp only[exN,List.getElem?_map,G,yak,yaC] at this;exact this
      subst hn
      cases hc with
      | ptr _ _ _ _ hu=>
       have:=CV.ptr (g:=g0) k' 0 0 off h1;rw[h2,h3] at this;simpa using this
     ·cases hl
    ·cases hl
   ·cases hl
  | fn f caps=>exact absurd rfl (V f caps)
 intro k
 induction k with
 | zero=>
  intro c E v hc hl
  cases hc with
  | fn f caps vs hs hr=>
   simp only[loC] at hl;split at hl
   ·injection hl with hl;subst hl;exact .fn f [] vs hs (fun j x v hj=>by simp at hj)
   ·cases hl
  | im i v h=>exact base 0 _ _ _ (by simp) (.im i v h) hl
  | nil=>exact base 0 _ _ _ (by simp) .nil hl
  | view0 n sz lo A h=>exact base 0 _ _ _ (by simp) (.view0 n sz lo A h) hl
  | view n sz lo len cap h hb hl' hc'=>exact base 0 _ _ _ (by simp) (.view n sz lo len cap h hb hl' hc') hl
  | ptr n sz i off h=>exact base 0 _ _ _ (by simp) (.ptr n sz i off h) hl
  | iptr row off b o vs hx hr=>exact base 0 _ _ _ (by simp) (.iptr row off b o vs hx hr) hl
 | succ k ih=>
  intro c E v hc hl
  cases hc with
  | fn f caps vs hs hr=>
   simp only[loC] at hl;split at hl
   ·rename_i cs J;injection hl with hl;subst hl;refine .fn f cs vs (by rw[hs,zBs J]) (fun j x u hj hu=>?_);obtain ⟨c0,h1,h2⟩:=zCa J j x hj;exact ih c0 x u (hr j c0 u h1 hu) h2
   ·cases hl
  | im i v h=>exact base _ _ _ _ (by simp) (.im i v h) hl
  | nil=>exact base _ _ _ _ (by simp) .nil hl
  | view0 n sz lo A h=>exact base _ _ _ _ (by simp) (.view0 n sz lo A h) hl
  | view n sz lo len cap h hb hl' hc'=>exact base _ _ _ _ (by simp) (.view n sz lo len cap h hb hl' hc') hl
  | ptr n sz i off h=>exact base _ _ _ _ (by simp) (.ptr n sz i off h) hl
  | iptr row off b o vs hx hr=>exact base _ _ _ _ (by simp) (.iptr row off b o vs hx hr) hl
def loD (ex:List Plc)(H:Nat→Option Root):D→Option D
 | .c x=>match loC ex H 2 x with
  | some y=>some (.c y)
  | none=>none
 | .agg xs=>match mapO (loC ex H 2) xs with
  | some ys=>some (.agg ys)
  | none=>none
 | .tup _=>none
theorem zWf1 {br:Bool} {g0:Gh} {ex:List Plc} (hF:Frz br g w (exN ex) g0.fz) (hroots:∀n r,H n=some r→br=true∧g.used n∧RootR w g n r)
 (hp:∀k p,ex[k]?=some p→g0.used k∧g0.rb k=g.rb p.n∧g0.base k=g.base p.n+p.i*p.sz) {d d':D} {v:Value} (hd:DV g d v) (hl:loD ex H d=some d'):DV g0 d' v:=by
 cases hd with
 | c x v h=>
  simp only[loD] at hl;split at hl
  ·rename_i y F;injection hl with hl;subst hl;exact .c _ _ (zJh1 hF hroots hp 2 x y v h F)
  ·cases hl
 | agg xs vs hs hr=>
  simp only[loD] at hl;split at hl
  ·rename_i ys E;injection hl with hl;subst hl;refine .agg _ _ (by rw[hs,zBs E]) (fun j x u hj G=>?_);obtain ⟨c0,h1,h2⟩:=zCa E j x hj;exact zJh1 hF hroots hp 2 c0 x u (hr j c0 u h1 G) h2
  ·cases hl
 | tup=>simp[loD] at hl
def scI:I→Bool
 | .sl _ rows=>rows.isEmpty
 | _=>true
inductive Mv (sc:Bool):T→Prop where
 | im (i:I) (h:sc=false∨scI i=true):Mv sc (.im i)
 | nil:Mv sc .nil
 | dead:Mv sc .dead
 | own (sz:Nat) (rows:List (List T)) (h:∀r∈rows,∀t∈r,Mv sc t):Mv sc (.own sz rows)
theorem IR.sc {fz fz':Nat→Nat→Option Value}{i:I}{v:Value}(h:IR fz i v)(hs:scI i=true):IR fz' i v:=by
 cases h with
 | bool b=>exact .bool b
 | int k n=>exact .int k n
 | flt k x y h=>exact .flt k x y h
 | cpx k x y x' y' h h'=>exact .cpx k x y x' y' h h'
 | str s=>exact .str s
 | raw v h=>exact .raw v h
 | sl0 sz a c=>exact .sl0 sz a c
 | sl sz rows b off c vs hc hl hx hr=>
  have:rows=[]:=by simpa[scI] using hs
  subst this;exact .sl0 sz _ c
theorem TR.mv {sc:Bool}{g':Gh}{n n':Nat}{t:T}(hm:Mv sc t)(hfz:sc=false→∀b o v,g.fz b o=some v→g'.fz b o=some v):
 ∀{q E:Pth} {v:Value},TR w g n q t v→(∀(b:Nat) (p:Pth),g.own b=some (n,q++p)→g'.own b=some (n',E++p))→TR w g' n' E t v:=by
 induction hm with
 | im i h=>
  intro q E v F _
  cases F with
  | im _ _ _ hi=>
   refine .im _ _ _ ?_;rcases h with h|h
   ·exact hi.mono (hfz h)
   ·exact hi.sc h
 | nil=>intro q E v F _;cases F;exact .nil _
 | dead=>intro q E v F _;exact .dead _ _
 | own sz rows h ih=>
  intro q E v F hb
  cases F with
  | own0 _ _ A=>exact .own0 _ _ _
  | own _ _ _ b cap cs e vs hh ho hl hc hz hx hr=>
   refine .own E sz rows b cap cs e vs hh (by simpa using hb b [] (by simpa using ho)) hl hc hz hx (fun i r j x h1 h2=>?_);refine ih r (List.mem_of_getElem? h1) x (List.mem_of_getElem? h2) (hr i r j x h1 h2) (fun J p G=>?_);have:=hb J ((i,j)::p) (by simpa using G);simpa using this
inductive MvB (sc:Bool):B→Prop where
 | t (x:T) (h:Mv sc x):MvB sc (.t x)
 | nilfn (f:Fn):MvB sc (.v (.fn f []))
def MvR (sc:Bool):Root→Prop
 | .box cells=>∀x∈cells,MvB sc x
 | .arr _ rows=>∀r∈rows,∀t∈r,Mv sc t
theorem MvR.get {sc:Bool}{r:Root}(h:MvR sc r){i j:Nat}{x:B}(hx:r.get i j=some x):MvB sc x:=by
 cases r with
 | box cells=>
  cases i with
  | zero=>exact h x (List.mem_of_getElem? (by simpa[Root.get] using hx))
  | succ i=>simp[Root.get] at hx
 | arr sz rows=>
  simp only[Root.get] at hx
  cases hr:rows[i]? with
  | none=>simp[hr] at hx
  | some row=>
   simp only[hr,Option.map_eq_some_iff] at hx;obtain ⟨y,E,rfl⟩:=hx;exact .t _ (h row (List.mem_of_getElem? hr) y (List.mem_of_getElem? E))
theorem RootR.mv {sc:Bool} {g':Gh} {n n':Nat} {r:Root} (hm:MvR sc r) (hfz:sc=false→∀b o v,g.fz b o=some v→g'.fz b o=some v)
 (hrb:g'.rb n'=g.rb n) (hbase:g'.base n'=g.base n) (hrc:g'.rc n'=g.rc n) (h:RootR w g n r) (hb0:g.own (g.rb n)=some (n,[])→g'.own (g.rb n)=some (n',[]))
 (hb:∀(b:Nat) (x:Nat×Nat) (p:Pth),g.own b=some (n,x::p)→g'.own b=some (n',x::p)):RootR w g' n' r:=by
 cases h with
 | mk r cs e hh ho hf hr=>
  refine .mk r cs e (by rw[hrb];exact hh) (by rw[hrb];exact hb0 ho) (by rw[hbase,hrc];exact hf) (fun i j x hx=>?_);obtain ⟨v,F,E⟩:=hr i j x hx;refine⟨v,by rw[hbase];exact F,?_⟩
  cases hm.get hx with
  | t x hmx=>
   cases E with
   | t _ _ ht=>exact .t _ _ (ht.mv hmx hfz (fun b p G=>by simpa using hb b (i,j) p (by simpa using G)))
  | nilfn f=>
   cases E with
   | v _ _ hc=>
    cases hc with
    | fn _ _ vs hs _=>exact .v _ _ (.fn f [] vs hs (fun j x v hj=>by simp at hj))
 | arr0 sz hs hc=>exact .arr0 sz hs (by rw[hrc];exact hc)
end Go.SX
namespace Go.SX
open Go Go.RowKit
variable {en : En} {g : Gh} {S : Nat → Option D} {H : Nat → Option Root} {a : Act} {w : World} {P : Program}
structure Res where
 val:D
 roots:List Root:=[]
 places:List (List B):=[]
 deriving Inhabited
def reC (f:Nat→Nat):C→Option C
 | .im i=>some (.im i)
 | .nil=>some .nil
 | .view n sz lo len=>some (.view (f n) sz lo len)
 | .ptr n sz i off=>some (.ptr (f n) sz i off)
 | _=>none
def reD (f:Nat→Nat):D→Option D
 | .c x=>match reC f x with
   | some y=>some (.c y)
   | none=>none
 | .agg xs=>match mapO (reC f) xs with
   | some ys=>some (.agg ys)
   | none=>none
 | .tup ds=>match mapO (fun d=>match d with
     | .c x=>match reC f x with
       | some y=>some (D.c y)
       | none=>none
     | .agg xs=>match mapO (reC f) xs with
       | some ys=>some (.agg ys)
       | none=>none
     | .tup _=>none) ds with
   | some ys=>some (.tup ys)
   | none=>none
inductive OkC (sc:Bool) (k:Nat):C→Prop where
 | im (i:I) (h:sc=false∨scI i=true):OkC sc k (.im i)
 | nil:OkC sc k .nil
 | view (n sz lo len:Nat) (h:n<k):OkC sc k (.view n sz lo len)
 | ptr (n sz i off:Nat) (h:n<k):OkC sc k (.ptr n sz i off)
inductive OkD (sc:Bool) (k:Nat):D→Prop where
 | c (x:C) (h:OkC sc k x):OkD sc k (.c x)
 | agg (xs:List C) (h:∀x∈xs,OkC sc k x):OkD sc k (.agg xs)
 | tup (ds:List D) (h:∀d∈ds,(∃x,d=.c x∧OkC sc k x)∨(∃xs,d=.agg xs∧∀x∈xs,OkC sc k x)):OkD sc k (.tup ds)
structure OkR (sc:Bool) (res:Res):Prop where
 val:OkD sc res.roots.length res.val
 roots:∀r∈res.roots,MvR sc r
 places:∀c∈res.places,∀x∈c,MvB sc x
def Done (en:En)(res:Res)(v:Value)(w':World):Prop:=
 ∃(g:Gh) (ns:List Nat) (S:Nat→Option D) (H:Nat→Option Root) (a:Act) (d:D),Rel en g S H a w'∧ns.Nodup∧ns.length=res.roots.length∧(∀m∈ns,¬en.g0.used m)∧
  (∀(k:Nat) (r:Root) (m:Nat),res.roots[k]?=some r→ns[k]?=some m→H m=some r)∧(∀(k:Nat) (c:List B),res.places[k]?=some c→H k=some (.box c))∧
  reD (fun n=>ns.getD n 0) res.val=some d∧DV g d v
inductive Outs where
 | one (r:Res)
 | any (ι:Type) (f:ι→Res)
def Outs.mem (o:Outs)(r:Res):Prop:=match o with
 | .one r'=>r=r'
 | .any _ f=>∃i,r=f i
def GoodAt (P:Program)(f:FuncId)(ds:List D)(hs:List (List B))(o:Outs):Prop:=
 ∀(en:En) (args:List Value),args.length=ds.length→(∀n,en.g0.used n→n<hs.length)→
  Rel en en.g0 (fun t=>ds[t]?) (fun n=>(hs[n]?).map Root.box) ⟨args.toArray,[]⟩ en.w0→
  Calls P f args.toArray en.w0 (fun e w'=>∃v,e=.returned v∧∃res,o.mem res∧Done en res v w')
structure Ct where
 sc:Bool
 run:List D→List (List B)→Option Outs
structure Good (P:Program) (f:FuncId) (ct:Ct):Prop where
 ok:∀ds hs o,ct.run ds hs=some o→∀res,o.mem res→OkR ct.sc res
 at_:∀ds hs o,ct.run ds hs=some o→GoodAt P f ds hs o
def Gh.sub (g:Gh)(w:World)(ex:List Plc)(borrow:Bool):Gh:=
 {used:=fun k=>k<ex.length,rb:=fun k=>g.rb (ex.getD k default).n,base:=fun k=>g.base (ex.getD k default).n+(ex.getD k default).i*(ex.getD k default).sz,rc:=fun k=>g.rc (ex.getD k default).n,
  own:=fun b=>match g.own b with
   | some (n,p)=>match pos (exN ex) n with
    | some k=>match p with
     | []=>if b=g.rb n then some (k,[]) else none
     | (i,j)::p=>if i=(ex.getD k default).i then some (k,(0,j)::p) else none
    | none=>none
   | none=>none
  fz:=fun b o=>match g.fz b o with
   | some v=>some v
   | none=>if borrow=true then match g.own b with
    | some (n,_)=>if n∈exN ex then none else w.cell? ⟨b,o,none⟩
    | none=>none
    else none}
theorem Gh.sub_own_none {ex:List Plc}{br:Bool}{b:Nat}(h:g.own b=none):(g.sub w ex br).own b=none:=by simp[Gh.sub,h]
theorem Gh.sub_own_out {ex:List Plc}{br:Bool}{b n:Nat}{p:Pth}(h:g.own b=some (n,p))(hn:n ∉ exN ex):(g.sub w ex br).own b=none:=by simp[Gh.sub,h,zNu.2 hn]
theorem Gh.sub_own_top {ex:List Plc}{br:Bool}{n k:Nat}(h:g.own (g.rb n)=some (n,[]))(hk:pos (exN ex) n=some k):(g.sub w ex br).own (g.rb n)=some (k,[]):=by simp[Gh.sub,h,hk]
theorem Gh.sub_own_in {ex:List Plc}{br:Bool}{b n k j:Nat}{pl:Plc}{p:Pth}(hk:pos (exN ex) n=some k)(hpl:ex[k]?=some pl)(h:g.own b=some (n,(pl.i,j)::p)):(g.sub w ex br).own b=some (k,(0,j)::p):=by simp[Gh.sub,h,hk,hpl]
theorem Gh.sub_own_inv {ex:List Plc}{br:Bool}{b k:Nat}{p:Pth}(h:(g.sub w ex br).own b=some (k,p)):∃n q,g.own b=some (n,q)∧pos (exN ex) n=some k∧(p=[]→b=g.rb n∧q=[]):=by
 simp only[Gh.sub] at h;split at h
 ·rename_i n q ho;split at h
  ·rename_i k' E;split at h
   ·split at h
    ·rename_i hb;injection h with h;injection h with h1 h2;subst h1;subst h2;exact⟨n,[],ho,E,fun _=>⟨hb,rfl⟩⟩
    ·cases h
   ·rename_i i j G;split at h
    ·injection h with h;injection h with h1 h2;subst h1;exact⟨n,_,ho,E,fun F=>by rw[F] at h2;cases h2⟩
    ·cases h
  ·cases h
 ·cases h
theorem Gh.sub_frz (h:Rel en g S H a w){ex:List Plc}{br:Bool}:Frz br g w (exN ex) (g.sub w ex br).fz:=by
 refine⟨fun b o v F=>by simp[Gh.sub,F],fun E b n p o v ho G hc=>?_⟩;subst E;simp only[Gh.sub]
 cases hf:g.fz b o with
 | some v'=>have:=(h.fz b o v' hf).2;rw[ho] at this;cases this
 | none=>simp[ho,G,hc]
def Gh.back (g:Gh)(w:World)(g0 gc:Gh)(ex:List Plc)(ns:List Nat)(nm:Nat):Gh:=
 {used:=fun m=>g.used m∨(nm≤m∧m<nm+ns.length)
  rb:=fun m=>if nm≤m∧m<nm+ns.length then gc.rb (ns.getD (m-nm) 0) else g.rb m
  base:=fun m=>if nm≤m∧m<nm+ns.length then gc.base (ns.getD (m-nm) 0) else g.base m
  rc:=fun m=>if nm≤m∧m<nm+ns.length then gc.rc (ns.getD (m-nm) 0) else g.rc m
  own:=fun b=>match gc.own b with
   | some (m,p)=>match pos ns m with
    | some k=>some (nm+k,p)
    | none=>match ex[m]? with
     | some pl=>match p with
      | []=>some (pl.n,[])
      | (_,j)::p=>some (pl.n,(pl.i,j)::p)
     | none=>none
   | none=>match g0.own b with
    | none=>g.own b
    | some _=>none
  fz:=fun b o=>match g.fz b o with
   | some v=>some v
   | none=>if b<w.heap.size∧g0.own b=none then none else gc.fz b o}
def unB:B→Option T
 | .t x=>some x
 | .v _=>none
def plBack (r:Option Root)(p:Plc)(c:Option (List B)):Option Root:=match r,c with
 | some (.box _),some c=>some (.box c)
 | some (.arr sz rows),some c=>match mapO unB c with
  | some ts=>if ts.length=sz then some (.arr sz (rows.set p.i ts)) else none
  | none=>none
 | _,_=>none
def backH (H:Nat→Option Root)(ex:List Plc)(nm:Nat)(res:Res):Nat→Option Root:=fun n=>
 if nm≤n∧n<nm+res.roots.length then res.roots[n-nm]? else match pos (exN ex) n with
  | some k=>plBack (H n) (ex.getD k default) res.places[k]?
  | none=>H n
def plCells (H:Nat→Option Root)(p:Plc):Option (List B):=match H p.n with
 | some (.box c)=>if p.sz=0∧p.i=0 then some c else none
 | some (.arr sz rows)=>if sz=p.sz then match rows[p.i]? with
  | some r=>some (r.map B.t)
  | none=>none
  else none
 | none=>none
def PlOk (H:Nat→Option Root)(ex:List Plc)(hs:List (List B)):Prop:=
 (exN ex).Nodup∧hs.length=ex.length∧∀(k:Nat) (p:Plc) (c:List B),ex[k]?=some p→hs[k]?=some c→plCells H p=some c∧∀x∈c,MvB false x
theorem zFa {p:Plc}{c:List B}(h:plCells H p=some c):∃r,H p.n=some r∧(r.sz=p.sz)∧(∀j x,c[j]?=some x→r.get p.i j=some x)∧((∃c',r=.box c'∧c'=c∧p.i=0)∨(∃rows row,r=.arr p.sz rows∧rows[p.i]?=some row∧c=row.map B.t)):=by
 unfold plCells at h;split at h
 ·rename_i c0 hr;split at h
  ·rename_i hc;injection h with h;subst h;exact⟨_,hr,by simp[Root.sz,hc.1],fun j x hx=>by rw[hc.2];exact hx,.inl ⟨_,rfl,rfl,hc.2⟩⟩
  ·cases h
 ·rename_i sz rows hr;split at h
  ·rename_i hc;subst hc;split at h
   ·rename_i row E;injection h with h;subst h;refine⟨_,hr,rfl,fun j x hx=>?_,.inr ⟨rows,row,rfl,E,rfl⟩⟩;simp only[Root.get,E];simpa using hx
   ·cases h
  ·cases h
 ·cases h
theorem zMc2 {ex:List Plc}{k:Nat}{p:Plc}(h:ex[k]?=some p):(exN ex)[k]?=some p.n:=by simp[exN,h]
theorem zGg1 {ex:List Plc}{n k:Nat}(h:pos (exN ex) n=some k):∃p,ex[k]?=some p∧p.n=n:=by
 have:=zEq1 h;simp only[exN,List.getElem?_map,Option.map_eq_some_iff] at this;exact this
theorem plGetD {ex:List Plc}{k:Nat}{p:Plc}(h:ex[k]?=some p):ex.getD k default=p:=by simp[List.getD,h]
theorem zHd2 (h:Rel en g S H a w) {ex:List Plc} {hs:List (List B)} (Z:PlOk H ex hs) (br:Bool) {H0:Nat→Option Root} (hH0:∀n r,H0 n=some r→br=true∧H n=some r)
 {ds ds':List D} {args:List Value} (hal:args.length=ds.length) (hdv:∀(t:Nat) (d:D) (v:Value),ds[t]?=some d→args[t]?=some v→DV g d v) (hlo:mapO (loD ex H0) ds=some ds'):
 Rel ⟨g.sub w ex br,w,fun k=>(hs.getD k []).length⟩ (g.sub w ex br) (fun t=>ds'[t]?) (fun n=>(hs[n]?).map Root.box) ⟨args.toArray,[]⟩ w:=by
 obtain ⟨b4,hl,Z⟩:=Z;have hF:=Gh.sub_frz h (ex:=ex) (br:=br)
 have b2:∀(k:Nat) (p:Plc),ex[k]?=some p→∃c,hs[k]?=some c∧plCells H p=some c∧∀x∈c,MvB false x:=fun k p G=>by
  have F:k<hs.length:=by rw[hl];exact (List.getElem?_eq_some_iff.1 G).1
  exact⟨hs[k],List.getElem?_eq_getElem F,Z k p _ G (List.getElem?_eq_getElem F)⟩
 refine⟨⟨h.fr.laid.move (fun b hb ho=>⟨Gh.sub_own_none (h.fr.old b hb ho).1,(h.fr.old b hb ho).2⟩),rfl,rfl,rfl,Nat.le_refl _,Gh.le.refl _,fun b _ ho=>⟨ho,rfl⟩,fun b k hb=>?_,fun b o v _ E=>.inl E⟩,rfl,fun b x hx=>?_,fun b o v E=>?_,fun t d ht=>?_,fun n r hn=>?_,fun n r b hn hb=>?_⟩
 ·obtain ⟨n,q,ho,G,hc⟩:=Gh.sub_own_inv hb;obtain ⟨p,a8,rfl⟩:=zGg1 G;obtain ⟨c,_,hH,_⟩:=b2 k p a8;obtain ⟨rfl,rfl⟩:=hc rfl;obtain ⟨r,hr,_,_,V⟩:=zFa hH
  cases (h.roots _ _ hr).2 with
  | mk _ cs e hh _ _ _=>exact⟨(List.getElem?_eq_some_iff.1 a8).1,hb,cs,cs,e,hh,hh,rfl,fun _ _=>rfl⟩
  | arr0 sz _ _=>rcases V with ⟨_,h1,_⟩|⟨rows,row,h1,h2,_⟩<;>cases h1;simp at h2
 ·obtain ⟨n,q,ho,_,_⟩:=Gh.sub_own_inv (k:=x.1) (p:=x.2) hx;exact h.lt b _ ho
 ·simp only[Gh.sub] at E;split at E
  ·rename_i v' hf;injection E with E;subst E;obtain ⟨h1,h2⟩:=h.fz b o _ hf;exact⟨h1,Gh.sub_own_none h2⟩
  ·split at E
   ·split at E
    ·rename_i n p ho;split at E
     ·cases E
     ·rename_i hn;exact⟨E,Gh.sub_own_out ho hn⟩
    ·cases E
   ·cases E
 ·obtain ⟨d0,h1,h2⟩:=zCa hlo t d ht;have F:t<args.length:=by rw[hal];exact (List.getElem?_eq_some_iff.1 h1).1
  refine⟨args[t],by simp[F],zWf1 hF (fun n r hr=>?_) (fun k p G=>?_) (hdv t d0 _ h1 (List.getElem?_eq_getElem F)) h2⟩
  ·obtain ⟨k1,k2⟩:=hH0 n r hr;exact⟨k1,h.roots n r k2⟩
  ·refine⟨(List.getElem?_eq_some_iff.1 G).1,?_,?_⟩<;>simp only[Gh.sub,plGetD G]
 ·rw[Option.map_eq_some_iff] at hn;obtain ⟨c,hc,rfl⟩:=hn;have F:n<ex.length:=by rw[←hl];exact (List.getElem?_eq_some_iff.1 hc).1
  have G:ex[n]?=some ex[n]:=List.getElem?_eq_getElem F;obtain ⟨c',J,hH,b5⟩:=b2 n _ G;rw[hc] at J;injection J with J;subst J;have U:=zUz1 b4 (zMc2 G);obtain ⟨r,hr,a7,b0,V⟩:=zFa hH;refine⟨F,?_⟩
  cases (h.roots _ _ hr).2 with
  | mk _ cs e hh ho hf hcell=>
   refine .mk (.box c) cs e (by simp only[Gh.sub,plGetD G];exact hh) (by simp only[Gh.sub,plGetD G];exact Gh.sub_own_top (w:=w) (br:=br) ho U) trivial (fun i j x hx=>?_)
   cases i with
   | succ i=>simp[Root.get] at hx
   | zero=>
    simp only[Root.get] at hx;obtain ⟨v,E,b1⟩:=hcell _ j x (b0 j x hx);refine⟨v,by simp only[Gh.sub,plGetD G,Root.sz,Nat.zero_mul,yal];rw[a7] at E;exact E,?_⟩;have hm:=b5 x (List.mem_of_getElem? hx)
    cases hm with
    | t x hmx=>
     cases b1 with
     | t _ _ ht=>exact .t _ _ (TR.mv hmx (fun _=>hF.old) ht (fun b p hp=>Gh.sub_own_in U G hp))
    | nilfn f=>
     cases b1 with
     | v _ _ hcv=>cases hcv with|fn _ _ vs hs' _=>exact .v _ _ (.fn f [] vs hs' (fun j x v hj=>by simp at hj))
  | arr0 sz _ _=>rcases V with ⟨_,h1,_⟩|⟨rows,row,h1,h2,_⟩<;>cases h1;simp at h2
 ·rw[Option.map_eq_some_iff] at hn;obtain ⟨c,hc,rfl⟩:=hn;exact⟨c,rfl,by simp[List.getD,hc]⟩
theorem zIv2 {ns:List Nat}{k m:Nat}(h:ns[k]?=some m):ns.getD k 0=m:=by simp[List.getD,h]
theorem zDz2 (h:Rel en g S H a w) {nm:Nat} {res:Res} (hnm:∀m,g.used m→¬(nm≤m∧m<nm+res.roots.length)) {ex:List Plc} {hs:List (List B)} (j0:PlOk H ex hs) {br sc:Bool} (b6:br=true→sc=true)
 (hok:OkR sc res) {v:Value} {w':World} (hd:Done ⟨g.sub w ex br,w,fun k=>(hs.getD k []).length⟩ res v w') {d:D} (U:reD (fun n=>nm+n) res.val=some d):
 ∃g',g.le g'∧(∀m,g'.used m→g.used m∨(nm≤m∧m<nm+res.roots.length))∧Rel en g' S (backH H ex nm res) a w'∧DV g' d v:=by
 obtain ⟨gc,Z,Sc,Hc,ac,d0,hR,o7,o6,l5,o4,h9,E,j6⟩:=hd;obtain ⟨p3,hl,j0⟩:=j0;have b2:=hR.fr
 have g9:∀(k:Nat) (p:Plc),ex[k]?=some p→∃c,hs[k]?=some c∧plCells H p=some c:=fun k p V=>by
  have g6:k<hs.length:=by rw[hl];exact (List.getElem?_eq_some_iff.1 V).1
  exact⟨hs[k],List.getElem?_eq_getElem g6,(j0 k p _ V (List.getElem?_eq_getElem g6)).1⟩
 have l1:∀(k:Nat) (p:Plc),ex[k]?=some p→g.used p.n:=fun k p V=>by
  obtain ⟨c,_,hH⟩:=g9 k p V;obtain ⟨r,hr,_⟩:=zFa hH;exact (h.roots _ _ hr).1
 have O1:∀b,b<w.heap.size→(g.sub w ex br).own b=none→gc.own b=none∧w'.heap[b]?=w.heap[b]?∧(g.back w (g.sub w ex br) gc ex Z nm).own b=g.own b:=fun b hb ho=>by
  obtain ⟨h1,h2⟩:=b2.old b hb ho;exact⟨h1,h2,by simp only[Gh.back,h1,ho]⟩
 have O2:∀(b k m:Nat) (p:Pth),Z[k]?=some m→gc.own b=some (m,p)→(g.back w (g.sub w ex br) gc ex Z nm).own b=some (nm+k,p):=fun b k m p V ho=>by simp only[Gh.back,ho,zUz1 o7 V]
 have O3:∀(b k:Nat) (F:Plc),ex[k]?=some F→gc.own b=some (k,[])→(g.back w (g.sub w ex br) gc ex Z nm).own b=some (F.n,[]):=fun b k F V ho=>by
  have:pos Z k=none:=zNu.2 (fun hm=>l5 k hm (List.getElem?_eq_some_iff.1 V).1);simp only[Gh.back,ho,this,V]
 have O4:∀(b k i j:Nat) (F:Plc) (p:Pth),ex[k]?=some F→gc.own b=some (k,(i,j)::p)→(g.back w (g.sub w ex br) gc ex Z nm).own b=some (F.n,(F.i,j)::p):=fun b k i j F p V ho=>by
  have:pos Z k=none:=zNu.2 (fun hm=>l5 k hm (List.getElem?_eq_some_iff.1 V).1);simp only[Gh.back,ho,this,V]
 have l2:w.heap.size≤w'.heap.size:=b2.size
 have j2:∀b,¬b<w.heap.size→g.own b=none:=fun b hb=>by
  cases ho:g.own b with
  | none=>rfl
  | some x=>exact absurd (h.lt b x ho) hb
 have j5:∀b o v,g.fz b o=some v→(g.back w (g.sub w ex br) gc ex Z nm).fz b o=some v:=fun b o v J=>by simp only[Gh.back,J]
 have b4:g.le (g.back w (g.sub w ex br) gc ex Z nm):=by
  refine⟨fun n G=>.inl G,fun n G=>?_,fun n G=>?_,fun n G=>?_,j5⟩<;>
  ·have:=hnm n G;simp only[Gh.back];rw[if_neg (by omega)]
 have c7:sc=false→∀b o v,gc.fz b o=some v→(g.back w (g.sub w ex br) gc ex Z nm).fz b o=some v:=fun f8 b o v J=>by
  have hb:br=false:=by cases br with
   | false=>rfl
   | true=>rw[b6 rfl] at f8;cases f8
  subst hb
  have l3:∀b o v,(g.sub w ex false).fz b o=some v→g.fz b o=some v:=fun b o v h1=>by
   simp only[Gh.sub] at h1;split at h1
   ·rename_i hf;rw[hf];exact h1
   ·simp at h1
  cases hf:g.fz b o with
  | some v'=>
   have h1:=b2.gle.fz b o v' (by simp[Gh.sub,hf]);rw[J] at h1;injection h1 with h1;subst h1;exact j5 b o _ hf
  | none=>
   simp only[Gh.back,hf];rw[if_neg]
   ·exact J
   ·rintro ⟨hb,ho⟩;rcases b2.fzn b o v hb J with h1|h1
    ·rw[l3 b o v h1] at hf;cases hf
    ·exact h1 ho
 refine⟨_,b4,fun m hm=>?_,⟨⟨h.fr.laid,b2.os.trans h.fr.os,b2.tape.trans h.fr.tape,b2.output.trans h.fr.output,Nat.le_trans h.fr.size l2,h.fr.gle.trans b4,fun b hb ho=>?_,fun b n hb=>?_,fun b o v hb J=>?_⟩,
  h.df,fun b x hx=>?_,fun b o v J=>?_,fun t d ht=>?_,fun n r G=>?_,fun n r b G hb=>?_⟩,?_⟩
 ·rw[←o6];exact hm
 ·obtain ⟨h1,h2⟩:=h.fr.old b hb ho;obtain ⟨_,h4,h5⟩:=O1 b (Nat.lt_of_lt_of_le hb h.fr.size) (Gh.sub_own_none h1);exact⟨h5.trans h1,h4.trans h2⟩
 ·obtain ⟨h0,h1,c1,c2,e1,h2,h3,h4,h5⟩:=h.fr.place b n hb;have p5:=h.lt b _ h1;by_cases hx:n∈exN ex∧b=g.rb n
  ·obtain ⟨G,rfl⟩:=hx
   cases hp:pos (exN ex) n with
   | none=>exact absurd G (zNu.1 hp)
   | some k=>
    obtain ⟨F,V,rfl⟩:=zGg1 hp;obtain ⟨c,hc,hH⟩:=g9 k F V;obtain ⟨r,hr,h7,_,e6⟩:=zFa hH;have c8:(g.sub w ex br).own (g.rb F.n)=some (k,[]):=Gh.sub_own_top h1 hp;obtain ⟨_,k1,d1,d2,e2,k2,k3,k4,k5⟩:=b2.place _ k c8;simp only[] at k2;rw[h3] at k2;injection k2 with k2;injection k2 with k2 i1;subst k2;subst i1;obtain ⟨c0,b5,r9⟩:=h.wd _ _ _ hr hb;subst b5;rcases e6 with ⟨c',d3,rfl,g7⟩|⟨rows,row,i8,_⟩
    ·injection d3 with d3;subst d3;refine⟨h0,O3 _ k F V k1,c1,d2,e1,h2,k3,k4.trans h4,fun o ho=>(k5 o ?_).trans (h5 o ho)⟩;have p7:=h.fr.gle.base F.n h0;have j8:(g.sub w ex br).base k=en.g0.base F.n:=(by simp only[Gh.sub,plGetD V,g7,Nat.zero_mul,yal];exact p7);simp only[j8,List.getD,hc,yaU];omega
    ·cases i8
  ·have c8:(g.sub w ex br).own b=none:=by
    by_cases G:n∈exN ex
    ·have p6:b≠g.rb n:=fun e=>hx ⟨G,e⟩;simp only[Gh.sub,h1];split
     ·rw[if_neg p6]
     ·rfl
    ·exact Gh.sub_own_out h1 G
   obtain ⟨_,k2,k3⟩:=O1 b p5 c8;exact⟨h0,k3.trans h1,c1,c2,e1,h2,k2.trans h3,h4,h5⟩
 ·simp only[Gh.back] at J;split at J
  ·rename_i v' hf;injection J with J;subst J;exact h.fr.fzn b o _ hb hf
  ·split at J
   ·cases J
   ·rename_i hc;refine .inr (fun ho=>?_);obtain ⟨h1,_⟩:=h.fr.old b hb ho;exact hc ⟨Nat.lt_of_lt_of_le hb h.fr.size,Gh.sub_own_none h1⟩
 ·simp only[Gh.back] at hx;split at hx
  ·rename_i m p ho;exact hR.lt b _ ho
  ·split at hx
   ·exact Nat.lt_of_lt_of_le (h.lt b _ hx) l2
   ·cases hx
 ·cases hf:g.fz b o with
  | some v'=>
   rw[j5 b o v' hf] at J;injection J with J;subst J;obtain ⟨h1,h2⟩:=h.fz b o _ hf;have hb:b<w.heap.size:=World.block_lt_of_cell? w _ h1;obtain ⟨_,k2,k3⟩:=O1 b hb (Gh.sub_own_none h2);exact⟨(World.cell?_of_block (w:=w) (a:=⟨b,o,none⟩) k2).trans h1,k3.trans h2⟩
  | none=>
   simp only[Gh.back,hf] at J;split at J
   ·cases J
   ·rename_i hc;obtain ⟨h1,h2⟩:=hR.fz b o v J;refine⟨h1,?_⟩;simp only[Gh.back,h2];split
    ·rename_i h0;exact j2 b (fun hb=>hc ⟨hb,h0⟩)
    ·rfl
 ·obtain ⟨v,J,hd⟩:=h.slots t d ht;exact⟨v,J,hd.mono b4⟩
 ·unfold backH at G;split at G
  ·rename_i hr;have V:n-nm<Z.length:=(by omega);have g5:Z[n-nm]?=some Z[n-nm]:=List.getElem?_eq_getElem V;have hH:=o4 _ r _ G g5;obtain ⟨hu,j9⟩:=hR.roots _ r hH;have j4:=zIv2 g5;have l6:nm+(n-nm)=n:=(by omega);refine⟨.inr (by omega),RootR.mv (n:=Z[n-nm]) (hok.roots r (List.mem_of_getElem? G)) c7 ?_ ?_ ?_ j9 (fun ho=>?_) (fun b x p ho=>?_)⟩
   ·simp only[Gh.back];rw[if_pos (by omega),j4]
   ·simp only[Gh.back];rw[if_pos (by omega),j4]
   ·simp only[Gh.back];rw[if_pos (by omega),j4]
   ·have:=O2 _ _ _ _ g5 ho;rw[l6] at this;exact this
   ·have:=O2 _ _ _ _ g5 ho;rw[l6] at this;exact this
  ·split at G
   ·rename_i k hp;obtain ⟨F,V,rfl⟩:=zGg1 hp;rw[plGetD V] at G;obtain ⟨c0,b5,k6⟩:=g9 k F V;obtain ⟨r0,d8,h7,m1,e6⟩:=zFa k6;have e5:=l1 k F V;have g6:=hnm F.n e5;have m0:k<ex.length:=(List.getElem?_eq_some_iff.1 V).1;rw[d8] at G;refine⟨.inl e5,?_⟩
    cases b8:res.places[k]? with
    | none=>rw[b8] at G;cases r0<;>simp[plBack] at G
    | some c=>
     rw[b8] at G;have k0:=h9 k c b8;have o8:=hok.places c (List.mem_of_getElem? b8);obtain ⟨_,p8⟩:=hR.roots k _ k0
     cases p8 with
     | mk _ cs e hh ho hf hcell=>
      have l4:gc.rb k=g.rb F.n:=(by have:=b2.gle.rb k m0;rw[this];simp only[Gh.sub,plGetD V]);have m2:gc.base k=g.base F.n+F.i*F.sz:=(by have:=b2.gle.base k m0;rw[this];simp only[Gh.sub,plGetD V]);have d5:(g.back w (g.sub w ex br) gc ex Z nm).rb F.n=g.rb F.n:=b4.rb _ e5;have f5:(g.back w (g.sub w ex br) gc ex Z nm).base F.n=g.base F.n:=b4.base _ e5;have h8:(g.back w (g.sub w ex br) gc ex Z nm).rc F.n=g.rc F.n:=b4.rc _ e5;have e8:=O3 _ k F V ho;rw[l4] at hh e8
      have d7:∀j x,c[j]?=some x→∃v,cs[g.base F.n+F.i*F.sz+j]?=some v∧BR w' (g.back w (g.sub w ex br) gc ex Z nm) F.n [(F.i,j)] x v:=fun j x hx=>by
       obtain ⟨v,J,b6⟩:=hcell 0 j x (by simpa[Root.get] using hx);refine⟨v,by rw[m2] at J;simpa[Root.sz] using J,?_⟩
       cases o8 x (List.mem_of_getElem? hx) with
       | t x hmx=>cases b6 with|t _ _ ht=>exact .t _ _ (TR.mv hmx c7 ht (fun b p o5=>O4 b k 0 j F p V (by simpa using o5)))
       | nilfn f=>cases b6 with|v _ _ hcv=>cases hcv with|fn _ _ vs f8 _=>exact .v _ _ (.fn f [] vs f8 (fun j x v hj=>by simp at hj))
      rcases e6 with ⟨c',rfl,_,g7⟩|⟨rows,row,rfl,e7,p4⟩
      ·simp only[plBack,yaC] at G;subst G;refine .mk (.box c) cs e (by rw[d5];exact hh) (by rw[d5];exact e8) trivial (fun i j x hx=>?_)
       cases i with
       | succ i=>simp[Root.get] at hx
       | zero=>
        obtain ⟨v,J,b6⟩:=d7 j x (by simpa[Root.get] using hx);rw[g7] at J b6;exact⟨v,by rw[f5];simpa[Root.sz] using J,b6⟩
      ·simp only[plBack] at G;split at G
       ·rename_i ts o2;split at G
        ·rename_i o3;injection G with G;subst G
         cases (h.roots _ _ d8).2 with
         | arr0 _ _ _=>simp at e7
         | mk _ cs0 e0 hh0 ho0 hf0 hcell0=>
          obtain ⟨f1,f2,f3,f4⟩:=hf0;have c8:(g.sub w ex br).own (g.rb F.n)=some (k,[]):=Gh.sub_own_top ho0 hp;obtain ⟨_,k1,d1,d2,e2,k2,k3,k4,k5⟩:=b2.place _ k c8;simp only[] at k2;rw[hh0] at k2;injection k2 with k2;injection k2 with k2 i1;subst k2;subst i1;rw[hh] at k3;injection k3 with k3;injection k3 with k3 n9;subst k3;subst n9
          have l0:(hs.getD k []).length=F.sz:=by
           simp only[List.getD,b5,yaU,p4,List.length_map];exact f4 _ row e7
          have g8:(g.sub w ex br).base k=g.base F.n+F.i*F.sz:=(by simp only[Gh.sub,plGetD V]);refine .mk _ cs _ (by rw[d5];exact hh) (by rw[d5];exact e8) ⟨by rw[f5];exact f1,by rw[h8,k4];exact f2,by rw[h8];simpa using f3,fun i r' b7=>?_⟩ (fun i j x hx=>?_)
          ·rw[List.getElem?_set] at b7;split at b7
           ·split at b7
            ·injection b7 with b7;subst b7;exact o3
            ·cases b7
           ·exact f4 i r' b7
          ·rw[f5];simp only[Root.sz];simp only[Root.get,List.getElem?_set] at hx;by_cases hi:F.i=i
           ·subst hi;have l8:F.i<rows.length:=(List.getElem?_eq_some_iff.1 e7).1;rw[if_pos rfl,if_pos l8] at hx;simp only[Option.map_eq_some_iff] at hx;obtain ⟨t,ht,rfl⟩:=hx;obtain ⟨y,hy,i6⟩:=zCa o2 j t ht
            have o0:y=.t t:=by cases y with
             | t z=>simp only[unB,yaC] at i6;rw[i6]
             | v z=>simp[unB] at i6
            subst o0;exact d7 j _ hy
           ·rw[if_neg hi] at hx;have b1:(Root.arr F.sz rows).get i j=some x:=(by simp only[Root.get];exact hx);obtain ⟨v,J,b6⟩:=hcell0 i j x b1;simp only[Root.sz] at J;refine⟨v,?_,?_⟩
            ·rw[k5 _ ?_]
             ·exact J
             ·show _<(g.sub w ex br).base k∨(g.sub w ex br).base k+(hs.getD k []).length≤_;rw[g8,l0]
              have r8:j<F.sz:=by
               have p2:(Root.arr F.sz rows).form (g.base F.n) (g.rc F.n) cs0.size:=⟨f1,f2,f3,f4⟩;rcases Root.get_lt p2 b1 with ⟨_,j3,_⟩|⟨r5,m9,j3,p1⟩
               ·cases j3
               ·cases j3;exact p1
              rcases Nat.lt_or_gt_of_ne hi with l9|l9
              ·have:=Nat.mul_le_mul_right F.sz (show F.i+1≤i by omega);rw[Nat.add_mul] at this;omega
              ·have:=Nat.mul_le_mul_right F.sz (show i+1≤F.i by omega);rw[Nat.add_mul] at this;omega
            ·cases b6 with
             | t t0 _ ht=>
              refine .t _ _ (ht.keep b4 (fun b p j1=>?_))
              have f9:(g.sub w ex br).own b=none:=by
               simp only[Gh.sub,j1,hp,List.singleton_append,plGetD V];rw[if_neg (fun e=>hi e.symm)]
              obtain ⟨_,q2,q3⟩:=O1 b (h.lt b _ j1) f9;exact⟨q3.trans j1,q2⟩
             | v x0 _ hcv=>exact .v _ _ (hcv.mono b4)
        ·cases G
       ·cases G
   ·rename_i hp;obtain ⟨hu,j9⟩:=h.roots n r G;refine⟨.inl hu,j9.keep hu b4 (fun b p ho=>?_)⟩;obtain ⟨_,k2,k3⟩:=O1 b (h.lt b _ ho) (Gh.sub_own_out ho (zNu.1 hp));exact⟨k3.trans ho,k2⟩
 ·have o1:=(h.fr.place b n hb).1;have g6:=hnm n (h.fr.gle.used n o1);unfold backH at G;rw[if_neg (by omega)] at G;split at G
  ·rename_i k hp;obtain ⟨F,V,rfl⟩:=zGg1 hp;rw[plGetD V] at G;obtain ⟨c0,b5,k6⟩:=g9 k F V;obtain ⟨r0,d8,h7,m1,e6⟩:=zFa k6;obtain ⟨c1,f0,p0⟩:=h.wd _ _ b d8 hb;subst f0;rcases e6 with ⟨c',d3,rfl,g7⟩|⟨rows,row,i8,_⟩
   ·injection d3 with d3;subst d3;rw[d8] at G
    cases b8:res.places[k]? with
    | none=>rw[b8] at G;simp[plBack] at G
    | some c=>
     rw[b8] at G;simp only[plBack,yaC] at G;subst G;have k0:=h9 k c b8
     cases (h.roots _ _ d8).2 with
     | mk _ cs e hh ho hf hr=>
      have c8:(g.sub w ex br).own (g.rb F.n)=some (k,[]):=Gh.sub_own_top ho hp;obtain ⟨c2,j7,o9⟩:=hR.wd k _ _ k0 c8;injection j7 with j7;subst j7;refine⟨c,rfl,Nat.le_trans o9 ?_⟩;simpa[List.getD,b5] using p0
   ·cases i8
  ·exact h.wd n r b G hb
 ·have hC:∀(x x0 y:C) (u:Value),OkC sc res.roots.length x→reC (fun n=>Z.getD n 0) x=some x0→reC (fun n=>nm+n) x=some y→CV gc x0 u→CV (g.back w (g.sub w ex br) gc ex Z nm) y u:=by
   intro x x0 y u hx b1 hy hu
   have d6:∀n,n<res.roots.length→(g.back w (g.sub w ex br) gc ex Z nm).used (nm+n)∧(g.back w (g.sub w ex br) gc ex Z nm).rb (nm+n)=gc.rb (Z.getD n 0)∧
    (g.back w (g.sub w ex br) gc ex Z nm).base (nm+n)=gc.base (Z.getD n 0)∧(g.back w (g.sub w ex br) gc ex Z nm).rc (nm+n)=gc.rc (Z.getD n 0):=fun n G=>by
    refine⟨.inr ⟨by omega,by omega⟩,?_,?_,?_⟩<;>(simp only[Gh.back];rw[if_pos (by omega),show nm+n-nm=n by omega])
   cases hx with
   | im i hi=>
    simp only[reC,yaC] at b1 hy;subst b1;subst hy
    cases hu with
    | im _ _ hir=>
     refine .im _ _ ?_;rcases hi with hi|hi
     ·exact hir.mono (c7 hi)
     ·exact hir.sc hi
   | nil=>
    simp only[reC,yaC] at b1 hy;subst b1;subst hy
    cases hu;exact .nil
   | view n sz lo len G=>
    simp only[reC,yaC] at b1 hy;subst b1;subst hy;obtain ⟨n1,n2,n3,n4⟩:=d6 n G
    cases hu with
    | view0 _ _ _ A _=>exact .view0 _ _ _ A n1
    | view _ _ _ _ cap _ hb hlc hcap=>rw[←n2];exact .view _ _ _ _ cap n1 (n3.trans hb) hlc (by rw[n4];exact hcap)
   | ptr n sz i off G=>
    simp only[reC,yaC] at b1 hy;subst b1;subst hy;obtain ⟨n1,n2,n3,n4⟩:=d6 n G
    cases hu with
    | ptr _ _ _ _ _=>rw[←n2,←n3];exact .ptr _ _ _ _ n1
  have hA:∀(xs ys zs:List C) (vs:Array Value),(∀x∈xs,OkC sc res.roots.length x)→mapO (reC (fun n=>Z.getD n 0)) xs=some ys→mapO (reC (fun n=>nm+n)) xs=some zs→
   DV gc (.agg ys) (.agg vs)→DV (g.back w (g.sub w ex br) gc ex Z nm) (.agg zs) (.agg vs):=by
   intro xs ys zs vs hx hy hz J
   cases J with
   | agg _ _ hs hr=>
    refine .agg _ _ (by rw[hs,zBs hy,zBs hz]) (fun j z u hj hu=>?_);obtain ⟨x,c6,a6⟩:=zCa hz j z hj;have e9:j<ys.length:=(by rw[zBs hy];exact (List.getElem?_eq_some_iff.1 c6).1);obtain ⟨x',a8,a7⟩:=zCa hy j _ (List.getElem?_eq_getElem e9);rw[c6] at a8;injection a8 with a8;subst a8;exact hC x _ z u (hx x (List.mem_of_getElem? c6)) a7 a6 (hr j _ u (List.getElem?_eq_getElem e9) hu)
  have h6:=hok.val;generalize res.val=vd at h6 U E
  cases h6 with
  | c x hx=>
   simp only[reD] at U E;split at E
   ·rename_i x0 b1;split at U
    ·rename_i y hy;injection U with U;injection E with E;subst U;subst E
     cases j6 with|c _ _ J=>exact .c _ _ (hC x x0 y _ hx b1 hy J)
    ·cases U
   ·cases E
  | agg xs hx=>
   simp only[reD] at U E;split at E
   ·rename_i ys e4;split at U
    ·rename_i zs f6;injection U with U;injection E with E;subst U;subst E
     cases j6 with|agg _ vs hs hr=>exact hA xs ys zs vs hx e4 f6 (.agg _ _ hs hr)
    ·cases U
   ·cases E
  | tup ds hx=>
   simp only[reD] at U E;split at E
   ·rename_i ys e4;split at U
    ·rename_i zs f6;injection U with U;injection E with E;subst U;subst E
     cases j6 with
     | tup _ vs hs hr=>
      refine .tup _ _ (by rw[hs,zBs e4,zBs f6]) (fun j z u hj hu=>?_);obtain ⟨x,c6,a6⟩:=zCa f6 j z hj;have e9:j<ys.length:=(by rw[zBs e4];exact (List.getElem?_eq_some_iff.1 c6).1);obtain ⟨x',a8,a7⟩:=zCa e4 j _ (List.getElem?_eq_getElem e9);rw[c6] at a8;injection a8 with a8;subst a8;have f7:=hr j _ u (List.getElem?_eq_getElem e9) hu;rcases hx x (List.mem_of_getElem? c6) with ⟨c,rfl,hc⟩|⟨cs,rfl,hc⟩
      ·simp only[] at a7 a6;split at a7
       ·rename_i c0 b5;split at a6
        ·rename_i c1 f0;injection a7 with a7;injection a6 with a6;subst a6;rw[←a7] at f7
         cases f7 with|c _ _ J=>exact .c _ _ (hC c c0 c1 _ hc b5 f0 J)
        ·cases a6
       ·cases a7
      ·simp only[] at a7 a6;split at a7
       ·rename_i c0 b5;split at a6
        ·rename_i c1 f0;injection a7 with a7;injection a6 with a6;subst a6;rw[←a7] at f7
         cases f7 with|agg _ vs hs hr=>exact hA cs c0 c1 vs hc b5 f0 (.agg _ _ hs hr)
        ·cases a6
       ·cases a7
    ·cases U
   ·cases E
theorem zDx2 (h:Rel en g S H a w) {nm:Nat} {f:FuncId} {ct:Ct} (hG:Good P f ct) {ex:List Plc} {hs:List (List B)} (hpl:PlOk H ex hs) {br:Bool} (hbr:br=true→ct.sc=true)
 {ds ds':List D} {args:List Value} (hal:args.length=ds.length) (hdv:∀(t:Nat) (d:D) (v:Value),ds[t]?=some d→args[t]?=some v→DV g d v)
 (hlo:mapO (loD ex (if br then H else fun _=>none)) ds=some ds') {o:Outs} (hrun:ct.run ds' hs=some o):
 Calls P f args.toArray w (fun e w'=>∃v,e=.returned v∧∃res,o.mem res∧∀d,reD (fun n=>nm+n) res.val=some d→(∀m,g.used m→¬(nm≤m∧m<nm+res.roots.length))→
  ∃g',g.le g'∧(∀m,g'.used m→g.used m∨(nm≤m∧m<nm+res.roots.length))∧Rel en g' S (backH H ex nm res) a w'∧DV g' d v):=by
 have F:=zHd2 h hpl br (H0:=if br then H else fun _=>none) (fun n r hr=>by
  cases br with
  | true=>exact⟨rfl,hr⟩
  | false=>cases hr) hal hdv hlo
 have:=hG.at_ ds' hs o hrun ⟨g.sub w ex br,w,fun k=>(hs.getD k []).length⟩ args (by rw[hal,zBs hlo]) (fun n V=>by rw[hpl.2.1];exact V) F;exact this.mono fun e w' ⟨v,Z,res,U,E⟩=>⟨v,Z,res,U,fun d G J=>zDz2 h J hpl hbr (hG.ok ds' hs o hrun res U) E G⟩
end Go.SX
namespace Go.SX
open Go Go.RowKit
variable {en : En} {g : Gh} {S : Nat → Option D} {H : Nat → Option Root} {a : Act} {w : World} {P : Program}
def evDs (S:Nat→Option D):List Operand→Option (List D)
 | []=>some []
 | x::xs=>match ev S x with
  | some d=>match evDs S xs with
   | some ds=>some (d::ds)
   | none=>none
  | none=>none
theorem zCz1 (h:Rel en g S H a w):∀{xs:List Operand} {ds:List D},evDs S xs=some ds→ds.length=xs.length∧∀(t:Nat) (d:D) (v:Value),ds[t]?=some d→(xs.map a.eval)[t]?=some v→DV g d v
 | [],ds,hd=>by simp only[evDs,yaC] at hd;subst hd;exact⟨rfl,fun t d v h=>by simp at h⟩
 | x::xs,ds,hd=>by
  simp only[evDs] at hd;split at hd
  ·rename_i V J;split at hd
   ·rename_i U G;injection hd with hd;subst hd;obtain ⟨h1,h2⟩:=zCz1 h G;refine⟨by simp[h1],fun t d v F E=>?_⟩
    cases t with
    | zero=>simp at F E;subst F;subst E;exact zBt h J
    | succ t=>simp only[List.getElem?_cons_succ,List.map_cons] at F E;exact h2 t d v F E
   ·cases hd
  ·cases hd
def exC1:C→List Plc
 | .ptr n sz i _=>[⟨n,sz,i⟩]
 | _=>[]
def exC:C→List Plc
 | .ptr n sz i _=>[⟨n,sz,i⟩]
 | .fn _ caps=>caps.flatMap exC1
 | _=>[]
def exD:D→List Plc
 | .c x=>exC x
 | .agg xs=>xs.flatMap exC
 | .tup _=>[]
def dd:List Plc→List Plc
 | []=>[]
 | x::xs=>if x.n∈exN xs then dd xs else x::dd xs
def exDs (ds:List D):List Plc:=dd (ds.flatMap exD)
def apH:List (Nat×Option Root)→(Nat→Option Root)→Nat→Option Root
 | [],H=>H
 | (n,r)::l,H=>upd (apH l H) n r
def apS (dst:Option Nat)(val:Option D)(S:Nat→Option D):Nat→Option D:=match dst with
 | some t=>upd S t val
 | none=>S
def addR:Nat→List Root→List (Nat×Option Root)
 | _,[]=>[]
 | nm,r::rs=>(nm,some r)::addR (nm+1) rs
def addP (H:Nat→Option Root):List Plc→List (List B)→List (Nat×Option Root)
 | [],_=>[]
 | p::ex,c::cs=>(p.n,plBack (H p.n) p (some c))::addP H ex cs
 | p::ex,[]=>(p.n,none)::addP H ex []
theorem zAc1:∀(l k:List (Nat×Option Root)) (H:Nat→Option Root),apH (l++k) H=apH l (apH k H)
 | [],_,_=>rfl
 | (n,r)::l,k,H=>by simp only[List.cons_append,apH];rw[zAc1 l k H]
theorem zRj:∀(rs:List Root) (nm:Nat) (H:Nat→Option Root) (n:Nat),apH (addR nm rs) H n=if nm≤n∧n<nm+rs.length then rs[n-nm]? else H n
 | [],nm,H,n=>by simp only[addR,apH,List.length_nil];rw[if_neg (by omega)]
 | r::rs,nm,H,n=>by
  simp only[addR,apH,upd];by_cases e:n=nm
  ·subst e;simp
  ·rw[if_neg e,zRj rs (nm+1) H n];simp only[yab];by_cases h:nm+1≤n∧n<nm+1+rs.length
   ·rw[if_pos h,if_pos (by omega),show n-nm=(n- (nm+1))+1 by omega];simp
   ·rw[if_neg h,if_neg (by omega)]
theorem zWw (r:Option Root)(p:Plc):plBack r p none=none:=by
 cases r with
 | none=>rfl
 | some r=>cases r<;>rfl
theorem zHg1 (H0:Nat→Option Root):∀(ex:List Plc) (cs:List (List B)) (H:Nat→Option Root) (n:Nat),apH (addP H0 ex cs) H n=match pos (exN ex) n with
   | some k=>plBack (H0 n) (ex.getD k default) cs[k]?
   | none=>H n
 | [],cs,H,n=>by cases cs<;>rfl
 | p::ex,[],H,n=>by
   simp only[addP,apH,upd,exN,List.map_cons,pos];by_cases e:n=p.n
   · subst e;simp[zWw]
   · rw[if_neg e,if_neg (Ne.symm e),zHg1 H0 ex [] H n];simp only[exN]
     cases pos (ex.map Plc.n) n<;>simp[zWw]
 | p::ex,c::cs,H,n=>by
   simp only[addP,apH,upd,exN,List.map_cons,pos];by_cases e:n=p.n
   · subst e;simp
   · rw[if_neg e,if_neg (Ne.symm e),zHg1 H0 ex cs H n];simp only[exN]
     cases pos (ex.map Plc.n) n<;>simp
theorem zEa2 (H:Nat→Option Root)(ex:List Plc)(nm:Nat)(res:Res):backH H ex nm res=apH (addR nm res.roots++addP H ex res.places) H:=by
 funext n;rw[zAc1,zRj,zHg1];unfold backH;rfl
theorem zAd1 {H H':Nat→Option Root}:∀(ex:List Plc) (cs:List (List B)),(∀p∈ex,H p.n=H' p.n)→addP H ex cs=addP H' ex cs
 | [],cs,_=>by cases cs<;>rfl
 | p::ex,[],h=>by simp only[addP];rw[zAd1 ex [] (fun q E=>h q (.tail _ E))]
 | p::ex,c::cs,h=>by simp only[addP];rw[zAd1 ex cs (fun q E=>h q (.tail _ E)),h p (.head _)]
def dropN:Option Nat→List (Nat×Option Root)
 | some n=>[(n,none)]
 | none=>[]
def hoistJ:Root→Nat→List Nat→Nat→Option (Root×List Root)
 | r,_,[],_=>some (r,[])
 | r,i,j::js,nm=>match r.get i j with
  | some (.t (.own sz rows))=>if 0<sz then match hoistJ (r.setT i j (.lent nm sz rows.length)) i js (nm+1) with
   | some (r',rs)=>some (r',.arr sz rows::rs)
   | none=>none
   else none
  | _=>none
theorem zUa:∀(js:List Nat) (r r':Root) (rs:List Root) (nm i n:Nat) (g:Gh) (H:Nat→Option Root),Rel en g S H a w→H n=some r→hoistJ r i js nm=some (r',rs)→(∀m,g.used m→¬(nm≤m∧m<nm+rs.length))→
 ∃g',g.le g'∧(∀m,g'.used m→g.used m∨(nm≤m∧m<nm+rs.length))∧Rel en g' S (apH ((n,some r')::addR nm rs) H) a w
 | [],r,r',rs,nm,i,n,g,H,h,hn,hh,hnm=>by
  simp only[hoistJ,yaC,Prod.mk.injEq] at hh;obtain ⟨rfl,rfl⟩:=hh;refine⟨g,Gh.le.refl g,fun m E=>.inl E,?_⟩
  have:apH ((n,some r)::addR nm []) H=H:=by
   funext m;simp only[apH,addR,upd];split
   ·rename_i e;rw[e,hn]
   ·rfl
  rw[this];exact h
 | j::js,r,r',rs,nm,i,n,g,H,h,hn,hh,hnm=>by
  simp only[hoistJ] at hh;split at hh
  ·rename_i sz rows hc;split at hh
   ·rename_i hs;split at hh
    ·rename_i J F h1;simp only[yaC,Prod.mk.injEq] at hh;obtain ⟨rfl,rfl⟩:=hh;have G:¬g.used nm:=fun hu=>hnm nm hu ⟨Nat.le_refl _,by simp⟩;obtain ⟨g1,k1,k2,k3,k4⟩:=h.hoist hn G hs hc;have U:n≠nm:=fun e=>G (e▸(h.roots n r hn).1);have V:upd (upd H n (some (r.setT i j (.lent nm sz rows.length)))) nm (some (.arr sz rows)) n=some (r.setT i j (.lent nm sz rows.length)):=by rw[zCl _ _ U,zBl]
     obtain ⟨g2,q1,q2,q3⟩:=zUa js _ J F (nm+1) i n g1 _ k4 V h1 (fun m E hc=>by
      rcases k3 m E with e|E
      ·omega
      ·exact hnm m E ⟨by omega,by simp only[yab];omega⟩)
     refine⟨g2,k1.trans q1,fun m E=>?_,?_⟩
     ·simp only[yab];rcases q2 m E with E|E
      ·rcases k3 m E with e|E
       ·exact .inr (by omega)
       ·exact .inl E
      ·exact .inr (by omega)
     ·have:apH ((n,some J)::addR (nm+1) F) (upd (upd H n (some (r.setT i j (.lent nm sz rows.length)))) nm (some (.arr sz rows)))=apH ((n,some J)::addR nm (.arr sz rows::F)) H:=by
       funext m;simp only[apH,addR,upd];by_cases e:m=n
       ·rw[if_pos e,if_pos e]
       ·rw[if_neg e,if_neg e,zRj,zRj];by_cases Z:m=nm
        ·subst Z;rw[if_pos rfl,if_neg (by omega),zBl]
        ·rw[if_neg Z];split
         ·rfl
         ·rw[zCl _ _ Z,zCl _ _ e]
      rw[this] at q3;exact q3
    ·cases hh
   ·cases hh
  ·cases hh
inductive OpSem (P:Program) (S:Nat→Option D) (H:Nat→Option Root) (nm:Nat):Op→Option D→List (Nat×Option Root)→Nat→Prop where
 | q {o:Op} {d:D} (h:qv P S H o=some d):OpSem P S H nm o (some d) [] 0
 | mk {o:Op} {d:D} {r:Root} (h:mkOp P S o nm=some (d,r)):OpSem P S H nm o (some d) [(nm,some r)] 1
 | ldh {t:TypeId} {x:Operand} {n sz i off:Nat} {js:List Nat} {r r':Root} {rs:List Root} {d:D} (hx:evC S x=some (.ptr n sz i off)) (hr:H n=some r) (hj:hoistJ r i js nm=some (r',rs))
  (h:qv P S (apH ((n,some r')::addR nm rs) H) (.load t x)=some d):OpSem P S H nm (.load t x) (some d) ((n,some r')::addR nm rs) rs.length
 | st {t:TypeId} {x y:Operand} {n:Nat} {r:Root} (h:storeH P t S H x y=some (n,r)):OpSem P S H nm (.store t x y) none [(n,some r)] 0
 | app {t:TypeId} {s x:Operand} {sz bytes:Nat} {rows:List (List T)} {on:Option Nat} (h:appendH P t S H s x=some (sz,bytes,rows,on)) (hb:rows.length*bytes≤140737488355328):
  OpSem P S H nm (.call {callee:=.builtin .append,args:=#[s,x],argTypes:=#[t,t]}) (some (.c (.view nm sz 0 rows.length))) ((nm,some (.arr sz rows))::dropN on) 1
 | apz {t t2:TypeId} {s x:Operand} {sz bytes:Nat} {rows:List (List T)} {on:Option Nat} (hz:AppZ P t t2) (h:appendZ P t S H s x=some (sz,bytes,rows,on)) (hb:rows.length*bytes≤140737488355328):
  OpSem P S H nm (.call {callee:=.builtin .append,args:=#[s,x],argTypes:=#[t,t2]}) (some (.c (.view nm sz 0 rows.length))) ((nm,some (.arr sz rows))::dropN on) 1
 | clr {t:TypeId} {x:Operand} {n:Nat} {r:Root} (h:clearH P t S H x=some (n,r)):OpSem P S H nm (.call {callee:=.builtin .clear,args:=#[x],argTypes:=#[t]}) (some (.tup [])) [(n,some r)] 0
theorem zEs {α β:Type}{f f':α→Option β}(h:∀x y,f x=some y→f' x=some y):∀{xs:List α} {ys:List β},mapO f xs=some ys→mapO f' xs=some ys
 | [],ys,hd=>hd
 | x::xs,ys,hd=>by
  simp only[mapO] at hd ⊢;split at hd
  ·rename_i y G;split at hd
   ·rename_i F E;rw[h x y G,zEs h E];exact hd
   ·cases hd
  ·cases hd
variable {H' : Nat → Option Root}
theorem zDj1 (hH:∀n r,H n=some r→H' n=some r){ex:List Nat}:∀(k:Nat) (t:T) (i:I),toI ex H k t=some i→toI ex H' k t=some i
 | 0,t,i,h=>by cases t<;>exact h
 | k+1,t,i,h=>by
  cases t with
  | im=>exact h
  | nil=>exact h
  | dead=>exact h
  | own sz rows=>
   simp only[toI] at h ⊢;split at h
   ·rename_i r hr;rw[zEs (fun x y hx=>zEs (zDj1 hH k) hx) hr];exact h
   ·cases h
  | lent n sz len=>
   simp only[toI] at h ⊢;split at h
   ·cases h
   ·rename_i G;rw[if_neg G];split at h
    ·rename_i F rows hr;rw[hH n _ hr];simp only[];split at h
     ·rename_i hc;rw[if_pos hc];split at h
      ·rename_i r E;rw[zEs (fun x y hx=>zEs (zDj1 hH k) hx) E];exact h
      ·cases h
     ·cases h
    ·cases h
theorem zPd1 (hH:∀n r,H n=some r→H' n=some r){ex:List Plc}:∀(k:Nat) (c F:C),loC ex H k c=some F→loC ex H' k c=some F:=by
 have E:∀(k n sz lo len:Nat) (F:C),loC ex H k (.view n sz lo len)=some F→loC ex H' k (.view n sz lo len)=some F:=by
  intro k n sz lo len F h;simp only[loC] at h ⊢;split at h
  ·cases h
  ·rename_i V;rw[if_neg V];split at h
   ·rename_i U rows hr;rw[hH n _ hr];simp only[];split at h
    ·rename_i hc;rw[if_pos hc];split at h
     ·rename_i r G;rw[zEs (fun x y hx=>zEs (zDj1 hH 4) hx) G];exact h
     ·cases h
    ·cases h
   ·cases h
 intro k
 induction k with
 | zero=>intro c F h;cases c<;>first|exact h|exact E _ _ _ _ _ _ h
 | succ k ih=>
  intro c F h
  cases c with
  | fn f caps=>
   simp only[loC] at h ⊢;split at h
   ·rename_i cs J;rw[zEs ih J];exact h
   ·cases h
  | view n sz lo len=>exact E _ _ _ _ _ _ h
  | _=>exact h
theorem zCh2 (hH:∀n r,H n=some r→H' n=some r){ex:List Plc}(d d':D)(h:loD ex H d=some d'):loD ex H' d=some d':=by
 cases d with
 | c x=>
  simp only[loD] at h ⊢;split at h
  ·rename_i y F;rw[zPd1 hH 2 x y F];exact h
  ·cases h
 | agg xs=>
  simp only[loD] at h ⊢;split at h
  ·rename_i ys E;rw[zEs (zPd1 hH 2) E];exact h
  ·cases h
 | tup=>exact h
theorem zNr1 (hH:∀n r,H n=some r→H' n=some r){t:TypeId}{x:Operand}{z:Nat×Root}(h:clearH P t S H x=some z):clearH P t S H' x=some z:=by
 unfold clearH at h ⊢;split at h
 ·split at h
  ·split at h
   ·split at h
    ·split at h
     ·rename_i hr;simp only[hH _ _ hr];exact h
     ·cases h
    ·cases h
   ·cases h
  ·cases h
 ·cases h
theorem zLm1 (hH:∀n r,H n=some r→H' n=some r){t:TypeId}{x y:Operand}{z:Nat×Root}(h:storeH P t S H x y=some z):storeH P t S H' x y=some z:=by
 unfold storeH at h ⊢;split at h
 ·split at h
  ·split at h
   ·split at h
    ·split at h
     ·rename_i hc;split at h
      ·rename_i r hr;simp only[*] at h ⊢;rw[hH _ _ hr];exact h
      ·cases h
     ·cases h
    ·cases h
   ·cases h
  ·cases h
 ·cases h
theorem zTl (hH:∀n r,H n=some r→H' n=some r){x:Operand}{sz:Nat}{z:List (List T)}(h:srcRows S H x sz=some z):srcRows S H' x sz=some z:=by
 unfold srcRows at h ⊢;split at h
 ·rename_i m E lo k hx;split at h
  ·rename_i hc;split at h
   ·rename_i F rows hr
    (try simp only[hx])
    rw[if_pos hc,hH _ _ hr];exact h
   ·cases h
  ·cases h
 ·rename_i E rows hx;(try simp only[hx]);exact h
 ·rename_i hx;(try simp only[hx]);exact h
 ·cases h
theorem zLd1 (hH:∀n r,H n=some r→H' n=some r){t:TypeId}{s x:Operand}{z:Nat×Nat×List (List T)×Option Nat}(h:appendZ P t S H s x=some z):appendZ P t S H' s x=some z:=by
 unfold appendZ at h ⊢;split at h
 ·rename_i e J
  (try simp only[J])
  split at h
  ·rename_i sz bytes V h1 h2 h3
   (try simp only[h1,h2,h3])
   split at h
   ·rename_i U k E
    (try simp only[E])
    split at h
    ·rename_i hc;rw[if_pos hc];split at h
     ·rename_i n G len hs
      (try simp only[hs])
      split at h
      ·rename_i hz;rw[if_pos hz];split at h
       ·rename_i F rows hr;rw[hH _ _ hr];exact h
       ·cases h
      ·cases h
     ·cases h
    ·cases h
   ·cases h
  ·cases h
 ·cases h
theorem zLf1 (hH:∀n r,H n=some r→H' n=some r){t:TypeId}{s x:Operand}{z:Nat×Nat×List (List T)×Option Nat}(h:appendH P t S H s x=some z):appendH P t S H' s x=some z:=by
 unfold appendH at h ⊢;split at h
 ·rename_i e J
  (try simp only[J])
  split at h
  ·rename_i sz bytes U h1 h2 h3
   (try simp only[h1,h2,h3])
   split at h
   ·rename_i hc;rw[if_pos hc];split at h
    ·rename_i src E;rw[zTl hH E];simp only[];split at h
     ·rename_i n G len hs
      (try simp only[hs])
      split at h
      ·rename_i hz;rw[if_pos hz];split at h
       ·rename_i F rows hr;rw[hH _ _ hr];exact h
       ·cases h
      ·cases h
     ·rename_i hs;(try simp only[hs]);exact h
     ·cases h
    ·cases h
   ·cases h
  ·cases h
 ·cases h
theorem zTr {p:Plc}{c:List B}(h:plCells H p=some c):∃r,H p.n=some r:=by obtain ⟨r,hr,_⟩:=zFa h;exact⟨r,hr⟩
theorem zIw1 (hH:∀n r,H n=some r→H' n=some r){p:Plc}{c:List B}(h:plCells H p=some c):plCells H' p=some c:=by
 obtain ⟨r,hr⟩:=zTr h;unfold plCells at h ⊢;rw[hH _ _ hr];rw[hr] at h;exact h
theorem zZh1 (hH:∀n r,H n=some r→H' n=some r){ex:List Plc}{hs:List (List B)}(h:PlOk H ex hs):PlOk H' ex hs:=
 ⟨h.1,h.2.1,fun k n c h1 h2=>⟨zIw1 hH (h.2.2 k n c h1 h2).1,(h.2.2 k n c h1 h2).2⟩⟩
theorem Rel.moreS {S':Nat→Option D}(h:Rel en g S H a w)(hs:∀t d,S' t=some d→∃v,a.tmps[t]?=some v∧DV g d v):Rel en g S' H a w:=
 ⟨h.fr,h.df,h.lt,h.fz,hs,h.roots,h.wd⟩
theorem Rel.putD (h:Rel en g S H a w){dst:Option Nat}(hdst:∀t,dst=some t→t<a.tmps.size){d:D}{v:Value}(hv:DV g d v):Rel en g (apS dst (some d) S) H (a.put dst v) w:=by
 cases dst with
 | none=>exact h
 | some t=>exact h.put (hdst t rfl) hv
theorem Rel.putN (h:Rel en g S H a w)(dst:Option Nat)(v:Value):Rel en g (apS dst none S) H (a.put dst v) w:=by
 have:=h.putU dst v
 cases dst<;>exact this
theorem zDc (a:Act)(dst:Option Nat)(v:Value):(a.put dst v).tmps.size=a.tmps.size:=by cases dst<;>simp[Act.put]
theorem zDi1 {f : FuncId} (hf : ∃ fn : Func, P.funcs[f]? = some fn ∧ (fn.name == "runtime.NumGoroutine") = false ∧ fn.body.isNone = false) (args : Array Value) (w : World) : (callFunc f args).run P w = .ok (.enter f args) w := by
 obtain ⟨fn,h1,h2,h3⟩:=hf
 have h2' : ¬ fn.name = "runtime.NumGoroutine" := by simpa using h2
 have h3':fn.body≠none:=by
  intro h;rw[h] at h3;cases h3
 simp[callFunc,h1,h2',h3']
def ExtLaw (P:Program)(f:FuncId)(ct:Ct):Prop:=∀(ds:List D) (hs:List (List B)) (o:Outs),ct.run ds hs=some o→hs=[]∧(∀d∈ds,∃i,d=.c (.im i)∧scI i=true)∧
 ∀(fz:Nat→Nat→Option Value) (vs:List Value) (w:World),vs.length=ds.length→(∀(t:Nat) (i:I) (v:Value),ds[t]?=some (.c (.im i))→vs[t]?=some v→IR fz i v)→
  ∃v z,(callFunc f vs.toArray).run P w=.ok (.value v) w∧o.mem {val:=.c (.im z)}∧IR fz z v
theorem zLp2 {ex:List Plc}{H:Nat→Option Root}{d:D}{i:I}(h:loD ex H d=some (.c (.im i)))(hs:scI i=true):d=.c (.im i)∨∃n sz lo,d=.c (.view n sz lo 0)∧i=.sl sz []:=by
 cases d with
 | c x=>
  simp only[loD] at h;split at h
  ·rename_i y E;simp only[yaC,D.c.injEq] at h;subst h
   cases x with
   | im j=>simp only[loC,yaC,C.im.injEq] at E;rw[E];exact .inl rfl
   | view n sz lo len=>
    simp only[loC] at E;split at E
    ·cases E
    ·split at E
     ·split at E
      ·rename_i G;split at E
       ·rename_i r hr;simp only[yaC,C.im.injEq] at E;subst E;have F:r=[]:=(by simpa[scI] using hs);subst F;have hl:=zBs hr;simp only[List.length_nil,List.length_take,List.length_drop] at hl;have:len=0:=(by have:=G.2;omega);subst this;exact .inr ⟨n,sz,lo,rfl,rfl⟩
       ·cases E
      ·cases E
     ·cases E
   | ptr n sz i off=>
    simp only[loC] at E;split at E
    ·split at E
     ·split at E
      ·cases E
      ·cases E
     ·cases E
    ·cases E
   | nil=>simp[loC] at E
   | iptr row off=>simp[loC] at E
   | fn f caps=>
    simp only[loC] at E;split at E<;>cases E
  ·cases h
 | agg xs=>simp only[loD] at h;split at h<;>cases h
 | tup ds=>simp[loD] at h
theorem zAk1 {s k:FloatKind}{b b':Nat}(h:FEq s b b')(hc:fconv s b k=none):∃r w',(Conv.floatToFloat s b' k).run P w=.ok (.float k r) w'∧Qt w w'∧r<4294967296:=by
 unfold fconv at hc;by_cases hs:s=k
 ·simp[hs] at hc
 ·rw[if_neg hs] at hc
  have hb:b=b':=by
   rcases h with h|⟨h1,h2⟩
   ·exact h
   ·obtain ⟨s1,t1,E⟩:=zKn h1;have F:s.decode b=.nan s1 t1:=E;rw[F] at hc;cases hc
  subst hb
  cases hd:s.decode b with
  | nan a c=>rw[hd] at hc;cases hc
  | infinity sg=>rw[hd] at hc;cases hc
  | number sg m e=>
   rw[hd] at hc;simp only at hc;split at hc
   ·rename_i hi;exact⟨_,w.drew,by simp[Conv.floatToFloat,hs,hd,hi,Question.forced];rfl,⟨rfl,rfl,rfl,rfl⟩,Nat.mod_lt _ (by decide)⟩
   ·cases hc
theorem OpSem.sound {S':Nat→Option D} {N nm cnt:Nat}
 {val:Option D} {wr:List (Nat×Option Root)} {Q:Exit→Act→World→Prop} {o:Oper} (h:Rel en g S' H' a w) (hN:a.tmps.size=N) (hS:∀t d,S t=some d→S' t=some d) (hH:∀n r,H n=some r→H' n=some r)
 (ho:OpSem P S H nm o.op val wr cnt) (hnm:∀m,g.used m→¬(nm≤m∧m<nm+cnt)) (hdst:∀t,o.dst=some t→t<N):
 o.wp P a w (fun a' w'=>∃g',(∀m,g'.used m→g.used m∨(nm≤m∧m<nm+cnt))∧Rel en g' (apS o.dst val S') (apH wr H') a' w'∧a'.tmps.size=N) Q:=by
 subst hN;have V:Rel en g S H a w:=h.less hS hH;have E:Rel en g S H' a w:=h.less hS (fun _ _ h=>h)
 have back:∀{g':Gh} {Hn:Nat→Option Root} {w':World},g.le g'→Rel en g' S Hn a w'→Rel en g' S' Hn a w':=fun a8 hr=>hr.moreS (fun t d ht=>by
  obtain ⟨v,hv,hd⟩:=h.slots t d ht;exact⟨v,hv,hd.mono a8⟩)
 generalize G:o.op=op at ho
 cases ho with
 | q hq=>
  rename_i d;rw[←G] at hq;obtain ⟨v,w',h1,h2,h3⟩:=zOm1 (o:=o) V hq;simp only[Oper.wp,h1,Oper.upon];exact⟨g,fun m F=>.inl F,(h.world h2.heap h2.os h2.tape h2.output).putD hdst h3,zDc _ _ _⟩
 | mk hq=>
  rename_i d r;rw[←G] at hq;obtain ⟨v,w',g',h1,h2⟩:=zRo1 (o:=o) E (fun hu=>hnm nm hu ⟨Nat.le_refl _,by omega⟩) hq;simp only[Oper.wp,h1,Oper.upon];refine⟨g',fun m F=>(h2.us m F).elim (fun e=>.inr (by omega)) .inl,(back h2.le h2.rel).putD hdst h2.val,zDc _ _ _⟩
 | ldh hx hr hj hq=>
  rename_i t x n sz i off js r r' rs d;obtain ⟨g',k1,k2,k3⟩:=zUa js r r' rs nm i n g H' E (hH n r hr) hj hnm
  have U:∀m rm,apH ((n,some r')::addR nm rs) H m=some rm→apH ((n,some r')::addR nm rs) H' m=some rm:=fun m rm F=>by
   simp only[apH,upd] at F ⊢;split at F
   ·rename_i e;rw[if_pos e];exact F
   ·rename_i e;rw[if_neg e];rw[zRj] at F ⊢;split at F
    ·rename_i e2;rw[if_pos e2];exact F
    ·rename_i e2;rw[if_neg e2];exact hH m rm F
  rw[←G] at hq;obtain ⟨v,w',h1,h2,h3⟩:=zOm1 (o:=o) (k3.less (fun _ _ h=>h) U) hq;simp only[Oper.wp,h1,Oper.upon];exact⟨g',k2,((back k1 k3).world h2.heap h2.os h2.tape h2.output).putD hdst h3,zDc _ _ _⟩
 | st hq=>
  rename_i t x y n r;obtain ⟨w',h1,h2⟩:=zHs1 E (zLm1 hH hq);have J:(execOp a.eval o).run P w=.ok .skip w':=by simp[execOp,G,h1]
  simp only[Oper.wp,J,Oper.upon];exact⟨g,fun m F=>.inl F,(back (Gh.le.refl g) h2).putN _ _,zDc _ _ _⟩
 | app hq hb=>
  rename_i t s x sz bytes rows on;obtain ⟨v,w',h1,g',h2,h3,h4,h5⟩:=zHf1 (ty:=o.type) E (zLf1 hH hq) (fun hu=>hnm nm hu ⟨Nat.le_refl _,by omega⟩) hb;have J:(execOp a.eval o).run P w=.ok (.value v) w':=by simp[execOp,G,resolve,invoke,builtin,h1]
  simp only[Oper.wp,J,Oper.upon];refine⟨g',fun m F=>(h3 m F).elim (fun e=>.inr (by omega)) .inl,?_,zDc _ _ _⟩;have Z:=(back h2 h4).putD hdst (.c _ _ h5)
  cases on<;>exact Z
 | apz hz hq hb=>
  rename_i t t2 s x sz bytes rows on;obtain ⟨v,w',h1,g',h2,h3,h4,h5⟩:=hz _ _ _ _ _ _ E o.type s x sz bytes nm rows on (zLd1 hH hq) (fun hu=>hnm nm hu ⟨Nat.le_refl _,by omega⟩) hb;have J:(execOp a.eval o).run P w=.ok (.value v) w':=by simp[execOp,G,resolve,invoke,builtin,h1]
  simp only[Oper.wp,J,Oper.upon];refine⟨g',fun m F=>(h3 m F).elim (fun e=>.inr (by omega)) .inl,?_,zDc _ _ _⟩;have Z:=(back h2 h4).putD hdst (.c _ _ h5)
  cases on<;>exact Z
 | clr hq=>
  rename_i t x n r;obtain ⟨w',h1,h2⟩:=zKy1 (ty:=o.type) E (zNr1 hH hq);have J:(execOp a.eval o).run P w=.ok (.value (.tuple #[])) w':=by simp[execOp,G,resolve,invoke,builtin,h1]
  simp only[Oper.wp,J,Oper.upon];exact⟨g,fun m F=>.inl F,(back (Gh.le.refl g) h2).putD hdst (.tup _ _ rfl (fun j x v hx=>by simp at hx)),zDc _ _ _⟩
def imT:T→Option I
 | .im i=>some i
 | _=>none
def Gh.frz (g:Gh)(b:Nat)(cs:Array Value):Gh:={g with own:=upd g.own b none,fz:=fun b' o=>if b'=b then cs[o]? else g.fz b' o}
theorem Rel.frzF (h:Rel en g S H a w) {n sz:Nat} {rows:List (List T)} {is:List (List I)} {f:T→Option I} (hn:H n=some (.arr sz rows)) (hi:mapO (mapO f) rows=some is)
 (hfi:∀(i:Nat) (r:List T) (j:Nat) (t:T) (x:I) (q:Pth) (v:Value),rows[i]?=some r→r[j]?=some t→f t=some x→TR w g n q t v→IR g.fz x v):
 ∃g',g.le g'∧g'.used=g.used∧Rel en g' S (upd H n none) a w∧∀v,CV g (.view n sz 0 rows.length) v→CV g' (.im (.sl sz is)) v:=by
 have Z:Rel en g S (upd H n none) a w:=h.less (fun _ _ h=>h) (fun m r hm=>by
  unfold upd at hm
  split at hm
  ·cases hm
  ·exact hm)
 have G:is.length=rows.length:=zBs hi;rcases Nat.eq_zero_or_pos rows.length with h0|h0
 ·have hr:rows=[]:=List.eq_nil_of_length_eq_zero h0;subst hr;have d2:is=[]:=List.eq_nil_of_length_eq_zero G;subst d2;refine⟨g,Gh.le.refl g,rfl,Z,fun v E=>?_⟩
  cases E with
  | view0=>exact .im _ _ (.sl0 _ _ _)
  | view=>exact .im _ _ (.sl0 _ _ _)
 ·obtain ⟨hu,hR⟩:=h.roots n _ hn
  cases hR with
  | arr0=>simp at h0
  | mk _ cs e hh ho hf hr=>
   obtain ⟨f1,f2,f3,f4⟩:=hf
   have c8:∀b',en.g0.own b'≠some (n,[]):=fun b' d5=>by
    obtain ⟨c0,d3,_⟩:=h.wd n _ b' hn d5
    cases d3
   have a7:∀o,g.fz (g.rb n) o=none:=fun o=>by
    cases hz:g.fz (g.rb n) o with
    | none=>rfl
    | some v=>have:=(h.fz _ _ _ hz).2;rw[ho] at this;cases this
   have J:g.le (g.frz (g.rb n) cs):=⟨fun _ h=>h,fun _ _=>rfl,fun _ _=>rfl,fun _ _=>rfl,fun b o v E=>by
    simp only[Gh.frz]
    split
    ·rename_i e;rw[e,a7] at E;cases E
    ·exact E⟩
   have a8:∀o v,cs[o]?=some v→w.cell? ⟨g.rb n,o,none⟩=some v:=(fun o v E=>by simp[World.cell?,hh,E]);refine⟨g.frz (g.rb n) cs,J,rfl,⟨⟨h.fr.laid,h.fr.os,h.fr.tape,h.fr.output,h.fr.size,h.fr.gle.trans J,fun b hb d4=>?_,fun b k hb=>?_,fun b o v hb E=>?_⟩,h.df,fun b x hx=>?_,fun b o v E=>?_,fun t d ht=>?_,fun k r1 U=>?_,fun k r1 b U hb=>?_⟩,fun v E=>?_⟩
   ·obtain ⟨h1,h2⟩:=h.fr.old b hb d4;refine⟨?_,h2⟩;simp only[Gh.frz,upd];split
    ·rfl
    ·exact h1
   ·obtain ⟨k0,F,c1,c2,e1,k2,k3,k4⟩:=h.fr.place b k hb;refine⟨k0,?_,c1,c2,e1,k2,k3,k4⟩;simp only[Gh.frz,upd];split
    ·rename_i V;rw[V,ho] at F;injection F with F;injection F with F _;exact absurd (F▸hb) (c8 b)
    ·exact F
   ·simp only[Gh.frz] at E;split at E
    ·rename_i V
     cases d0:en.g0.own b with
     | none=>have:=(h.fr.old b hb d0).1;rw[V,ho] at this;cases this
     | some x=>exact .inr (by simp)
    ·exact h.fr.fzn b o v hb E
   ·simp only[Gh.frz,upd] at hx;split at hx
    ·cases hx
    ·exact h.lt b x hx
   ·simp only[Gh.frz] at E;split at E
    ·rename_i V;subst V;exact⟨a8 o v E,by simp[Gh.frz,upd]⟩
    ·rename_i V;obtain ⟨h1,h2⟩:=h.fz b o v E;exact⟨h1,by simp only[Gh.frz,upd];rw[if_neg V];exact h2⟩
   ·obtain ⟨v,E,hd⟩:=h.slots t d ht;exact⟨v,E,hd.mono J⟩
   ·unfold upd at U;split at U
    ·cases U
    ·rename_i V;obtain ⟨b3,d6⟩:=h.roots k r1 U;refine⟨b3,d6.keep b3 J (fun b p hb=>⟨?_,rfl⟩)⟩;simp only[Gh.frz,upd];split
     ·rename_i e2;rw[e2,ho] at hb;injection hb with hb;injection hb with hb _;exact absurd hb.symm V
     ·exact hb
   ·unfold upd at U;split at U
    ·cases U
    ·exact h.wd k r1 b U hb
   ·generalize hL:rows.length=L at E
    cases E with
    | view0=>omega
    | view _ _ _ _ cap _ hbase hl hc=>
     subst hL;rw[Nat.zero_mul]
     have b8:∀(i:Nat) (r:List I) (j:Nat) (x:I),is[i]?=some r→r[j]?=some x→∃v,(g.frz (g.rb n) cs).fz (g.rb n) (0+i*sz+j)=some v∧IR (g.frz (g.rb n) cs).fz x v:=fun i r j x a6 d1=>by
      obtain ⟨r0,F,k2⟩:=zCa hi i r a6;obtain ⟨t0,k3,k4⟩:=zCa k2 j x d1;have b4:(Root.arr sz rows).get i j=some (.t t0):=(by simp[Root.get,F,k3]);obtain ⟨v,b2,c6⟩:=hr i j _ b4;rw[f1] at b2;refine⟨v,by simp only[Gh.frz,yav];exact b2,?_⟩
      cases c6 with
      | t _ _ ht=>exact (hfi i r0 j t0 x _ _ F k3 k4 ht).mono J.fz
     obtain ⟨vs,b1⟩:=zHx b8
     have:=IR.sl (fz:=(g.frz (g.rb n) cs).fz) sz is (g.rb n) 0 cap vs (by rw[G];exact hl) (fun i r a6=>by
      obtain ⟨r0,F,k2⟩:=zCa hi i r a6
      rw[zBs k2];exact f4 i r0 F) (fun i r j x h1 h2=>(b1 i r j x h1 h2).1) (fun i r j x h1 h2=>(b1 i r j x h1 h2).2)
     rw[G] at this;exact .im _ _ this
def boxI:B→Option I
 | .t (.im i)=>some i
 | _=>none
theorem Rel.frzBox (h:Rel en g S H a w){n:Nat}{cells:List B}{row:List I}(hn:H n=some (.box cells))(hpl:∀b',en.g0.own b'≠some (n,[]))(hi:mapO boxI cells=some row):
 ∃g',g.le g'∧g'.used=g.used∧Rel en g' S (upd H n none) a w∧∀sz off v,CV g (.ptr n sz 0 off) v→CV g' (.iptr row off) v:=by
 obtain ⟨hu,hR⟩:=h.roots n _ hn
 cases hR with
 | mk _ cs e hh ho hf hr=>
  have Z:∀o,g.fz (g.rb n) o=none:=fun o=>by
   cases hz:g.fz (g.rb n) o with
   | none=>rfl
   | some v=>have:=(h.fz _ _ _ hz).2;rw[ho] at this;cases this
  have F:g.le (g.frz (g.rb n) cs):=⟨fun _ h=>h,fun _ _=>rfl,fun _ _=>rfl,fun _ _=>rfl,fun b o v E=>by
   simp only[Gh.frz]
   split
   ·rename_i e;rw[e,Z] at E;cases E
   ·exact E⟩
  have a6:∀o v,cs[o]?=some v→w.cell? ⟨g.rb n,o,none⟩=some v:=fun o v E=>by simp[World.cell?,hh,E]
  refine⟨g.frz (g.rb n) cs,F,rfl,⟨⟨h.fr.laid,h.fr.os,h.fr.tape,h.fr.output,h.fr.size,h.fr.gle.trans F,fun b hb b5=>?_,fun b k hb=>?_,fun b o v hb E=>?_⟩,h.df,fun b x hx=>?_,fun b o v E=>?_,fun t d ht=>?_,fun k r1 J=>?_,fun k r1 b J hb=>?_⟩,fun sz off v E=>?_⟩
  ·obtain ⟨h1,h2⟩:=h.fr.old b hb b5;refine⟨?_,h2⟩;simp only[Gh.frz,upd];split
   ·rfl
   ·exact h1
  ·obtain ⟨k0,G,c1,c2,e1,V,k3,k4⟩:=h.fr.place b k hb;refine⟨k0,?_,c1,c2,e1,V,k3,k4⟩;simp only[Gh.frz,upd];split
   ·rename_i U;rw[U,ho] at G;injection G with G;injection G with G _;exact absurd (G▸hb) (hpl b)
   ·exact G
  ·simp only[Gh.frz] at E;split at E
   ·rename_i U
    cases b4:en.g0.own b with
    | none=>have:=(h.fr.old b hb b4).1;rw[U,ho] at this;cases this
    | some x=>exact .inr (by simp)
   ·exact h.fr.fzn b o v hb E
  ·simp only[Gh.frz,upd] at hx;split at hx
   ·cases hx
   ·exact h.lt b x hx
  ·simp only[Gh.frz] at E;split at E
   ·rename_i U;subst U;exact⟨a6 o v E,by simp[Gh.frz,upd]⟩
   ·rename_i U;obtain ⟨h1,h2⟩:=h.fz b o v E;exact⟨h1,by simp only[Gh.frz,upd];rw[if_neg U];exact h2⟩
  ·obtain ⟨v,E,hd⟩:=h.slots t d ht;exact⟨v,E,hd.mono F⟩
  ·unfold upd at J;split at J
   ·cases J
   ·rename_i U;obtain ⟨b0,b6⟩:=h.roots k r1 J;refine⟨b0,b6.keep b0 F (fun b p hb=>⟨?_,rfl⟩)⟩;simp only[Gh.frz,upd];split
    ·rename_i e2;rw[e2,ho] at hb;injection hb with hb;injection hb with hb _;exact absurd hb.symm U
    ·exact hb
  ·unfold upd at J;split at J
   ·cases J
   ·exact h.wd k r1 b J hb
  ·cases E with
   | ptr _ _ _ _ _=>
    simp only[Nat.zero_mul,yal]
    have a7:∀(j:Nat) (x:I),row[j]?=some x→∃v,cs[g.base n+j]?=some v∧IR (g.frz (g.rb n) cs).fz x v:=fun j x hj=>by
     obtain ⟨y,G,V⟩:=zCa hi j x hj
     have ey:y=.t (.im x):=by
      unfold boxI at V;split at V
      ·injection V with V;rw[V]
      ·cases V
     subst ey;obtain ⟨v,a8,b2⟩:=hr 0 j _ (by simpa[Root.get] using G);simp only[Nat.zero_mul,yal] at a8;refine⟨v,a8,?_⟩
     cases b2 with
     | t _ _ ht=>cases ht with|im _ _ _ hir=>exact hir.mono F.fz
    refine .iptr row off (g.rb n) (g.base n) (fun j=>(cs[g.base n+j]?).getD (.bool false)) (fun j x hj=>?_) (fun j x hj=>?_)
    ·obtain ⟨v,h1,_⟩:=a7 j x hj;simp only[Gh.frz,yav,h1,yaU]
    ·obtain ⟨v,h1,h2⟩:=a7 j x hj;simp only[h1,yaU];exact h2
theorem Rel.frz (h:Rel en g S H a w){n sz:Nat}{rows:List (List T)}{is:List (List I)}(hn:H n=some (.arr sz rows))(hi:mapO (mapO imT) rows=some is):
 ∃g',g.le g'∧g'.used=g.used∧Rel en g' S (upd H n none) a w∧∀v,CV g (.view n sz 0 rows.length) v→CV g' (.im (.sl sz is)) v:=
 h.frzF hn hi (fun i r j t x q v _ _ E F=>by
  cases t<;>simp[imT] at E
  subst E
  cases F with|im _ _ _ hir=>exact hir)
def imTN (H:Nat→Option Root):T→Option I
 | .im i=>some i
 | .lent m sz len=>match H m with
  | some (.arr sz' rs)=>if sz'=sz∧rs.length=len then match mapO (mapO imT) rs with
   | some is=>some (.sl sz is)
   | none=>none
   else none
  | _=>none
 | _=>none
def lentsT:List (List T)→List Nat:=fun rows=>rows.flatMap fun r=>r.flatMap fun t=>match t with
 | .lent n _ _=>[n]
 | _=>[]
def nones (ms:List Nat):List (Nat×Option Root):=ms.map fun m=>(m,none)
theorem zRi {ms:List Nat}{H:Nat→Option Root}{n:Nat}:apH (nones ms) H n=if n∈ms then none else H n:=by
 induction ms with
 | nil=>rfl
 | cons m ms ih=>
  simp only[nones,List.map_cons,apH,upd] at ih ⊢;by_cases e:n=m
  ·subst e;simp
  ·rw[if_neg e,ih];simp[e]
theorem zXy1 {H':Nat→Option Root}(V:∀n r,H n=some r→H' n=some r)(h:Rel en g S H' a w):∀(ms:List Nat),(∀m∈ms,∃sz rows is,H m=some (.arr sz rows)∧mapO (mapO imT) rows=some is)→
 ∃g',g.le g'∧g'.used=g.used∧Rel en g' S (apH (nones ms) H') a w∧∀m∈ms,∀sz rows is,H m=some (.arr sz rows)→mapO (mapO imT) rows=some is→∀v,CV g (.view m sz 0 rows.length) v→CV g' (.im (.sl sz is)) v
 | [],_=>⟨g,Gh.le.refl g,rfl,h,fun m V=>by cases V⟩
 | m::ms,hall=>by
  obtain ⟨g1,k1,k2,k3,k4⟩:=zXy1 V h ms (fun x hx=>hall x (.tail _ hx));by_cases E:m∈ms
  ·refine⟨g1,k1,k2,k3.less (fun _ _ h=>h) (fun n r U=>?_),fun x hx=>?_⟩
   ·rw[zRi] at U ⊢;split at U
    ·cases U
    ·rename_i e;rw[if_neg (show ¬n∈ms from fun e'=>e (List.mem_cons_of_mem _ e'))];exact U
   ·rcases List.mem_cons.1 hx with rfl|hx
    ·exact k4 _ E
    ·exact k4 _ hx
  ·obtain ⟨sz,rows,is,q1,q2⟩:=hall m (.head _);have b0:apH (nones ms) H' m=some (.arr sz rows):=(by rw[zRi,if_neg E];exact V _ _ q1);obtain ⟨g2,p1,p2,p3,p4⟩:=k3.frz b0 q2;refine⟨g2,k1.trans p1,p2.trans k2,?_,fun x hx Z F a8 J G v hv=>?_⟩
   ·have:apH (nones (m::ms)) H'=upd (apH (nones ms) H') m none:=(by simp only[nones,List.map_cons,apH]);rw[this];exact p3
   ·rcases List.mem_cons.1 hx with rfl|hx
    ·rw[q1] at J;injection J with J;injection J with e3 e4;subst e3;subst e4;rw[q2] at G;injection G with G;subst G;exact p4 v (hv.mono k1)
    ·exact (k4 x hx Z F a8 J G v hv).mono p1
def frzD (sc:Bool)(H:Nat→Option Root):D→D×List (Nat×Option Root)
 | .c (.view n sz lo len)=>if sc=true then (.c (.view n sz lo len),[]) else match lo,H n with
  | 0,some (.arr sz' rows)=>if sz'=sz∧rows.length=len then match mapO (mapO imT) rows with
   | some is=>(.c (.im (.sl sz is)),[(n,none)])
   | none=>match mapO (mapO (imTN H)) rows with
    | some is=>if n∈lentsT rows then (.c (.view n sz 0 len),[]) else (.c (.im (.sl sz is)),(n,none)::nones (lentsT rows))
    | none=>(.c (.view n sz 0 len),[])
   else (.c (.view n sz 0 len),[])
  | lo',_=>(.c (.view n sz lo' len),[])
 | d=>(d,[])
def frzL (sc:Bool)(H:Nat→Option Root):List D→List (Nat×Option Root)→List D×List (Nat×Option Root)
 | [],ws=>([],ws)
 | d::ds,ws=>((frzD sc (apH ws H) d).1::(frzL sc H ds ((frzD sc (apH ws H) d).2++ws)).1,(frzL sc H ds ((frzD sc (apH ws H) d).2++ws)).2)
theorem zSv1 (sc:Bool){H':Nat→Option Root}(hm:∀n r,H n=some r→H' n=some r)(h:Rel en g S H' a w)(d:D):
 ∃g',g.le g'∧g'.used=g.used∧(∀n r,apH (frzD sc H d).2 H n=some r→apH (frzD sc H d).2 H' n=some r)∧Rel en g' S (apH (frzD sc H d).2 H') a w∧∀v,DV g d v→DV g' (frzD sc H d).1 v:=by
 have same:∃g',g.le g'∧g'.used=g.used∧(∀n r,apH [] H n=some r→apH [] H' n=some r)∧Rel en g' S (apH [] H') a w∧∀v,DV g d v→DV g' d v:=⟨g,Gh.le.refl g,rfl,hm,h,fun _ h=>h⟩;unfold frzD;split
 ·rename_i n sz lo len;split
  ·exact same
  ·split
   ·rename_i c1 rows hr;split
    ·rename_i hc;obtain ⟨rfl,rfl⟩:=hc;split
     ·rename_i is U;obtain ⟨g',k1,k2,k3,k4⟩:=h.frz (hm _ _ hr) U;refine⟨g',k1,k2,fun k r G=>?_,k3,fun v hv=>?_⟩
      ·simp only[apH,upd] at G ⊢;split at G
       ·cases G
       ·rename_i e;rw[if_neg e];exact hm k r G
      ·cases hv with|c _ _ hc=>exact .c _ _ (k4 v hc)
     ·split
      ·rename_i is U;split
       ·exact same
       ·rename_i d1
        have b6:∀m∈lentsT rows,∃sz rows is,H m=some (.arr sz rows)∧mapO (mapO imT) rows=some is:=fun m F=>by
         simp only[lentsT,List.mem_flatMap] at F;obtain ⟨r0,d0,t,ht,b2⟩:=F;obtain ⟨i,hi⟩:=List.getElem?_of_mem d0;obtain ⟨j,hj⟩:=List.getElem?_of_mem ht;have d5:i<is.length:=(by rw[zBs U];exact (List.getElem?_eq_some_iff.1 hi).1);obtain ⟨r1,e1,e2⟩:=zCa U i _ (List.getElem?_eq_getElem d5);rw[hi] at e1;injection e1 with e1;subst e1;have d4:j<is[i].length:=(by rw[zBs e2];exact (List.getElem?_eq_some_iff.1 hj).1);obtain ⟨t1,e3,e4⟩:=zCa e2 j _ (List.getElem?_eq_getElem d4);rw[hj] at e3;injection e3 with e3;subst e3
         cases t with
         | lent m0 sz0 len0=>
          simp only[yaz] at b2;subst b2;simp only[imTN] at e4;split at e4
          ·rename_i V Z b1;split at e4
           ·split at e4
            ·rename_i b0 J;exact⟨V,Z,b0,b1,J⟩
            ·cases e4
           ·cases e4
          ·cases e4
         | _=>simp at b2
        obtain ⟨g1,k1,k2,k3,k4⟩:=zXy1 hm h (lentsT rows) b6;have d2:apH (nones (lentsT rows)) H' n=some (.arr c1 rows):=by rw[zRi,if_neg d1];exact hm _ _ hr
        obtain ⟨g2,p1,p2,p3,p4⟩:=k3.frzF d2 U (fun i r j t x q v b3 d3 E hv=>by
         cases t with
         | im y=>
          simp only[imTN,yaC] at E
          subst E
          cases hv with|im _ _ _ b3=>exact b3
         | lent m0 sz0 len0=>
          have F:m0∈lentsT rows:=by
           simp only[lentsT,List.mem_flatMap]
           exact⟨r,List.mem_of_getElem? b3,_,List.mem_of_getElem? d3,by simp⟩
          simp only[imTN] at E
          split at E
          ·rename_i V Z b1
           split at E
           ·rename_i d6
            obtain ⟨rfl,rfl⟩:=d6
            split at E
            ·rename_i b0 J
             injection E with E
             subst E
             cases hv with
             | lent _ _ _ _ _ hv=>
              generalize hL:Z.length=L at hv
              have c8:CV g (.view m0 V 0 L) v:=by
               cases hv with
               | view0 _ _ _ A hu'=>exact .view0 _ _ _ A (by rw[←k2];exact hu')
               | view _ _ _ _ cap hu' hb hl hc=>
                have a7:g.used m0:=by rw[←k2];exact hu'
                rw[k1.base m0 a7] at hb
                rw[k1.rc m0 a7] at hc
                rw[k1.rb m0 a7]
                exact .view _ _ _ _ cap a7 hb hl hc
              subst hL
              cases k4 m0 F V Z b0 b1 J v c8 with|im _ _ hi=>exact hi
            ·cases E
           ·cases E
          ·cases E
         | _=>simp[imTN] at E)
        refine⟨g2,k1.trans p1,p2.trans k2,fun k r G=>?_,p3,fun v hv=>?_⟩
        ·simp only[apH,upd] at G ⊢;split at G
         ·cases G
         ·rename_i e;rw[if_neg e];rw[zRi] at G ⊢;split at G
          ·cases G
          ·rename_i e2;rw[if_neg e2];exact hm k r G
        ·cases hv with|c _ _ hc=>exact .c _ _ (p4 v (hc.mono k1))
      ·exact same
    ·exact same
   ·exact same
 ·exact same
theorem zCw1 (sc:Bool){H':Nat→Option Root}{vs:List Value}:∀(ds:List D) (ws:List (Nat×Option Root)) (g:Gh) (k:Nat),(∀n r,apH ws H n=some r→apH ws H' n=some r)→Rel en g S (apH ws H') a w→
 (∀(t:Nat) (d:D) (v:Value),ds[t]?=some d→vs[k+t]?=some v→DV g d v)→
 ∃g',g.le g'∧g'.used=g.used∧(∀n r,apH (frzL sc H ds ws).2 H n=some r→apH (frzL sc H ds ws).2 H' n=some r)∧Rel en g' S (apH (frzL sc H ds ws).2 H') a w∧
  (frzL sc H ds ws).1.length=ds.length∧∀(t:Nat) (d:D) (v:Value),(frzL sc H ds ws).1[t]?=some d→vs[k+t]?=some v→DV g' d v
 | [],ws,g,k,hm,h,hd=>⟨g,Gh.le.refl g,rfl,hm,h,rfl,fun t d v h=>by simp[frzL] at h⟩
 | d::ds,ws,g,k,hm,h,hd=>by
  obtain ⟨g1,a1,a2,a3,a4,a5⟩:=zSv1 (H:=apH ws H) (H':=apH ws H') sc hm h d;have U:apH (frzD sc (apH ws H) d).2 (apH ws H)=apH ((frzD sc (apH ws H) d).2++ws) H:=by rw[zAc1]
  have G:apH (frzD sc (apH ws H) d).2 (apH ws H')=apH ((frzD sc (apH ws H) d).2++ws) H':=by rw[zAc1]
  rw[U,G] at a3;rw[G] at a4;obtain ⟨g2,J,b2,b3,b4,Z,V⟩:=zCw1 sc (vs:=vs) ds ((frzD sc (apH ws H) d).2++ws) g1 (k+1) a3 a4 (fun t d' v E F=>(hd (t+1) d' v (by simpa using E) (by rw[show k+(t+1)=k+1+t by omega];exact F)).mono a1);refine⟨g2,a1.trans J,b2.trans a2,b3,b4,by simp[frzL,Z],fun t d' v E F=>?_⟩
  cases t with
  | zero=>
   simp[frzL] at E;subst E;exact (a5 v (hd 0 d v rfl F)).mono J
  | succ t=>
   simp[frzL] at E;exact V t d' v E (by rw[show k+1+t=k+(t+1) by omega];exact F)
def lentCs (n i:Nat):List B→Nat→List (Nat×Nat×Nat)
 | [],_=>[]
 | .t (.lent _ _ _)::cs,j=>(n,i,j)::lentCs n i cs (j+1)
 | _::cs,j=>lentCs n i cs (j+1)
def lentPs (H:Nat→Option Root):List Plc→List (Nat×Nat×Nat)
 | []=>[]
 | p::ex=>match plCells H p with
  | some c=>lentCs p.n p.i c 0++lentPs H ex
  | none=>lentPs H ex
def preW (H:Nat→Option Root):List (Nat×Nat×Nat)→List (Nat×Option Root)→List (Nat×Option Root)
 | [],ws=>ws
 | (n,i,j)::l,ws=>match apH ws H n with
  | some r=>match r.get i j with
   | some (.t (.lent m sz len))=>match apH ws H m with
    | some (.arr sz' rows)=>if sz'=sz∧rows.length=len∧m≠n then preW H l ((n,some (r.setT i j (.own sz rows)))::(m,none)::ws) else ws
    | _=>ws
   | _=>ws
  | none=>ws
theorem zCh1 {H':Nat→Option Root}:∀(l:List (Nat×Nat×Nat)) (ws:List (Nat×Option Root)) (g:Gh),(∀n r,apH ws H n=some r→apH ws H' n=some r)→Rel en g S (apH ws H') a w→
 ∃g',g.le g'∧g'.used=g.used∧(∀n r,apH (preW H l ws) H n=some r→apH (preW H l ws) H' n=some r)∧Rel en g' S (apH (preW H l ws) H') a w
 | [],ws,g,hm,h=>⟨g,Gh.le.refl g,rfl,hm,h⟩
 | (n,i,j)::l,ws,g,hm,h=>by
  simp only[preW];split
  ·rename_i r hr;split
   ·rename_i m sz len hc;split
    ·rename_i F rows G;split
     ·rename_i U;obtain ⟨rfl,rfl,J⟩:=U;have h1:=h.fold (hm n r hr) (hm m _ G) J hc
      obtain ⟨g',k1,k2,Z,V⟩:=zCh1 l ((n,some (r.setT i j (.own F rows)))::(m,none)::ws) (g.into m n [(i,j)]) (fun k r E=>by
       simp only[apH,upd] at E ⊢
       split at E
       ·rename_i e;rw[if_pos e];exact E
       ·rename_i e
        rw[if_neg e]
        split at E
        ·cases E
        ·rename_i e2;rw[if_neg e2];exact hm k r E) h1
      exact⟨g',(Gh.into_le g m n _).trans k1,k2,Z,V⟩
     ·exact⟨g,Gh.le.refl g,rfl,hm,h⟩
    ·exact⟨g,Gh.le.refl g,rfl,hm,h⟩
   ·exact⟨g,Gh.le.refl g,rfl,hm,h⟩
  ·exact⟨g,Gh.le.refl g,rfl,hm,h⟩
def isTail (S:Nat→Option D)(s:Operand):Bool:=match evC S s with
 | some (.view _ _ 0 _)=>false
 | some (.view _ _ _ _)=>true
 | _=>false
structure ApT where
 sz:Nat
 bytes:Nat
 lo:Nat
 len:Nat
 ra:List (List T)
 rb:List (List T)
 n:Nat
def appendT (P:Program)(t:TypeId)(S:Nat→Option D)(H:Nat→Option Root)(s x:Operand):Option ApT:=
 match tel P t with
 | some e=>match tsz P e,tby P e,tzr P e with
  | some sz,some bytes,some zc=>if zc.length=sz∧0<sz∧0<bytes then match srcRows S H x sz with
   | some src=>match evC S s with
    | some (.view n sz' lo len)=>if sz'=sz then match H n with
     | some (.arr sz2 rows)=>if sz2=sz∧rows.length=lo+len∧(mapO (mapO imT) rows).isSome=true then some ⟨sz,bytes,lo,len+src.length,rows.drop lo++src,rows++src,n⟩ else none
     | _=>none
     else none
    | _=>none
   | none=>none
   else none
  | _,_,_=>none
 | none=>none
theorem zDi2 {rows:List (List T)}(h:(mapO (mapO imT) rows).isSome=true){i:Nat}{r:List T}{j:Nat}{x:T}(hr:rows[i]?=some r)(hx:r[j]?=some x):∃y,x=.im y:=by
 obtain ⟨is,E⟩:=Option.isSome_iff_exists.1 h;have U:i<is.length:=by rw[zBs E];exact (List.getElem?_eq_some_iff.1 hr).1
 obtain ⟨r1,G,V⟩:=zCa E i _ (List.getElem?_eq_getElem U);rw[hr] at G;injection G with G;subst G;have J:j<is[i].length:=by rw[zBs V];exact (List.getElem?_eq_some_iff.1 hx).1
 obtain ⟨t1,F,Z⟩:=zCa V j _ (List.getElem?_eq_getElem J);rw[hx] at F;injection F with F;subst F
 cases x with
 | im y=>exact⟨y,rfl⟩
 | _=>simp[imT] at Z
theorem zHe1 (h:Rel en g S H a w){t ty:TypeId}{s x:Operand}{nm:Nat}{p:ApT}(hd:appendT P t S H s x=some p)(hnm:¬g.used nm)(hb:p.rb.length*p.bytes≤140737488355328):
 ∃v w',(Builtin.append_ #[t,t] ty #[a.eval s,a.eval x]).run P w=.ok v w'∧∃g',g.le g'∧(∀m,g'.used m→m=nm∨g.used m)∧
  ((Rel en g' S (upd (upd H p.n none) nm (some (.arr p.sz p.ra))) a w'∧CV g' (.view nm p.sz 0 p.len) v)∨(Rel en g' S (upd (upd H p.n none) nm (some (.arr p.sz p.rb))) a w'∧CV g' (.view nm p.sz p.lo p.len) v)):=by
 unfold appendT at hd;split at hd
 ·rename_i e ht;split at hd
  ·rename_i F b9 zc h6 j6 g7;split at hd
   ·rename_i hc;obtain ⟨g8,Z,f6⟩:=hc;split at hd
    ·rename_i src e4;have he:=elT ht h6 j6 g7 g8;obtain ⟨A,c,news,hx,hS⟩:=zPq h Z e4
     have hz:∀k,(Builtin.zeroCells (((P.info? e).bind (·.zero)).getD undef).cells k).size=k*F:=fun k=>by
      obtain ⟨i,z,hi,_,_,g6,e1⟩:=he.info;simp[hi,g6,size_zeroCells,e1]
     split at hd
     ·rename_i n k4 lo len e2;split at hd
      ·rename_i c6;rw[c6] at e2;clear c6;split at hd
       ·rename_i k3 G hn;split at hd
        ·rename_i j4;obtain ⟨d0,c8,f4⟩:=j4;rw[d0] at hn;clear d0;injection hd with hd;subst hd;simp only at hb ⊢
         have d1:∀b',en.g0.own b'≠some (n,[]):=fun b' j8=>by
          obtain ⟨c0,j5,_⟩:=h.wd n _ b' hn j8
          cases j5
         have U:=zCg h e2;obtain ⟨hu,hR⟩:=h.roots n _ hn;have b1:(G.drop lo).length=len:=(by rw[List.length_drop];omega);have j2:(G.drop lo++src).length=len+src.length:=(by rw[List.length_append,b1]);have d6:(len+src.length)*b9≤140737488355328:=Nat.le_trans (Nat.mul_le_mul_right _ (by rw[List.length_append];omega)) hb
         have b6:∀(A':Option Addr),a.eval s=.slice A' 0 0→len=0→
          ∃v w',(Builtin.append_ #[t,t] ty #[a.eval s,a.eval x]).run P w=.ok v w'∧∃g',g.le g'∧(∀m,g'.used m→m=nm∨g.used m)∧(Rel en g' S (upd (upd H n none) nm (some (.arr F (G.drop lo++src)))) a w'∧CV g' (.view nm F 0 (len+src.length)) v):=by
          intro A' a7 b7;have j3:G.drop lo=[]:=List.eq_nil_of_length_eq_zero (by omega);rw[j3,b7,List.nil_append,Nat.zero_add];rcases Nat.eq_zero_or_pos src.length with hk|hk
          ·have h8:src=[]:=List.eq_nil_of_length_eq_zero hk;subst h8;obtain ⟨g',h1,h2,h3,h4⟩:=h.new0 hnm Z n;exact⟨_,w,by rw[a7,hx];exact zLz he A' A 0 0 c (Nat.le_refl _) w,g',h1,h3,h4,.view0 nm F 0 A' h2⟩
          ·rcases hS.at_ with h0|⟨b,o,rfl,b5⟩
           ·omega
           ·obtain ⟨cap',d5,a8⟩:=zFp (ty:=ty) (B:=A') (len:=0) (cap:=0) (olds:=[]) he w (by simp) (.inl rfl) (fun _=>rfl) hk hS.len b5 (by omega) f6 (by rw[Nat.zero_add];rw[b7,Nat.zero_add] at d6;exact d6)
            have hG:=zKt (ty:=ty) h he Z hnm d1 hS (rows:=[]) (olds:=[]) (fun i r hr=>by simp at hr) (by simp) (fun i r j x hr=>by simp at hr) (cap':=cap') (by simpa using d5)
             (Builtin.zeroCells (((P.info? e).bind (·.zero)).getD undef).cells (cap'- ([].length+src.length))) (by rw[hz])
            simp only[List.length_nil,Nat.zero_add,List.nil_append] at hG a8;obtain ⟨g',q1,q2,q3,q4⟩:=hG;exact⟨_,_,by rw[a7,hx];exact a8,g',q1,q2,q3,q4⟩
         have b3:(∃v w',(Builtin.append_ #[t,t] ty #[a.eval s,a.eval x]).run P w=.ok v w'∧∃g',g.le g'∧(∀m,g'.used m→m=nm∨g.used m)∧(Rel en g' S (upd (upd H n none) nm (some (.arr F (G.drop lo++src)))) a w'∧CV g' (.view nm F 0 (len+src.length)) v))→
          ∃v w',(Builtin.append_ #[t,t] ty #[a.eval s,a.eval x]).run P w=.ok v w'∧∃g',g.le g'∧(∀m,g'.used m→m=nm∨g.used m)∧
           ((Rel en g' S (upd (upd H n none) nm (some (.arr F (G.drop lo++src)))) a w'∧CV g' (.view nm F 0 (len+src.length)) v)∨(Rel en g' S (upd (upd H n none) nm (some (.arr F (G++src)))) a w'∧CV g' (.view nm F lo (len+src.length)) v)):=
          fun ⟨v,w',h1,g',h2,h3,h4⟩=>⟨v,w',h1,g',h2,h3,.inl h4⟩
         generalize a7:a.eval s=u at U
         cases U with
         | view0 _ _ _ A' hu'=>
          have:=b3 (b6 A' a7 rfl);rw[a7] at this;exact this
         | view _ _ _ _ cap hu' hbase hl hc'=>
          cases hR with
          | arr0 _ hs' h0=>
           have b7:len=0:=(by simp at b1;omega)
           have d4:cap=0:=by
            rcases Nat.eq_zero_or_pos cap with h1|h1
            ·exact h1
            ·have:=Nat.mul_pos (show 0<lo+cap by omega) Z;omega
           subst d4;subst b7;have:=b3 (b6 _ a7 rfl);rw[a7] at this;exact this
          | mk _ cs e' hh hon hf hr=>
           obtain ⟨f5,f3,h7,a6⟩:=hf;by_cases b4:len+src.length≤cap
           ·have f2:G.length*F+0+news.length≤cs.size:=by
             rw[hS.len,Nat.add_zero,←Nat.add_mul,f3];exact Nat.le_trans (Nat.mul_le_mul_right _ (by omega)) hc'
            have e5:∀v∈news,v.oneCell'=true:=fun v U=>by
             obtain ⟨p,hp,rfl⟩:=List.mem_iff_getElem.1 U;rw[hS.len] at hp;have hi:p / F<src.length:=Nat.div_lt_of_lt_mul (by rw[Nat.mul_comm];exact hp);have hj:p%F<F:=Nat.mod_lt _ Z;have h1:=hS.row _ _ (List.getElem?_eq_getElem hi);obtain ⟨v,U,h5⟩:=hS.val (p / F) _ (p%F) _ (List.getElem?_eq_getElem hi) (List.getElem?_eq_getElem (show p%F<(src[p / F]).length by omega));rw[Nat.mul_comm,Nat.div_add_mod] at U;rw[(List.getElem?_eq_some_iff.1 U).2];exact h5.one
            have e3:=zCe P (g.rb n) (G.length*F) e' news 0 cs w hh f2 e5;rw[Nat.add_zero] at e3;obtain ⟨i,z,hi,j0,k9,k7,e1⟩:=he.info
            have j1:(Builtin.firstCells F src.length (.slice A src.length c)).run P w=.ok news.toArray w:=by
             rcases hS.at_ with h0|⟨b,o,rfl,b5⟩
             ·have i1:news=[]:=List.eq_nil_of_length_eq_zero (by rw[hS.len,h0,Nat.zero_mul]);subst i1;rw[h0]
              cases A<;>simp[Builtin.firstCells,loadCells,loadCellsFrom]
             ·exact run_firstCells_some (P:=P) w F src.length ⟨b,o,none⟩ src.length c news hS.len (fun j v U=>by rw[zCw];exact b5 j v U)
            have e6:lo*F+len*F=G.length*F:=(by rw[←Nat.add_mul,c8]);obtain ⟨g',q1,q2,q3,q4⟩:=zEm1 h Z hnm d1 hS hh hon ⟨f5,f3,h7,a6⟩ hr (cap:=lo+cap) (by omega) hc';refine⟨.slice (some ⟨g.rb n,lo*F,none⟩) (len+src.length) cap,w.setRow (g.rb n) (setsA cs (G.length*F) news),?_,g',q1,q2,.inr ⟨q3,?_⟩⟩
            ·rw[hx];simp[Builtin.append_,run_underlying he.under,sizeOf,typeInfo,hi,j0,Builtin.lenOf,b4,j1,zCw,e6,e3]
            ·generalize hL:(G++src).length=L at q4;generalize hE:(Value.slice (some ⟨g.rb n,0,none⟩) (G.length+src.length) (lo+cap))=E at q4
             cases q4 with
             | view0 _ _ _ A9 hu9=>
              injection hE with b2 j9 f8;have f0:len+src.length=0:=(by omega);have b8:cap=0:=(by omega);rw[f0,b8];exact .view0 _ _ _ _ hu9
             | view _ _ _ _ cap9 hu9 hb99 f0 b8=>
              injection hE with b2 j9 f8;injection b2 with b2;injection b2 with b2 _ _;rw[b2];refine .view _ _ _ _ _ hu9 hb99 b4 ?_;rw[Nat.zero_add,←f8] at b8;exact b8
           ·have d3:∀p,p<G.length*F→∃v,cs[p]?=some v:=fun p hp=>⟨_,Array.getElem?_eq_getElem (by omega)⟩;obtain ⟨J,e9,e7⟩:=zAb1 d3;have hk:0<src.length:=(by omega);rcases hS.at_ with h0|⟨b,o,rfl,b5⟩
            ·omega
            ·have i8:G.length*F=lo*F+len*F:=(by rw[←Nat.add_mul,c8]);have d2:(J.drop (lo*F)).length=len*F:=(by rw[List.length_drop,e9];omega);have e8:∀p,p<len*F→(J.drop (lo*F))[p]?=cs[lo*F+p]?:=(fun p hp=>by rw[List.getElem?_drop];exact e7 _ (by omega))
             have k0:At w (g.rb n) (lo*F) (J.drop (lo*F)):=fun j v U=>by
              have hj:j<len*F:=(by rw[←d2];exact (List.getElem?_eq_some_iff.1 U).1);rw[e8 j hj] at U;rw[cell_of_row w _ _ cs e' _ hh];exact U
             obtain ⟨cap',d5,a8⟩:=zFp (ty:=ty) (B:=some ⟨g.rb n,lo*F,none⟩) (len:=len) (cap:=cap) (olds:=J.drop (lo*F)) he w d2 (.inr ⟨_,_,rfl,k0⟩) (fun h9=>by cases h9) hk hS.len b5 (by omega) f6 d6
             have hG:=zKt (ty:=ty) h he Z hnm d1 hS (rows:=G.drop lo) (olds:=J.drop (lo*F)) (fun i r V=>by rw[List.getElem?_drop] at V;exact a6 _ r V) (by rw[b1];exact d2) (fun i r j y V hy=>by
              rw[List.getElem?_drop] at V
              obtain ⟨z9,rfl⟩:=zDi2 f4 V hy
              obtain ⟨v,U,j7⟩:=hr (lo+i) j (.t (.im z9)) (by simp[Root.get,V,hy])
              rw[f5,Nat.zero_add] at U
              simp only[Root.sz] at U
              have k6:j<F:=by rw[←a6 _ r V];exact (List.getElem?_eq_some_iff.1 hy).1
              have k8:lo+i<G.length:=(List.getElem?_eq_some_iff.1 V).1
              have i7:i*F+j<len*F:=by
               have h2:=Nat.mul_le_mul_right F (show i+1≤len by omega)
               rw[Nat.add_mul] at h2;omega
              refine⟨v,by rw[e8 _ i7,←U];congr 1;rw[Nat.add_mul];omega,?_⟩
              cases j7 with|t _ _ h=>cases h with|im _ _ _ hi=>exact .im _ _ _ hi) (cap':=cap') (by rw[b1];exact d5)
              (Builtin.zeroCells (((P.info? e).bind (·.zero)).getD undef).cells (cap'- (len+src.length))) (by rw[b1];exact hz _)
             rw[b1] at hG;obtain ⟨g',q1,q2,q3,q4⟩:=hG;rw[j2] at q4;exact⟨_,_,by rw[hx];exact a8,g',q1,q2,.inl ⟨q3,q4⟩⟩
        ·cases hd
       ·cases hd
      ·cases hd
     ·cases hd
    ·cases hd
   ·cases hd
  ·cases hd
 ·cases hd
theorem zLe1 {H':Nat→Option Root}(hH:∀n r,H n=some r→H' n=some r){t:TypeId}{s x:Operand}{z:ApT}(h:appendT P t S H s x=some z):appendT P t S H' s x=some z:=by
 unfold appendT at h ⊢;split at h
 ·split at h
  ·split at h
   ·rename_i hc;split at h
    ·rename_i src E;have h1:=zTl hH E;split at h
     ·split at h
      ·rename_i F;split at h
       ·rename_i hr;simp only[hc,h1,F,hH _ _ hr,yav,and_self];exact h
       ·cases h
      ·cases h
     ·cases h
    ·cases h
   ·cases h
  ·cases h
 ·cases h
theorem zZc1 {S':Nat→Option D} {H':Nat→Option Root} {N nm:Nat} {Q:Exit→Act→World→Prop} {o:Oper} (h:Rel en g S' H' a w) (hN:a.tmps.size=N) (hS:∀t d,S t=some d→S' t=some d) (hH:∀n r,H n=some r→H' n=some r)
 {s x:Operand} {t:TypeId} (hop:o.op=.call {callee:=.builtin .append,args:=#[s,x],argTypes:=#[t,t]}) {p:ApT} (hp:appendT P t S H s x=some p) (hb:p.rb.length*p.bytes≤140737488355328)
 (hnm:∀m,g.used m→¬(nm≤m∧m<nm+1)) (hdst:∀t,o.dst=some t→t<N):
 o.wp P a w (fun F w'=>∃g',(∀m,g'.used m→g.used m∨(nm≤m∧m<nm+1))∧
  ((Rel en g' (apS o.dst (some (.c (.view nm p.sz 0 p.len))) S') (apH [(nm,some (.arr p.sz p.ra)),(p.n,none)] H') F w'∧F.tmps.size=N)∨(Rel en g' (apS o.dst (some (.c (.view nm p.sz p.lo p.len))) S') (apH [(nm,some (.arr p.sz p.rb)),(p.n,none)] H') F w'∧F.tmps.size=N))) Q:=by
 subst hN;have E:Rel en g S H' a w:=h.less hS (fun _ _ h=>h)
 have back:∀{g':Gh} {Hn:Nat→Option Root} {w':World},g.le g'→Rel en g' S Hn a w'→Rel en g' S' Hn a w':=fun G hr=>hr.moreS (fun t d ht=>by
  obtain ⟨v,V,hd⟩:=h.slots t d ht;exact⟨v,V,hd.mono G⟩)
 obtain ⟨v,w',h1,g',h2,h3,h4⟩:=zHe1 (ty:=o.type) E (zLe1 hH hp) (fun Z=>hnm nm Z ⟨Nat.le_refl _,by omega⟩) hb;have U:(execOp a.eval o).run P w=.ok (.value v) w':=by simp[execOp,hop,resolve,invoke,builtin,h1]
 simp only[Oper.wp,U,Oper.upon];refine⟨g',fun m hm=>(h3 m hm).elim (fun e=>.inr (by omega)) .inl,?_⟩;rcases h4 with ⟨h4,J⟩|⟨h4,J⟩
 ·exact .inl ⟨(back h2 h4).putD hdst (.c _ _ J),zDc _ _ _⟩
 ·exact .inr ⟨(back h2 h4).putD hdst (.c _ _ J),zDc _ _ _⟩
def srtZ (zs:List Int):List Int:=zs.mergeSort fun x y=>decide (x≤y)
def SortLaw (P:Program)(f:FuncId):Prop:=
 (∃ fn : Func, P.funcs[f]? = some fn ∧ (fn.name == "runtime.NumGoroutine") = false ∧ fn.body.isNone = false) ∧
 (∀(p:Option Addr) (cap:Nat) (w:World),Calls P f #[.slice p 0 cap] w fun e w'=>e=.returned (.tuple #[])∧w'=w)∧
 ∀(b:Nat) (cs:Array Value) (e:TypeId) (cap:Nat) (zs:List Int) (w:World),w.heap[b]?=some (.cells cs e (0,0))→zs.length≤cs.size→zs.length≤16777216→(∀(i:Nat) (z:Int),zs[i]?=some z→cs[i]?=some (Value.int .i64 z))→
  Calls P f #[.slice (some ⟨b,0,none⟩) zs.length cap] w fun e w'=>e=.returned (.tuple #[])∧
   w'.os=w.os∧w'.tape=w.tape∧w'.output=w.output∧∃os,w'.heap=(w.setRow b (setsA cs 0 ((srtZ zs).map (Value.int .i64)))).heap++os
def intT:List T→Option Int
 | [.im (.int .i64 z)]=>some z
 | _=>none
def intsT (rows:List (List T)):Option (List Int):=mapO intT rows
def srtR (rows:List (List T)):Option (List (List T)):=match intsT rows with
 | some zs=>some ((srtZ zs).map fun z=>[T.im (.int .i64 z)])
 | none=>none
def sortH (S:Nat→Option D)(H:Nat→Option Root)(caps:List C)(args:List Operand):Option (Nat×Root):=
 match caps,args with
 | [],[x]=>match evC S x with
  | some (.view n sz lo len)=>match H n with
   | some (.arr sz' rows)=>if sz=1∧sz'=1∧lo=0∧rows.length=len∧len≤16777216 then match srtR rows with
    | some rows'=>some (n,.arr 1 rows')
    | none=>none
    else none
   | _=>none
  | _=>none
 | _,_=>none
theorem zDc2 {rows:List (List T)}{zs:List Int}(h:intsT rows=some zs)(i:Nat)(z:Int)(hz:zs[i]?=some z):rows[i]?=some [.im (.int .i64 z)]:=by
 obtain ⟨x,h1,h2⟩:=zCa h i z hz;unfold intT at h2;split at h2
 ·injection h2 with h2;subst h2;exact h1
 ·cases h2
theorem zNo (zs:List Int):(srtZ zs).length=zs.length:=List.length_mergeSort ..
theorem Rel.grow (h:Rel en g S H a w){w':World}{os:Array Obj}(h1:w'.heap=w.heap++os)(h2:w'.os=w.os)(h3:w'.tape=w.tape)(h4:w'.output=w.output):Rel en g S H a w':=by
 have E:∀b,b<w.heap.size→w'.heap[b]?=w.heap[b]?:=fun b hb=>by rw[h1,Array.getElem?_append_left hb]
 have J:∀b x,w.heap[b]?=some x→b<w.heap.size:=fun b x hx=>(Array.getElem?_eq_some_iff.1 hx).1;refine⟨⟨h.fr.laid,h2.trans h.fr.os,h3.trans h.fr.tape,h4.trans h.fr.output,by rw[h1];simp;have:=h.fr.size;omega,h.fr.gle,fun b hb ho=>?_,fun b n ho=>?_,h.fr.fzn⟩,h.df,fun b x hx=>by rw[h1];simp;have:=h.lt b x hx;omega,fun b o v hv=>?_,h.slots,fun n r hn=>?_,h.wd⟩
 ·obtain ⟨F,G⟩:=h.fr.old b hb ho;exact⟨F,by rw[E b (by have:=h.fr.size;omega)];exact G⟩
 ·obtain ⟨k0,F,c1,c2,e1,G,U,k4⟩:=h.fr.place b n ho;exact⟨k0,F,c1,c2,e1,G,by rw[E b (J _ _ U)];exact U,k4⟩
 ·obtain ⟨F,G⟩:=h.fz b o v hv;refine⟨?_,G⟩
  cases hb:w.heap[b]? with
  | none=>simp[World.cell?,hb] at F
  | some x=>
   have:w'.heap[b]?=w.heap[b]?:=E b (J _ _ hb);simp only[World.cell?,this] at F ⊢;exact F
 ·obtain ⟨V,hr⟩:=h.roots n r hn;exact⟨V,hr.keep V (Gh.le.refl g) (fun b p Z=>⟨Z,E b (h.lt b _ Z)⟩)⟩
theorem zQo1 {S':Nat→Option D} {H':Nat→Option Root} {N:Nat} {Q:Exit→Act→World→Prop} {o:Oper} (h:Rel en g S' H' a w) (hN:a.tmps.size=N) (hS:∀t d,S t=some d→S' t=some d) (hH:∀n r,H n=some r→H' n=some r)
 {f:Operand} {args:Array Operand} {ts:Array TypeId} {k:FuncId} {caps:List C} (hop:o.op=.call {callee:=.value f,args:=args,argTypes:=ts}) (hf:evC S f=some (.fn (.func k) caps)) (hL:SortLaw P k)
 {n:Nat} {r:Root} (hs:sortH S H caps args.toList=some (n,r)) (hdst:∀t,o.dst=some t→t<N):
 o.wp P a w (fun a' w'=>Rel en g (apS o.dst (some (.tup [])) S') (apH [(n,some r)] H') a' w'∧a'.tmps.size=N) Q:=by
 subst hN;have G:Rel en g S H a w:=h.less hS hH;unfold sortH at hs;split at hs
 ·rename_i x b2;split at hs
  ·rename_i m sz lo len hx;split at hs
   ·rename_i d9 rows hr;split at hs
    ·rename_i hc;obtain ⟨rfl,rfl,rfl,J,e9⟩:=hc;split at hs
     ·rename_i b8 F;simp only[yaC,Prod.mk.injEq] at hs;obtain ⟨rfl,rfl⟩:=hs;have ha:args=#[x]:=(by rw[←Array.toList_inj];simpa using b2);subst ha;have b5:=zCg G hf;generalize d1:a.eval f=u at b5
      cases b5 with
      | fn _ _ vs hvs hvr=>
       have c7:vs=#[]:=Array.eq_empty_of_size_eq_zero hvs;subst c7
       have d5:(execOp a.eval o).run P w=.ok (.enter k #[a.eval x]) w:=by
        simp[execOp,hop,resolve,d1,Deferred.ofValue,invoke];exact zDi1 hL.1 _ w
       simp only[Oper.wp,d5,Oper.upon];unfold srtR at F;split at F
       ·rename_i zs hz;injection F with F;subst F;have V:zs.length=rows.length:=zBs hz;have a7:=zCg G hx;generalize a.eval x=u at a7
        have b0:rows.length=0→Rel en g S' (upd H' m (some (.arr 1 ((srtZ zs).map fun z=>[T.im (.int .i64 z)])))) a w:=fun h0=>by
         have e1:rows=[]:=List.eq_nil_of_length_eq_zero h0;have e0:zs=[]:=List.eq_nil_of_length_eq_zero (by omega)
         have e2:upd H' m (some (.arr 1 ((srtZ zs).map fun z=>[T.im (.int .i64 z)])))=H':=by
          funext k;unfold upd;split
          ·rename_i e;subst e;rw[hH _ _ hr,e1,e0];simp[srtZ]
          ·rfl
         rw[e2];exact h
        have fin:∀{w':World},Rel en g S' (upd H' m (some (.arr 1 ((srtZ zs).map fun z=>[T.im (.int .i64 z)])))) a w'→Rel en g (apS o.dst (some (.tup [])) S') (apH [(m,some (.arr 1 ((srtZ zs).map fun z=>[T.im (.int .i64 z)])))] H') (a.put o.dst (.tuple #[])) w'∧(a.put o.dst (.tuple #[])).tmps.size=a.tmps.size:=fun hR=>
         ⟨hR.putD hdst (.tup _ _ rfl (fun j x v hx=>by simp at hx)),zDc _ _ _⟩
        by_cases h0:len=0
        ·subst h0
         have b3:∀(p:Option Addr) (c:Nat),Calls P k #[.slice p 0 c] w (fun x b7=>match x,b7 with
          | .returned v,w''=>Rel en g (apS o.dst (some (.tup [])) S') (apH [(m,some (.arr 1 ((srtZ zs).map fun z=>[T.im (.int .i64 z)])))] H') (a.put o.dst v) w''∧(a.put o.dst v).tmps.size=a.tmps.size
          | .panicked chain,w''=>Q (Exit.panic chain) a w''
          | .outgrown,x=>LetsOut Q):=fun p c=>
          (hL.2.1 p c w).mono (fun e w' ⟨he,hw⟩=>by subst he;subst hw;exact fin (b0 J))
         cases a7 with
         | view0=>exact b3 _ _
         | view=>exact b3 _ _
        ·obtain ⟨hu,hR⟩:=h.roots m _ (hH _ _ hr)
         cases hR with
         | arr0=>simp at J;omega
         | mk _ A e' hh ho hfm hrr=>
          obtain ⟨f1,f2,f3,f4⟩:=hfm
          cases a7 with
          | view0=>omega
          | view _ _ _ _ cap _ hbase hl hc=>
           have a6:∀(i:Nat) (z:Int),zs[i]?=some z→A[i]?=some (Value.int .i64 z):=fun i z c1=>by
            have h1:=zDc2 hz i z c1;obtain ⟨v,a8,c6⟩:=hrr i 0 (.t (.im (.int .i64 z))) (by simp[Root.get,h1]);rw[hbase] at a8;simp only[Root.sz,Nat.zero_add,Nat.mul_one,yal] at a8
            cases c6 with
            | t _ _ ht=>cases ht with|im _ _ _ hi=>cases hi;exact a8
           have b6:zs.length≤A.size:=(by rw[f2,V];omega);have U:=hL.2.2 (g.rb m) A e' cap zs w hh b6 (by omega) a6;rw[V,J] at U;rw[Nat.zero_mul];refine U.mono (fun e w' ⟨he,k1,k2,k3,os,k4⟩=>?_);subst he;have d0:((srtZ zs).map (Value.int .i64)).length=rows.length:=(by simp[zNo,V])
           have d3:Rel en g S' (upd H' m (some (.arr 1 ((srtZ zs).map fun z=>[T.im (.int .i64 z)])))) a (w.setRow (g.rb m) (setsA A 0 ((srtZ zs).map (Value.int .i64)))):=by
            refine h.store (hH _ _ hr) hh ho (zGb _ _ _) (fun b hb o f0=>?_) ?_ (fun b hb=>?_)
            ·obtain ⟨c0,b1,_⟩:=h.wd m _ b (hH _ _ hr) hb
             cases b1
            ·refine .mk _ (setsA A 0 ((srtZ zs).map (Value.int .i64))) e' (setRow_heap w _ A _ e' _ hh) ho ⟨f1,by rw[zGb];exact f2,by simp only[List.length_map,zNo,V];exact f3,fun i r b4=>?_⟩ (fun i' j' x' E=>?_)
             ·rw[List.getElem?_map,Option.map_eq_some_iff] at b4;obtain ⟨z,_,rfl⟩:=b4;rfl
             ·simp only[Root.get,List.getElem?_map] at E
              cases Z:(srtZ zs)[i']? with
              | none=>simp[Z] at E
              | some z=>
               simp only[Z,yak] at E
               cases j' with
               | succ j=>simp at E
               | zero=>
                simp only[List.getElem?_cons_zero,yak,yaC] at E;subst E;have c8:i'< ((srtZ zs).map (Value.int .i64)).length:=(by rw[List.length_map];exact (List.getElem?_eq_some_iff.1 Z).1);refine⟨.int .i64 z,?_,.t _ _ (.im _ _ _ (.int _ _))⟩;rw[hbase];simp only[Root.sz,Nat.zero_add,Nat.mul_one,yal];have:=zPt ((srtZ zs).map (Value.int .i64)) A 0 i' (by rw[List.length_map,zNo];omega) c8;rw[Nat.zero_add] at this;rw[this,List.getElem?_map,Z];rfl
            ·obtain ⟨c0,b1,_⟩:=h.wd m _ b (hH _ _ hr) hb
             cases b1
           exact fin (d3.grow k4 k1 k2 k3)
       ·cases F
     ·cases hs
    ·cases hs
   ·cases hs
  ·cases hs
 ·cases hs
def Env (P : Program) (Φ : FuncId → Option Ct) : Prop := ∀ f ct, Φ f = some ct → (Good P f ct ∧ ∃ fn : Func, P.funcs[f]? = some fn ∧ (fn.name == "runtime.NumGoroutine") = false ∧ fn.body.isNone = false) ∨ ExtLaw P f ct
theorem zTe1 {Φ:FuncId→Option Ct} (hΦ:Env P Φ) {S':Nat→Option D} {N nm:Nat} {Q:Exit→Act→World→Prop} {o:Oper} (h:Rel en g S' H' a w) (hN:a.tmps.size=N) (hS:∀t d,S t=some d→S' t=some d) (hH:∀n r,H n=some r→H' n=some r)
 {f:Operand} {args:Array Operand} {ts:Array TypeId} {k:FuncId} {caps:List C} {ct:Ct} {ds ds':List D} {hs:List (List B)} {os:Outs} (hop:o.op=.call {callee:=.value f,args:=args,argTypes:=ts}) (hf:evC S f=some (.fn (.func k) caps)) (hk:Φ k=some ct)
 {ds0:List D} {fw:List (Nat×Option Root)} (hd:evDs S args.toList=some ds0) (hfz:frzL ct.sc H ds0 []=(ds,fw)) {ws:List (Nat×Option Root)} (hws:ws=preW H (lentPs H (exDs (ds++caps.map D.c))) fw) (hpl:PlOk (apH ws H) (exDs (ds++caps.map D.c)) hs) (hlo:mapO (loD (exDs (ds++caps.map D.c)) (if ct.sc then apH ws H else fun _=>none)) (ds++caps.map D.c)=some ds') (hrun:ct.run ds' hs=some os) (hdst:∀t,o.dst=some t→t<N):
 o.wp P a w (fun a' w'=>∃res,os.mem res∧∀d,reD (fun n=>nm+n) res.val=some d→(∀m,g.used m→¬(nm≤m∧m<nm+res.roots.length))→
  ∃g',(∀m,g'.used m→g.used m∨(nm≤m∧m<nm+res.roots.length))∧Rel en g' (apS o.dst (some d) S') (apH (addR nm res.roots++(addP (apH ws H) (exDs (ds++caps.map D.c)) res.places++ws)) H') a' w'∧a'.tmps.size=N) Q:=by
 subst hN;have b2:=zCz1 (h.less hS hH) hd;obtain ⟨g8,d6,e8,d2,h8,d7,e3⟩:=zCw1 (H:=H) (H':=H') ct.sc (vs:=args.toList.map a.eval) ds0 [] g 0 hH h (fun t d v G F=>b2.2 t d v G (by rw[Nat.zero_add] at F;exact F));rw[hfz] at d2 h8 d7 e3;obtain ⟨g9,U,c6,a6,h9⟩:=zCh1 (H:=H) (H':=H') (lentPs H (exDs (ds++caps.map D.c))) fw g8 d2 h8;have f5:g.le g9:=d6.trans U;have b3:g9.used=g.used:=c6.trans e8;have V:ds.length=args.toList.length:=d7.trans b2.1;have f2:∀(t:Nat) (d:D) (v:Value),ds[t]?=some d→(args.toList.map a.eval)[t]?=some v→DV g9 d v:=fun t d v G F=>(e3 t d v G (by rw[Nat.zero_add];exact F)).mono U;rw[←hws] at a6 h9;have e7:Rel en g S H a w:=h.less hS hH;have b5:∀{g':Gh} {res:Res},(∀m,g'.used m→g9.used m∨(nm≤m∧m<nm+res.roots.length))→(∀m,g'.used m→g.used m∨(nm≤m∧m<nm+res.roots.length)):=fun h m hm=>by rw[←b3];exact h m hm
 have b4:Rel en g9 S (apH ws H) a w:=h9.less hS a6;have b1:Rel en g9 S (apH ws H') a w:=h9.less hS (fun _ _ h=>h)
 have back:∀{g':Gh} {Hn:Nat→Option Root} {w':World},g9.le g'→Rel en g' S Hn a w'→Rel en g' S' Hn a w':=fun f0 hr=>hr.moreS (fun t d G=>by
  obtain ⟨v,F,hd⟩:=h9.slots t d G;exact⟨v,F,hd.mono f0⟩)
 have d9:=zCg b4 hf;generalize e0:a.eval f=u at d9
 cases d9 with
 | fn _ _ vs hvs hvr=>
  have E:∀(t:Nat) (d:D) (v:Value),(ds++caps.map D.c)[t]?=some d→(args.toList.map a.eval++vs.toList)[t]?=some v→DV g9 d v:=fun t d v G F=>by
   by_cases d4:t<ds.length
   ·rw[List.getElem?_append_left d4] at G;rw[List.getElem?_append_left (by simp[←V];exact d4)] at F;exact f2 t d v G F
   ·rw[List.getElem?_append_right (by omega)] at G;rw[List.getElem?_append_right (by simp[←V];omega)] at F;rw[List.getElem?_map,Option.map_eq_some_iff] at G;obtain ⟨c,hc,rfl⟩:=G;rw[show (List.map a.eval args.toList).length=ds.length by simp[V]] at F;exact .c _ _ (hvr _ c v hc (by simpa using F))
  have Z:(args.toList.map a.eval++vs.toList).toArray=args.map a.eval++vs:=by rw[←Array.toList_inj];simp
  rcases hΦ k ct hk with ⟨hG,e2⟩|hX
  ·have e4:=zDx2 b1 (nm:=nm) hG (zZh1 a6 hpl) (br:=ct.sc) (fun h=>h) (ds:=ds++caps.map D.c) (args:=args.toList.map a.eval++vs.toList) (by simp[V,hvs]) E
    (by
     cases a8:ct.sc with
     | true=>rw[a8] at hlo;simp only[yav] at hlo ⊢;exact zEs (fun x y=>zCh2 a6 x y) hlo
     | false=>rw[a8] at hlo;simpa using hlo) hrun
   rw[Z] at e4;have c1:(execOp a.eval o).run P w=.ok (.enter k (args.map a.eval++vs)) w:=(by simp[execOp,hop,resolve,e0,Deferred.ofValue,invoke,zDi1 e2]);simp only[Oper.wp,c1,Oper.upon];refine e4.mono fun e w' ⟨v,he,res,hm,b7⟩=>?_;subst he;refine⟨res,hm,fun d b0 c8=>?_⟩;obtain ⟨g',k1,k2,k3,k4⟩:=b7 d b0 (by rw[b3];exact c8);refine⟨g',b5 k2,?_,zDc _ _ _⟩
   have e5:addP (apH ws H) (exDs (ds++caps.map D.c)) res.places=addP (apH ws H') (exDs (ds++caps.map D.c)) res.places:=zAd1 _ _ (fun q hq=>by
    obtain ⟨k9,d8,rfl⟩:=List.mem_iff_getElem.1 hq
    have h9:(exDs (ds++caps.map D.c))[k9]?=some (exDs (ds++caps.map D.c))[k9]:=List.getElem?_eq_getElem d8
    have f1:k9<hs.length:=by rw[hpl.2.1];exact d8
    obtain ⟨r9,c7⟩:=zTr (hpl.2.2 k9 _ _ h9 (List.getElem?_eq_getElem f1)).1
    rw[c7,a6 _ _ c7])
   rw[e5,←List.append_assoc,zAc1,←zEa2];exact (back k1 k3).putD hdst k4
  ·obtain ⟨rfl,a8,b8⟩:=hX ds' hs os hrun;have e1:exDs (ds++caps.map D.c)=[]:=List.eq_nil_of_length_eq_zero hpl.2.1.symm;have d5:(args.toList.map a.eval++vs.toList).length=ds'.length:=by rw[zBs hlo];simp[V,hvs]
   obtain ⟨v,z,J,d1,f3⟩:=b8 g9.fz (args.toList.map a.eval++vs.toList) w d5 (fun t i v G F=>by
    obtain ⟨i',f4,e9⟩:=a8 _ (List.mem_of_getElem? G)
    cases f4
    obtain ⟨d0,h1,h2⟩:=zCa hlo t _ G
    have:=zLp2 h2 e9
    rcases this with this|this
    ·subst this
     have b6:=E t _ v h1 F
     cases b6 with|c _ _ hc=>cases hc with|im _ _ hh=>exact hh
    ·obtain ⟨n,sz,lo,rfl,rfl⟩:=this
     have b6:=E t _ v h1 F
     cases b6 with
     | c _ _ hc=>
      cases hc with
      | view0 _ _ _ A _=>exact .sl0 _ _ _
      | view _ _ _ _ cap _ _ _ _=>exact .sl0 _ _ _)
   rw[Z] at J;have c1:(execOp a.eval o).run P w=.ok (.value v) w:=(by simp[execOp,hop,resolve,e0,Deferred.ofValue,invoke,J]);simp only[Oper.wp,c1,Oper.upon];refine⟨_,d1,fun d b0 c8=>?_⟩;simp only[reD,reC,yaC] at b0;subst b0;rw[e1];exact⟨g9,fun m hm=>.inl (by rw[←b3];exact hm),h9.putD hdst (.c _ _ (.im _ _ f3)),zDc _ _ _⟩
theorem zTd1 {S':Nat→Option D} {N:Nat} {Q:Exit→Act→World→Prop} {o:Oper} (h:Rel en g S' H' a w) (hN:a.tmps.size=N) (hS:∀t d,S t=some d→S' t=some d) (hH:∀n r,H n=some r→H' n=some r)
 {s d:TypeId} {x:Operand} {b:Nat} {dd:TypeDesc} (hop:o.op=.convert s d x) (hx:evI S x=some (.flt .f64 b)) (hs:P.underlying s=some dd) (hd:P.underlying d=some (.float .f32)) (hc:fconv .f64 b .f32=none) (hdst:∀t,o.dst=some t→t<N):
 o.wp P a w (fun F w'=>∃n:Nat,n<4294967296∧Rel en g (apS o.dst (some (.c (.im (.flt .f32 n)))) S') H' F w'∧F.tmps.size=N) Q:=by
 subst hN;obtain ⟨y,G,hf⟩:=(zCd (h.less hS hH) hx).flt_inv;obtain ⟨r,w',h1,h2,h3⟩:=zAk1 (P:=P) (w:=w) hf hc;have E:(execOp a.eval o).run P w=.ok (.value (.float .f32 r)) w':=by simp[execOp,hop,G,convert,run_underlying hs,run_underlying hd,h1]
 simp only[Oper.wp,E,Oper.upon];exact⟨r,h3,(h.world h2.heap h2.os h2.tape h2.output).putD hdst (.c _ _ (.im _ _ (.flt _ _ _ (.inl rfl)))),zDc _ _ _⟩
end Go.SX
