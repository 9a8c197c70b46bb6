/-
  SX: the engine, parts K to T, in one text. Plain definitions and theorems over any program.
  No condition.
-/
import Derived.Calls
import Derived.Orders
import Derived.Tactics
import Derived.Scope
import Derived.Test.YtfmpjhjnpeheeaaGreatDoorPkA
set_option maxRecDepth 100000
set_option maxHeartbeats 16000000
set_option linter.unusedVariables false
set_option linter.unusedSimpArgs false
namespace Go.SX
open Go Go.RowKit
variable {en : En} {g : Gh} {S : Nat → Option D} {H : Nat → Option Root} {a : Act} {w : World} {P : Program}
def tby (P : Program) (t : TypeId) : Option Nat := match P.info? t with | some i => some i.bytes | none => none
theorem elT {t e : TypeId} {sz bytes : Nat} {zc : List C} (ht : tel P t = some e) (hs : tsz P e = some sz) (hb : tby P e = some bytes) (hz : tzr P e = some zc) (hl : zc.length = sz) : ElT P t e sz bytes := by
 refine ⟨zDi ht,?_⟩
 unfold tsz at hs
 unfold tby at hb
 unfold tzr at hz
 cases hi : P.info? e with
 | none => simp [hi] at hs
 | some i =>
   simp only [hi,yay] at hs hb hz
   cases hzz : i.zero with
   | none => simp [hzz] at hz
   | some z =>
     simp only [hzz] at hz
     have := (zDx (g := ⟨fun _ => False,fun _ => 0,fun _ => 0,fun _ => 0,fun _ => none,fun _ _ => none⟩) hz).1
     exact ⟨i,z,rfl,hs,hb,hzz,by rw [← hl,← this]; simp⟩
def appendH (P : Program) (t : TypeId) (S : Nat → Option D) (H : Nat → Option Root) (s x : Operand) : Option (Nat × Nat × List (List T) × Option Nat) :=
 match tel P t with
 | some e => match tsz P e,tby P e,tzr P e with
   | some sz,some bytes,some zc => if zc.length = sz ∧ 0 < sz ∧ 0 < bytes then match srcRows S H x sz with
       | some src => match evC S s with
         | some (.view n sz' 0 len) => if sz' = sz then match H n with
             | some (.arr sz2 rows) => if sz2 = sz ∧ rows.length = len then some (sz,bytes,rows ++ src,some n) else none
             | _ => none
           else none
         | some .nil => some (sz,bytes,src,none)
         | _ => none
       | none => none
     else none
   | _,_,_ => none
 | none => none
theorem zTu (h : Rel en g S H a w) {t ty : TypeId} {s x : Operand} {sz bytes nm : Nat} {rows : List (List T)} {on : Option Nat} (hd : appendH P t S H s x = some (sz,bytes,rows,on)) (hnm : ¬ g.used nm)
   (hb : rows.length * bytes ≤ 140737488355328) :
   ∃ v w',(Builtin.append_ #[t,t] ty #[a.eval s,a.eval x]).run P w = .ok v w' ∧ Grown en g nm S (match on with | some n => upd H n none | none => H) a w' sz rows v := by
 unfold appendH at hd
 split at hd
 · rename_i e ht
   split at hd
   · rename_i sz1 bytes1 zc hsz hby hzr
     split at hd
     · rename_i hc
       obtain ⟨hzl,hs0,hb0⟩ := hc
       split at hd
       · rename_i src hsrc
         have he := elT ht hsz hby hzr hzl
         obtain ⟨A,c,news,hx,hS⟩ := zJd h hs0 hsrc
         have hz : ∀ k,(Builtin.zeroCells (((P.info? e).bind (·.zero)).getD undef).cells k).size = k * sz1 := fun k => by
           obtain ⟨i,z,hi,_,_,hzz,hzs⟩ := he.info
           simp [hi,hzz,size_zeroCells,hzs]
         have hNone : ∀ (n : Nat) (A' : Option Addr),a.eval s = .slice A' 0 0 → rows = src → sz = sz1 → bytes = bytes1 → (∀ b',en.g0.own b' ≠ some (n,[])) →
             ∃ v w',(Builtin.append_ #[t,t] ty #[a.eval s,a.eval x]).run P w = .ok v w' ∧ Grown en g nm S (upd H n none) a w' sz rows v := by
           rintro n A' hev rfl rfl rfl hpl
           rcases Nat.eq_zero_or_pos rows.length with hk | hk
           · have hr0 : rows = [] := List.eq_nil_of_length_eq_zero hk
             subst hr0
             obtain ⟨g',h1,h2,h3,h4⟩ := h.new0 hnm hs0 n
             exact ⟨_,w,by rw [hev,hx]; exact zGy he A' A 0 0 c (Nat.le_refl _) w,g',h1,h3,h4,.view0 nm sz 0 A' h2⟩
           · rcases hS.at_ with h0 | ⟨b,o,rfl,hat⟩
             · omega
             · obtain ⟨cap',hc1,hrun⟩ := zDn (ty := ty) (B := A') (len := 0) (cap := 0) (olds := []) he w (by simp) (.inl rfl) (fun _ => rfl) hk hS.len hat (by omega) hb0 (by rw [Nat.zero_add]; exact hb)
               have hG := zMu (ty := ty) h he hs0 hnm hpl hS (rows := []) (olds := []) (fun i r hr => by simp at hr) (by simp) (fun i r j x hr => by simp at hr) (cap' := cap') (by simpa using hc1)
                 (Builtin.zeroCells (((P.info? e).bind (·.zero)).getD undef).cells (cap' - ([].length + rows.length))) (by rw [hz])
               simp only [List.length_nil,Nat.zero_add,yaC] at hG hrun
               exact ⟨_,_,by rw [hev,hx]; exact hrun,hG⟩
         split at hd
         · rename_i n sz' len hsv
           split at hd
           · rename_i hsz'
             rw [hsz'] at hsv
             clear hsz'
             split at hd
             · rename_i sz2 rows0 hn
               split at hd
               · rename_i hc2
                 obtain ⟨hc21,hc22⟩ := hc2
                 rw [hc21] at hn
                 rw [← hc22] at hsv
                 clear hc21 hc22
                 simp only [yay,Prod.mk.injEq] at hd
                 obtain ⟨rfl,rfl,rfl,rfl⟩ := hd
                 have hpl : ∀ b',en.g0.own b' ≠ some (n,[]) := fun b' hb' => by
                   obtain ⟨c0,hc0,_⟩ := h.wd n _ b' hn hb'
                   cases hc0
                 have hv := zBn h hsv
                 obtain ⟨hu,hR⟩ := h.roots n _ hn
                 have hlenr : (rows0 ++ src).length = rows0.length + src.length := by simp
                 generalize hlen : rows0.length = len0 at hv
                 generalize hev : a.eval s = u at hv
                 cases hv with
                 | view0 _ _ _ A' hu' =>
                   have hr0 : rows0 = [] := List.eq_nil_of_length_eq_zero hlen
                   subst hr0
                   have := hNone n A' hev rfl rfl rfl hpl
                   rw [hev] at this
                   exact this
                 | view _ _ _ _ cap hu' hbase hl hc' =>
                   subst hlen
                   rw [Nat.zero_mul] at hev ⊢
                   rw [Nat.zero_add] at hc'
                   cases hR with
                   | arr0 _ hs' h0 =>
                     have hcap0 : cap = 0 := by
                       rcases Nat.eq_zero_or_pos cap with h1 | h1
                       · exact h1
                       · have := Nat.mul_pos h1 hs0; omega
                     subst hcap0
                     have := hNone n _ hev rfl rfl rfl hpl
                     rw [hev] at this
                     exact this
                   | mk _ cs e' hh hon hf hr =>
                     obtain ⟨hb9,hcs,hrl,hrows⟩ := hf
                     by_cases hroom : rows0.length + src.length ≤ cap
                     ·
                       have hfit : rows0.length * sz1 + 0 + news.length ≤ cs.size := by
                         rw [hS.len,Nat.add_zero,← Nat.add_mul,hcs]
                         exact Nat.le_trans (Nat.mul_le_mul_right _ hroom) hc'
                       have hone : ∀ v ∈ news,v.oneCell' = true := fun v hv => by
                         obtain ⟨p,hp,rfl⟩ := List.mem_iff_getElem.1 hv
                         rw [hS.len] at hp
                         have hi : p / sz1 < src.length := Nat.div_lt_of_lt_mul (by rw [Nat.mul_comm]; exact hp)
                         have hj : p % sz1 < sz1 := Nat.mod_lt _ hs0
                         have h1 := hS.row _ _ (List.getElem?_eq_getElem hi)
                         obtain ⟨v,hv,htf⟩ := hS.val (p / sz1) _ (p % sz1) _ (List.getElem?_eq_getElem hi) (List.getElem?_eq_getElem (show p % sz1 < (src[p / sz1]).length by omega))
                         rw [Nat.mul_comm,Nat.div_add_mod] at hv
                         rw [(List.getElem?_eq_some_iff.1 hv).2]
                         exact htf.one
                       have hst := zBx P (g.rb n) (rows0.length * sz1) e' news 0 cs w hh hfit hone
                       rw [Nat.add_zero] at hst
                       obtain ⟨i,z,hi,his,hib,hiz,hzs⟩ := he.info
                       have hfc : (Builtin.firstCells sz1 src.length (.slice A src.length c)).run P w = .ok news.toArray w := by
                         rcases hS.at_ with h0 | ⟨b,o,rfl,hat⟩
                         · have hn0 : news = [] := List.eq_nil_of_length_eq_zero (by rw [hS.len,h0,Nat.zero_mul])
                           subst hn0
                           rw [h0]
                           cases A <;> simp [Builtin.firstCells,loadCells,loadCellsFrom]
                         · exact run_firstCells_some (P := P) w sz1 src.length ⟨b,o,none⟩ src.length c news hS.len (fun j v hv => by rw [zCk]; exact hat j v hv)
                       refine ⟨.slice (some ⟨g.rb n,0,none⟩) (rows0.length + src.length) cap,w.setRow (g.rb n) (setsA cs (rows0.length * sz1) news),?_,?_⟩
                       · rw [hx]
                         simp [Builtin.append_,run_underlying he.under,sizeOf,typeInfo,hi,his,Builtin.lenOf,hroom,hfc,zCk,hst]
                       · exact zZu h hs0 hnm hpl hS hh hon ⟨hb9,hcs,hrl,hrows⟩ hr hroom hc'
                     ·
                       have hcell : ∀ p,p < rows0.length * sz1 → ∃ v,cs[p]? = some v := fun p hp => ⟨_,Array.getElem?_eq_getElem (by omega)⟩
                       obtain ⟨olds,ho1,ho2⟩ := zTs hcell
                       have hk : 0 < src.length := by omega
                       rcases hS.at_ with h0 | ⟨b,o,rfl,hat⟩
                       · omega
                       · have hAt : At w (g.rb n) 0 olds := fun j v hv => by
                           have hj : j < rows0.length * sz1 := by rw [← ho1]; exact (List.getElem?_eq_some_iff.1 hv).1
                           rw [ho2 j hj] at hv
                           rw [cell_of_row w _ _ cs e' _ hh,Nat.zero_add]; exact hv
                         obtain ⟨cap',hc1,hrun⟩ := zDn (ty := ty) (B := some ⟨g.rb n,0,none⟩) (len := rows0.length) (cap := cap) (olds := olds) he w ho1 (.inr ⟨_,_,rfl,hAt⟩) (fun h9 => by cases h9) hk hS.len hat (by omega) hb0 (by rw [hlenr] at hb; exact hb)
                         have hG := zMu (ty := ty) h he hs0 hnm hpl hS (rows := rows0) (olds := olds) hrows ho1 (fun i r j y hr' hy => by
                             obtain ⟨v,hv,hbr⟩ := hr i j (.t y) (by simp [Root.get,hr',hy])
                             rw [hb9,Nat.zero_add] at hv
                             simp only [Root.sz] at hv
                             have hjs : j < sz1 := by rw [← hrows i r hr']; exact (List.getElem?_eq_some_iff.1 hy).1
                             have hil : i < rows0.length := (List.getElem?_eq_some_iff.1 hr').1
                             have hlt : i * sz1 + j < rows0.length * sz1 := by
                               have h2 := Nat.mul_le_mul_right sz1 (show i + 1 ≤ rows0.length by omega)
                               rw [Nat.add_mul] at h2; omega
                             exact ⟨v,by rw [ho2 _ hlt]; exact hv,by cases hbr with | t _ _ h => exact h⟩) (cap' := cap') hc1
                           (Builtin.zeroCells (((P.info? e).bind (·.zero)).getD undef).cells (cap' - (rows0.length + src.length))) (hz _)
                         exact ⟨_,_,by rw [hx]; exact hrun,hG⟩
               · cases hd
             · cases hd
           · cases hd
         · rename_i hsv
           simp only [yay,Prod.mk.injEq] at hd
           obtain ⟨rfl,rfl,rfl,rfl⟩ := hd
           have hv := zBn h hsv
           generalize hev : a.eval s = u at hv
           cases hv with
           | nil =>
             have hpl : ∀ b',en.g0.own b' ≠ some (nm,[]) := fun b' hb' => hnm (h.fr.gle.used nm (h.fr.place b' nm hb').1)
             obtain ⟨v,w',h1,g',h2,h3,h4,h5⟩ := hNone nm none hev rfl rfl rfl hpl
             rw [hev] at h1
             refine ⟨v,w',h1,g',h2,h3,h4.less (fun _ _ h => h) (fun k r hk => ?_),h5⟩
             unfold upd at hk ⊢
             by_cases e' : k = nm
             · rw [if_pos e'] at hk ⊢; exact hk
             · rw [if_neg e'] at hk ⊢; rw [if_neg e']; exact hk
         · cases hd
       · cases hd
     · cases hd
   · cases hd
 · cases hd
end Go.SX
namespace Go.SX
open Go Go.RowKit
variable {en : En} {g : Gh} {S : Nat → Option D} {H : Nat → Option Root} {a : Act} {w : World} {P : Program}
def mkOp (P : Program) (S : Nat → Option D) (o : Op) (nm : Nat) : Option (D × Root) :=
 match o with
 | .alloc t => match tzr P t with
   | some cs => some (.c (.ptr nm 0 0 0),.box (cs.map toB))
   | none => none
 | .box t x => match ev S x with
   | some d => match dCs d with
     | some cs => some (.c (.ptr nm 0 0 0),.box (cs.map toB))
     | none => none
   | none => none
 | .buildSlice t len parts => match tel P t with
   | some e => match tsz P e,tzr P e with
     | some sz,some zc => if zc.length = sz ∧ 0 < sz ∧ len * sz ≤ 16777216 then match rowsD sz S parts.toList (List.replicate len zc) with
         | some rows => match mapTs rows with
           | some ts => some (.c (.view nm sz 0 len),.arr sz ts)
           | none => none
         | none => none
       else none
     | _,_ => none
   | none => none
 | .makeSlice t l c => match tel P t with
   | some e => match tsz P e,tby P e,tzr P e with
     | some sz,some by_,some zc => match mapT zc with
       | some zt => if zc.length = sz ∧ 0 < sz then match evI S l,evI S c with
           | some (.int _ n),some (.int _ m) => if 0 ≤ n ∧ n ≤ m ∧ m ≤ 9223372036854775807 ∧ (by_ : Int) * m ≤ 281474976710656 then some (.c (.view nm sz 0 n.toNat),.arr sz (List.replicate n.toNat zt)) else none
           | _,_ => none
         else none
       | none => none
     | _,_,_ => none
   | none => none
 | _ => none
theorem zIt1 {e : TypeId} {sz by_ : Nat} {zc : List C} (hs : tsz P e = some sz) (hb : tby P e = some by_) (hz : tzr P e = some zc) :
   ∃ i z,P.info? e = some i ∧ i.size = sz ∧ i.bytes = by_ ∧ i.zero = some z ∧ mapCV z.cells.toList = some zc := by
 unfold tsz at hs
 unfold tby at hb
 unfold tzr at hz
 cases hi : P.info? e with
 | none => simp [hi] at hs
 | some i =>
   simp only [hi,yay] at hs hb hz
   cases hzz : i.zero with
   | none => simp [hzz] at hz
   | some z => simp only [hzz] at hz; exact ⟨i,z,rfl,hs,hb,hzz,hz⟩
theorem zZo {e : TypeId} {sz : Nat} {zc : List C} (hs : tsz P e = some sz) (hz : tzr P e = some zc) :
   ∃ i z,P.info? e = some i ∧ i.size = sz ∧ i.zero = some z ∧ mapCV z.cells.toList = some zc := by
 unfold tsz at hs
 unfold tzr at hz
 cases hi : P.info? e with
 | none => simp [hi] at hs
 | some i =>
   simp only [hi,yay] at hs hz
   cases hzz : i.zero with
   | none => simp [hzz] at hz
   | some z => simp only [hzz] at hz; exact ⟨i,z,rfl,hs,hzz,hz⟩
theorem zEx {zc : List C} {zt : List T} (h : mapT zc = some zt) : ∀ n,mapTs (List.replicate n zc) = some (List.replicate n zt)
 | 0 => rfl
 | n + 1 => by simp [List.replicate_succ,mapTs,h,zEx h n]
theorem zCl1 (h : Rel en g S H a w) {o : Oper} {nm : Nat} {d : D} {r : Root} (hnm : ¬ g.used nm) (hd : mkOp P S o.op nm = some (d,r)) :
   ∃ v w' g',(execOp a.eval o).run P w = .ok (.value v) w' ∧ Made en g g' nm S (upd H nm (some r)) a w' d v := by
 obtain ⟨dst,op,type,pos,after,guard⟩ := o
 simp only at hd
 unfold mkOp at hd
 split at hd
 · rename_i t
   split at hd
   · rename_i cs hz
     simp only [yay,Prod.mk.injEq] at hd
     obtain ⟨rfl,rfl⟩ := hd
     obtain ⟨z,hzr,hzc⟩ := zUc (g := g) hz
     refine ⟨_,_,_,?_,zFg1 h hnm hzc t⟩
     simp [execOp,Instr.alloc,hzr,newVar,newRow]
   · cases hd
 · rename_i t x
   split at hd
   · rename_i d0 he
     split at hd
     · rename_i cs hcs
       simp only [yay,Prod.mk.injEq] at hd
       obtain ⟨rfl,rfl⟩ := hd
       refine ⟨_,_,_,?_,zFg1 h hnm (zKa (zBg h he) hcs) t⟩
       simp [execOp,Instr.box,newVar,newRow]
     · cases hd
   · cases hd
 · rename_i t len parts
   split at hd
   · rename_i e ht
     split at hd
     · rename_i sz zc hsz hz
       split at hd
       · rename_i hc
         split at hd
         · rename_i rows hrows
           split at hd
           · rename_i ts hts
             simp only [yay,Prod.mk.injEq] at hd
             obtain ⟨rfl,rfl⟩ := hd
             obtain ⟨i,z,hi,his,hiz,hmc⟩ := zZo hsz hz
             have hzc : CVs g zc z.cells.toList := zDx hmc
             obtain ⟨hzl,hs0,hlim⟩ := hc
             have hF := zOv (g := g) hzc hzl hs0 len
             obtain ⟨A',h1,h2,h3⟩ := zOa h parts.toList _ _ _ hF hrows
             obtain ⟨k1,k2,k3⟩ := zHj1 h2 hts
             have hlen : ts.length = len := by rw [k1,h3]; simp
             have := zFh1 h hnm k2 k3 e len (by omega) (by rw [h2.1,h3]; simp)
             refine ⟨_,_,_,?_,by rw [hlen] at this; exact this⟩
             have e1 : (Array.map (fun (p : Nat × Operand) => (p.1,a.eval p.2)) parts).toList = parts.toList.map fun (p : Nat × Operand) => (p.1,a.eval p.2) := by simp
             have hnl : ¬ (2 ^ 24 < len * sz) := by omega
             by_cases hn : len * sz = 0
             · have hm : madeCells z.cells (len * sz) = #[] := by simp [hn,madeCells,Array.range_zero']
               rw [hm] at h1
               simp [execOp,Instr.buildSlice,run_underlying (zDi ht),zBy hsz,hn,newRow,Array.range_zero',h1]
             · have hm : (Array.range (len * sz)).map (z.cells[· % z.cells.size]!) = madeCells z.cells (len * sz) := rfl
               simp [execOp,Instr.buildSlice,run_underlying (zDi ht),zBy hsz,hn,hnl,newRow,zeroValue,typeInfo,hi,hiz,hm,h1]
           · cases hd
         · cases hd
       · cases hd
     · cases hd
   · cases hd
 · rename_i t l c
   split at hd
   · rename_i e ht
     split at hd
     · rename_i sz by_ zc hsz hby hz
       split at hd
       · rename_i zt hzt
         split at hd
         · rename_i hc
           split at hd
           · rename_i kl n kc m hl hm
             split at hd
             · rename_i hb
               simp only [yay,Prod.mk.injEq] at hd
               obtain ⟨rfl,rfl⟩ := hd
               obtain ⟨i,z,hi,his,hib,hiz,hmc⟩ := zIt1 hsz hby hz
               have hzc : CVs g zc z.cells.toList := zDx hmc
               obtain ⟨hzl,hs0⟩ := hc
               obtain ⟨hb1,hb2,hb3,hb4⟩ := hb
               have hF := zOv (g := g) hzc hzl hs0 m.toNat
               obtain ⟨k1,k2,k3⟩ := zHj1 hF (zEx hzt _)
               have hnm' : n.toNat ≤ m.toNat := by omega
               have hrep : ∀ (i : Nat) (r : List T),(List.replicate n.toNat zt)[i]? = some r → (List.replicate m.toNat zt)[i]? = some r := fun i r hr => by
                 rw [List.getElem?_replicate] at hr ⊢
                 split at hr
                 · rw [if_pos (by omega)]; exact hr
                 · cases hr
               have := zFh1 h hnm (rows := List.replicate n.toNat zt) (fun i r hr => k2 i r (hrep i r hr)) (fun i r j x hr hx => k3 i r j x (hrep i r hr) hx) e m.toNat (by simpa using hnm') (by rw [hF.1]; simp)
               rw [List.length_replicate] at this
               refine ⟨_,_,_,?_,this⟩
               have hrun := run_make (P := P) w t e i z (zDi ht) hi hiz kl kc n m hb1 hb2 (by rw [hib]; exact hb4) hb3
               rw [his] at hrun
               simp only [execOp,(zBj h hl).int_inv,(zBj h hm).int_inv,Sem.run_bind,hrun,Result.andThen_ok]
               rfl
             · cases hd
           · cases hd
         · cases hd
       · cases hd
     · cases hd
   · cases hd
 · cases hd
def clearH (P : Program) (t : TypeId) (S : Nat → Option D) (H : Nat → Option Root) (x : Operand) : Option (Nat × Root) :=
 match tel P t with
 | some e => match tsz P e,tzr P e with
   | some sz0,some zc => match mapT zc with
     | some zt => match evC S x with
       | some (.view n sz lo len) => match H n with
         | some (.arr sz' rows) => if (sz0 = sz ∧ sz' = sz ∧ zc.length = sz ∧ 0 < sz) ∧ lo = 0 ∧ rows.length = len then some (n,.arr sz (List.replicate len zt)) else none
         | _ => none
       | _ => none
     | none => none
   | _,_ => none
 | none => none
theorem zXl (h : Rel en g S H a w) {t ty : TypeId} {x : Operand} {n : Nat} {r' : Root} (hd : clearH P t S H x = some (n,r')) :
   ∃ w',(Builtin.clear_ #[t] ty #[a.eval x]).run P w = .ok (.tuple #[]) w' ∧ Rel en g S (upd H n (some r')) a w' := by
 unfold clearH at hd
 split at hd
 · rename_i e ht
   split at hd
   · rename_i sz0 zc hsz hz
     split at hd
     · rename_i zt hzt
       split at hd
       · rename_i m sz lo len hx
         split at hd
         · rename_i sz' rows hr
           split at hd
           · rename_i hc
             obtain ⟨⟨rfl,rfl,hzl,hs0⟩,rfl,hlen⟩ := hc
             simp only [yay,Prod.mk.injEq] at hd
             obtain ⟨rfl,rfl⟩ := hd
             obtain ⟨i,z,hi,his,hiz,hmc⟩ := zZo hsz hz
             have hzc : CVs g zc z.cells.toList := zDx hmc
             have hF := zOv (g := g) hzc hzl hs0 len
             obtain ⟨k1,k2,k3⟩ := zHj1 hF (zEx hzt len)
             have hp := zBn h hx
             generalize a.eval x = u at hp
             have hcells : (Builtin.zeroCells z.cells len) = madeCells z.cells (len * sz') := by
               have : z.cells.size = sz' := by rw [← hzl,← hzc.1]; simp
               unfold Builtin.zeroCells madeCells
               rw [this]
             have hsame : rows.length = 0 → Rel en g S (upd H m (some (.arr sz' (List.replicate len zt)))) a w := fun h0 => by
               have e1 : rows = [] := List.eq_nil_of_length_eq_zero h0
               have e2 : upd H m (some (.arr sz' (List.replicate len zt))) = H := by
                 funext k
                 unfold upd
                 split
                 · rename_i e; subst e; rw [hr,e1]; have : len = 0 := by omega
                   subst this; rfl
                 · rfl
               rw [e2]; exact h
             have hrun0 : ∀ (A : Option Addr) (c : Nat),(Builtin.clear_ #[t] ty #[.slice A 0 c]).run P w = .ok (.tuple #[]) w := fun A c => by
               cases A <;> simp [Builtin.clear_,run_underlying (zDi ht)] <;> rfl
             by_cases h0 : len = 0
             · subst h0
               cases hp with
               | view0 => exact ⟨w,hrun0 _ _,hsame hlen⟩
               | view => exact ⟨w,hrun0 _ _,hsame hlen⟩
             · obtain ⟨hu,hR⟩ := h.roots m _ hr
               cases hR with
               | arr0 => simp at hlen; omega
               | mk _ A e' hh ho hf hrr =>
                 obtain ⟨f1,f2,f3,f4⟩ := hf
                 cases hp with
                 | view0 => omega
                 | view _ _ _ _ cap _ hbase hl hc =>
                   have hvl : (Builtin.zeroCells z.cells len).toList.length = len * sz' := by rw [hcells]; simp [size_madeCells]
                   have hone : ∀ v ∈ (Builtin.zeroCells z.cells len).toList,v.oneCell' = true := fun v hv => by
                     obtain ⟨q,hq,rfl⟩ := List.mem_iff_getElem.1 hv
                     rw [hvl] at hq
                     have hq1 : q / sz' < len := Nat.div_lt_of_lt_mul (by rw [Nat.mul_comm]; exact hq)
                     have hq2 : q % sz' < zt.length := by rw [(zSd hzt).1,hzl]; exact Nat.mod_lt _ hs0
                     obtain ⟨v',hv1,hv2⟩ := k3 (q / sz') zt (q % sz') zt[q % sz'] (by rw [List.getElem?_replicate,if_pos hq1]) (List.getElem?_eq_getElem hq2)
                     rw [show q / sz' * sz' + q % sz' = q by rw [Nat.mul_comm]; exact Nat.div_add_mod q sz'] at hv1
                     rw [← hcells] at hv1
                     have : (Builtin.zeroCells z.cells len)[q]? = some (Builtin.zeroCells z.cells len).toList[q] := by simp
                     rw [this] at hv1
                     injection hv1 with hv1
                     rw [hv1]; exact hv2.one
                   have hfit : g.base m + (Builtin.zeroCells z.cells len).toList.length ≤ A.size := by
                     rw [hvl]
                     have := f3
                     subst hlen
                     omega
                   have hrun := zBx P (g.rb m) (g.base m) e' (Builtin.zeroCells z.cells len).toList 0 A w hh (by simpa using hfit) hone
                   rw [Nat.add_zero] at hrun
                   refine ⟨w.setRow (g.rb m) (setsA A (g.base m) (Builtin.zeroCells z.cells len).toList),?_,h.store hr hh ho (zDv _ _ _) (fun b hb o ho' => ?_) ?_ (fun b hb => ?_)⟩
                   · cases len with
                     | zero => exact absurd rfl h0
                     | succ len =>
                       simp only [Nat.zero_mul] at *
                       simp [Builtin.clear_,run_underlying (zDi ht),zeroValue,typeInfo,hi,hiz]
                       rw [hbase] at hrun
                       rw [hrun,hbase]; rfl
                   · obtain ⟨c0,hc0,_⟩ := h.wd m _ b hr hb
                     cases hc0
                   · refine .mk _ (setsA A (g.base m) (Builtin.zeroCells z.cells len).toList) e' (setRow_heap w _ A _ e' _ hh) ho ?_ (fun i' j' x' hx' => ?_)
                     · exact ⟨f1,by rw [zDv]; exact f2,by rw [List.length_replicate,← hlen]; exact f3,k2⟩
                     · simp only [Root.get] at hx'
                       cases hg : (List.replicate len zt)[i']? with
                       | none => simp [hg] at hx'
                       | some r0 =>
                         simp only [hg,Option.map_eq_some_iff] at hx'
                         obtain ⟨y,hy,rfl⟩ := hx'
                         obtain ⟨v,hv1,hv2⟩ := k3 i' r0 j' y hg hy
                         rw [← hcells] at hv1
                         have hlt : i' * sz' + j' < (Builtin.zeroCells z.cells len).toList.length := by
                           have := (Array.getElem?_eq_some_iff.1 hv1).1; simpa using this
                         refine ⟨v,?_,.t _ _ (hv2.tr _ _ _)⟩
                         show (setsA A (g.base m) (Builtin.zeroCells z.cells len).toList)[g.base m + i' * sz' + j']? = some v
                         rw [Nat.add_assoc,zMm _ _ _ _ hfit hlt]
                         simpa using hv1
                   · obtain ⟨c0,hc0,_⟩ := h.wd m _ b hr hb
                     cases hc0
           · cases hd
         · cases hd
       · cases hd
     · cases hd
   · cases hd
 · cases hd
end Go.SX
namespace Go.SX
open Go Go.RowKit
variable {en : En} {g : Gh} {S : Nat → Option D} {H : Nat → Option Root} {a : Act} {w : World} {P : Program}
def mapO {α β : Type} (f : α → Option β) : List α → Option (List β)
 | [] => some []
 | x :: xs => match f x with
   | some y => match mapO f xs with
     | some ys => some (y :: ys)
     | none => none
   | none => none
theorem zBi {α β : Type} {f : α → Option β} : ∀ {xs : List α} {ys : List β},mapO f xs = some ys → ys.length = xs.length
 | [],ys,h => by simp only [mapO,yay] at h; subst h; rfl
 | x :: xs,ys,h => by
   simp only [mapO] at h
   split at h
   · split at h
     · rename_i ys' hys; injection h with h; subst h; simp [zBi hys]
     · cases h
   · cases h
theorem zBl {α β : Type} {f : α → Option β} : ∀ {xs : List α} {ys : List β},mapO f xs = some ys → ∀ (j : Nat) (y : β),ys[j]? = some y → ∃ x,xs[j]? = some x ∧ f x = some y
 | [],ys,h,j,y,hy => by simp only [mapO,yay] at h; subst h; simp at hy
 | x :: xs,ys,h,j,y,hy => by
   simp only [mapO] at h
   split at h
   · rename_i y0 h0
     split at h
     · rename_i ys' hys
       injection h with h
       subst h
       cases j with
       | zero => simp at hy; subst hy; exact ⟨x,rfl,h0⟩
       | succ j => simp at hy ⊢; exact zBl hys j y hy
     · cases h
   · cases h
theorem zAf1 {α β γ : Type} {f : α → Option β} {k : γ → α} {k' : γ → β} (h : ∀ x,f (k x) = some (k' x)) : ∀ xs : List γ,mapO f (xs.map k) = some (xs.map k')
 | [] => rfl
 | x :: xs => by simp [mapO,h,zAf1 h xs]
theorem zFt1 {α β : Type} {f : α → Option β} {k : β → α} (h : ∀ x,f (k x) = some x) (xs : List β) : mapO f (xs.map k) = some xs := by
 have := zAf1 (f := f) (k := k) (k' := id) h xs
 simpa using this
def toI (ex : List Nat) (H : Nat → Option Root) : Nat → T → Option I
 | 0,.im i => some i
 | 0,_ => none
 | _ + 1,.im i => some i
 | _ + 1,.nil => some (.raw (.slice none 0 0))
 | _ + 1,.dead => none
 | k + 1,.own sz rows => match mapO (mapO (toI ex H k)) rows with
   | some r => some (.sl sz r)
   | none => none
 | k + 1,.lent n sz len => if n ∈ ex then none else match H n with
   | some (.arr sz' rows) => if sz' = sz ∧ len ≤ rows.length then match mapO (mapO (toI ex H k)) ((rows.drop 0).take len) with
       | some r => some (.sl sz r)
       | none => none
     else none
   | _ => none
theorem zQo1 (ex : List Nat) (H : Nat → Option Root) (k : Nat) (i : I) : toI ex H k (.im i) = some i := by cases k <;> rfl
theorem zIl1 (ex : List Nat) (H : Nat → Option Root) (k : Nat) (rows : List (List I)) : mapO (mapO (toI ex H k)) (rows.map (fun r => r.map T.im)) = some rows :=
 zFt1 (fun r => zFt1 (zQo1 ex H k) r) rows
structure Frz (br : Bool) (g : Gh) (w : World) (ex : List Nat) (fz : Nat → Nat → Option Value) : Prop where
 old : ∀ b o v,g.fz b o = some v → fz b o = some v
 own : br = true → ∀ b n p o v,g.own b = some (n,p) → n ∉ ex → w.cell? ⟨b,o,none⟩ = some v → fz b o = some v
theorem zLq1 {br : Bool} (hbrr : br = true) {fz : Nat → Nat → Option Value} {ex : List Nat} (hF : Frz br g w ex fz) {f : T → Option I} {m sz lo len : Nat} {rows : List (List T)} {r : List (List I)} {v : Value} (hm : m ∉ ex)
   (hv : CV g (.view m sz lo len) v) (hR : RootR w g m (.arr sz rows)) (hl : lo + len ≤ rows.length) (hr : mapO (mapO f) ((rows.drop lo).take len) = some r)
   (hf : ∀ (q : Pth) (t : T) (i : I) (u : Value),TR w g m q t u → f t = some i → IR fz i u) : IR fz (.sl sz r) v := by
 have hlen : r.length = len := by rw [zBi hr]; simp; omega
 have h0 : ∀ A c,r.length = 0 → IR fz (.sl sz r) (.slice A 0 c) := fun A c h => by
   have : r = [] := List.eq_nil_of_length_eq_zero h
   subst this; exact .sl0 _ _ _
 cases hv with
 | view0 _ _ _ A hu => exact h0 A 0 hlen
 | view _ _ _ _ cap hu hb hc hcap =>
   cases hR with
   | arr0 _ hs hrc =>
     simp only [List.length_nil] at hl
     have : len = 0 := by omega
     subst this
     exact h0 _ _ hlen
   | mk _ cs e hh ho hform hcell =>
     obtain ⟨hb0,hcs,hrl,hrows⟩ := hform
     have key : ∀ (i : Nat) (r' : List I) (j : Nat) (x : I),r[i]? = some r' → r'[j]? = some x → ∃ v,fz (g.rb m) (lo * sz + i * sz + j) = some v ∧ IR fz x v := by
       intro i r' j x hi hj
       obtain ⟨row,hrow,hmr⟩ := zBl hr i r' hi
       obtain ⟨t,ht,hft⟩ := zBl hmr j x hj
       have hrow' : rows[lo + i]? = some row := by
         rw [List.getElem?_take] at hrow
         split at hrow
         · rwa [List.getElem?_drop] at hrow
         · cases hrow
       obtain ⟨v,hv,hbr⟩ := hcell (lo + i) j (.t t) (by simp [Root.get,hrow',ht])
       rw [hb0,Nat.zero_add] at hv
       simp only [Root.sz] at hv
       have htr : TR w g m [(lo + i,j)] t v := by cases hbr with | t _ _ h => exact h
       refine ⟨v,?_,hf _ t x v htr hft⟩
       refine hF.own hbrr (g.rb m) m [] _ v ho hm ?_
       rw [cell_of_row w _ _ cs e _ hh,← Nat.add_mul]; exact hv
     obtain ⟨vs,hvs⟩ := zIp key
     have := IR.sl (fz := fz) sz r (g.rb m) (lo * sz) cap vs (by rw [hlen]; exact hc) (fun i r' hi => by
       obtain ⟨row,hrow,hmr⟩ := zBl hr i r' hi
       rw [zBi hmr]
       rw [List.getElem?_take] at hrow
       split at hrow
       · rw [List.getElem?_drop] at hrow; exact hrows _ row hrow
       · cases hrow) (fun i r' j x hi hj => (hvs i r' j x hi hj).1) (fun i r' j x hi hj => (hvs i r' j x hi hj).2)
     rw [hlen] at this
     exact this
theorem zNc {br : Bool} (hbr : br = true) {fz : Nat → Nat → Option Value} {ex : List Nat} (hF : Frz br g w ex fz) (hroots : ∀ n r,H n = some r → br = true ∧ g.used n ∧ RootR w g n r) :
   ∀ (k : Nat) (n : Nat) (q : Pth) (t : T) (i : I) (v : Value),n ∉ ex → TR w g n q t v → toI ex H k t = some i → IR fz i v
 | 0,n,q,t,i,v,hn,ht,hi => by
   cases t <;> simp only [toI,yay] at hi <;> first
     | (cases hi; done)
     | (subst hi; cases ht with | im _ _ _ h => exact h.mono hF.old)
 | k + 1,n,q,t,i,v,hn,ht,hi => by
   cases ht with
   | im _ i0 _ h => simp only [toI,yay] at hi; subst hi; exact h.mono hF.old
   | nil => simp only [toI,yay] at hi; subst hi; exact .raw _ rfl
   | dead => simp [toI] at hi
   | own0 _ sz A =>
     simp only [toI,mapO,yay] at hi
     subst hi; exact .sl0 _ _ _
   | own _ sz rows b cap cs e vs hh ho hl hc hz hx hr =>
     simp only [toI] at hi
     split at hi
     · rename_i r hr'
       injection hi with hi
       subst hi
       have hlen := zBi hr'
       have := IR.sl (fz := fz) sz r b 0 cap vs (by rw [hlen]; exact hl) (fun i r' hi => by
           obtain ⟨row,hrow,hmr⟩ := zBl hr' i r' hi
           rw [zBi hmr]; exact hz i row hrow)
         (fun i r' j x hi hj => by
           obtain ⟨row,hrow,hmr⟩ := zBl hr' i r' hi
           obtain ⟨t,ht,_⟩ := zBl hmr j x hj
           refine hF.own hbr b n q _ _ ho hn ?_
           rw [cell_of_row w _ _ cs e _ hh,Nat.zero_add]
           exact hx i row j t hrow ht)
         (fun i r' j x hi hj => by
           obtain ⟨row,hrow,hmr⟩ := zBl hr' i r' hi
           obtain ⟨t,ht,hti⟩ := zBl hmr j x hj
           exact zNc hbr hF hroots k n _ t x _ hn (hr i row j t hrow ht) hti)
       rw [hlen] at this
       exact this
     · cases hi
   | lent _ m sz len _ hv =>
     simp only [toI] at hi
     split at hi
     · cases hi
     · rename_i hm
       split at hi
       · rename_i sz' rows hH
         split at hi
         · rename_i hc
           obtain ⟨rfl,hl⟩ := hc
           split at hi
           · rename_i r hr
             injection hi with hi
             subst hi
             exact zLq1 hbr hF hm hv (hroots m _ hH).2.2 (by omega) hr (fun q t i u h1 h2 => zNc hbr hF hroots k m q t i u hm h1 h2)
           · cases hi
         · cases hi
       · cases hi
def pos : List Nat → Nat → Option Nat
 | [],_ => none
 | x :: xs,n => if x = n then some 0 else (pos xs n).map (· + 1)
theorem zRz : ∀ {xs : List Nat} {n k : Nat},pos xs n = some k → xs[k]? = some n
 | [],n,k,h => by cases h
 | x :: xs,n,k,h => by
   simp only [pos] at h
   split at h
   · rename_i e; injection h with h; subst h; simp [e]
   · rw [Option.map_eq_some_iff] at h
     obtain ⟨k',hk,rfl⟩ := h
     simpa using zRz hk
theorem zHt : ∀ {xs : List Nat} {n : Nat},pos xs n = none ↔ n ∉ xs
 | [],n => by simp [pos]
 | x :: xs,n => by
   simp only [pos]
   split
   · rename_i e; simp [e]
   · rename_i e
     rw [Option.map_eq_none_iff,zHt]
     simp [Ne.symm e]
theorem zEv1 : ∀ {xs : List Nat} {n k : Nat},xs.Nodup → xs[k]? = some n → pos xs n = some k
 | [],n,k,_,h => by simp at h
 | x :: xs,n,k,hn,h => by
   cases k with
   | zero => simp at h; simp [pos,h]
   | succ k =>
     simp only [List.getElem?_cons_succ] at h
     have hm : n ∈ xs := List.mem_of_getElem? h
     have hne : x ≠ n := fun e => (List.nodup_cons.1 hn).1 (e ▸ hm)
     simp [pos,hne,zEv1 (List.nodup_cons.1 hn).2 h]
structure Plc where
 n : Nat
 sz : Nat
 i : Nat
 deriving Inhabited,DecidableEq
def exN (ex : List Plc) : List Nat := ex.map Plc.n
def loC (ex : List Plc) (H : Nat → Option Root) : Nat → C → Option C
 | _,.im i => some (.im i)
 | _,.nil => some .nil
 | _,.iptr row off => some (.iptr row off)
 | _,.view n sz lo len => if n ∈ exN ex then none else match H n with
   | some (.arr sz' rows) => if sz' = sz ∧ lo + len ≤ rows.length then match mapO (mapO (toI (exN ex) H 4)) ((rows.drop lo).take len) with
       | some r => some (.im (.sl sz r))
       | none => none
     else none
   | _ => none
 | _,.ptr n sz i off => match pos (exN ex) n with
   | some k => match ex[k]? with
     | some p => if p.sz = sz ∧ p.i = i then some (.ptr k 0 0 off) else none
     | none => none
   | none => none
 | 0,.fn f caps => match caps with
   | [] => some (.fn f [])
   | _ => none
 | k + 1,.fn f caps => match mapO (loC ex H k) caps with
   | some cs => some (.fn f cs)
   | none => none
theorem zVr {br : Bool} {g0 : Gh} {ex : List Plc} (hF : Frz br g w (exN ex) g0.fz) (hroots : ∀ n r,H n = some r → br = true ∧ g.used n ∧ RootR w g n r)
   (hp : ∀ k p,ex[k]? = some p → g0.used k ∧ g0.rb k = g.rb p.n ∧ g0.base k = g.base p.n + p.i * p.sz) : ∀ (k : Nat) (c c' : C) (v : Value),CV g c v → loC ex H k c = some c' → CV g0 c' v := by
 have base : ∀ (k : Nat) (c c' : C) (v : Value),(∀ f caps,c ≠ .fn f caps) → CV g c v → loC ex H k c = some c' → CV g0 c' v := by
   intro k c c' v hne hc hl
   cases c with
   | im i => simp only [loC,yay] at hl; subst hl; cases hc with | im _ _ h => exact .im _ _ (h.mono hF.old)
   | nil => simp only [loC,yay] at hl; subst hl; cases hc; exact .nil
   | iptr row off =>
     simp only [loC,yay] at hl; subst hl
     cases hc with | iptr _ _ b o vs hx hr => exact .iptr row off b o vs (fun j x hj => hF.old _ _ _ (hx j x hj)) (fun j x hj => (hr j x hj).mono hF.old)
   | view n sz lo len =>
     simp only [loC] at hl
     split at hl
     · cases hl
     · rename_i hm
       split at hl
       · rename_i sz' rows hH
         split at hl
         · rename_i hcc
           obtain ⟨rfl,hle⟩ := hcc
           split at hl
           · rename_i r hr
             injection hl with hl
             subst hl
             have hbr := (hroots n _ hH).1
             exact .im _ _ (zLq1 hbr hF hm hc (hroots n _ hH).2.2 hle hr (fun q t i u h1 h2 => zNc hbr hF hroots 4 n q t i u hm h1 h2))
           · cases hl
         · cases hl
       · cases hl
   | ptr n sz i off =>
     simp only [loC] at hl
     split at hl
     · rename_i k' hk
       split at hl
       · rename_i p hpk
         split at hl
         · rename_i hcc
           obtain ⟨rfl,rfl⟩ := hcc
           injection hl with hl
           subst hl
           obtain ⟨h1,h2,h3⟩ := hp k' p hpk
           have hn : p.n = n := by
             have := zRz hk
             simp only [exN,List.getElem?_map,hpk,yaK,yay] at this
             exact this
           subst hn
           cases hc with
           | ptr _ _ _ _ hu =>
             have := CV.ptr (g := g0) k' 0 0 off h1
             rw [h2,h3] at this
             simpa using this
         · cases hl
       · cases hl
     · cases hl
   | fn f caps => exact absurd rfl (hne f caps)
 intro k
 induction k with
 | zero =>
   intro c c' v hc hl
   cases hc with
   | fn f caps vs hs hr =>
     simp only [loC] at hl
     split at hl
     · injection hl with hl; subst hl
       exact .fn f [] vs hs (fun j x v hj => by simp at hj)
     · cases hl
   | im i v h => exact base 0 _ _ _ (by simp) (.im i v h) hl
   | nil => exact base 0 _ _ _ (by simp) .nil hl
   | view0 n sz lo A h => exact base 0 _ _ _ (by simp) (.view0 n sz lo A h) hl
   | view n sz lo len cap h hb hl' hc' => exact base 0 _ _ _ (by simp) (.view n sz lo len cap h hb hl' hc') hl
   | ptr n sz i off h => exact base 0 _ _ _ (by simp) (.ptr n sz i off h) hl
   | iptr row off b o vs hx hr => exact base 0 _ _ _ (by simp) (.iptr row off b o vs hx hr) hl
 | succ k ih =>
   intro c c' v hc hl
   cases hc with
   | fn f caps vs hs hr =>
     simp only [loC] at hl
     split at hl
     · rename_i cs hcs
       injection hl with hl; subst hl
       refine .fn f cs vs (by rw [hs,zBi hcs]) (fun j x u hj hu => ?_)
       obtain ⟨c0,h1,h2⟩ := zBl hcs j x hj
       exact ih c0 x u (hr j c0 u h1 hu) h2
     · cases hl
   | im i v h => exact base _ _ _ _ (by simp) (.im i v h) hl
   | nil => exact base _ _ _ _ (by simp) .nil hl
   | view0 n sz lo A h => exact base _ _ _ _ (by simp) (.view0 n sz lo A h) hl
   | view n sz lo len cap h hb hl' hc' => exact base _ _ _ _ (by simp) (.view n sz lo len cap h hb hl' hc') hl
   | ptr n sz i off h => exact base _ _ _ _ (by simp) (.ptr n sz i off h) hl
   | iptr row off b o vs hx hr => exact base _ _ _ _ (by simp) (.iptr row off b o vs hx hr) hl
def loD (ex : List Plc) (H : Nat → Option Root) : D → Option D
 | .c x => match loC ex H 2 x with
   | some y => some (.c y)
   | none => none
 | .agg xs => match mapO (loC ex H 2) xs with
   | some ys => some (.agg ys)
   | none => none
 | .tup _ => none
theorem zFx1 {br : Bool} {g0 : Gh} {ex : List Plc} (hF : Frz br g w (exN ex) g0.fz) (hroots : ∀ n r,H n = some r → br = true ∧ g.used n ∧ RootR w g n r)
   (hp : ∀ k p,ex[k]? = some p → g0.used k ∧ g0.rb k = g.rb p.n ∧ g0.base k = g.base p.n + p.i * p.sz) {d d' : D} {v : Value} (hd : DV g d v) (hl : loD ex H d = some d') : DV g0 d' v := by
 cases hd with
 | c x v h =>
   simp only [loD] at hl
   split at hl
   · rename_i y hy; injection hl with hl; subst hl; exact .c _ _ (zVr hF hroots hp 2 x y v h hy)
   · cases hl
 | agg xs vs hs hr =>
   simp only [loD] at hl
   split at hl
   · rename_i ys hys; injection hl with hl; subst hl
     refine .agg _ _ (by rw [hs,zBi hys]) (fun j x u hj hu => ?_)
     obtain ⟨c0,h1,h2⟩ := zBl hys j x hj
     exact zVr hF hroots hp 2 c0 x u (hr j c0 u h1 hu) h2
   · cases hl
 | tup => simp [loD] at hl
def scI : I → Bool
 | .sl _ rows => rows.isEmpty
 | _ => true
inductive Mv (sc : Bool) : T → Prop where
 | im (i : I) (h : sc = false ∨ scI i = true) : Mv sc (.im i)
 | nil : Mv sc .nil
 | dead : Mv sc .dead
 | own (sz : Nat) (rows : List (List T)) (h : ∀ r ∈ rows,∀ t ∈ r,Mv sc t) : Mv sc (.own sz rows)
theorem IR.sc {fz fz' : Nat → Nat → Option Value} {i : I} {v : Value} (h : IR fz i v) (hs : scI i = true) : IR fz' i v := by
 cases h with
 | bool b => exact .bool b
 | int k n => exact .int k n
 | flt k x y h => exact .flt k x y h
 | cpx k x y x' y' h h' => exact .cpx k x y x' y' h h'
 | str s => exact .str s
 | raw v h => exact .raw v h
 | sl0 sz a c => exact .sl0 sz a c
 | sl sz rows b off c vs hc hl hx hr =>
   have : rows = [] := by simpa [scI] using hs
   subst this
   exact .sl0 sz _ c
theorem TR.mv {sc : Bool} {g' : Gh} {n n' : Nat} {t : T} (hm : Mv sc t) (hfz : sc = false → ∀ b o v,g.fz b o = some v → g'.fz b o = some v) :
   ∀ {q q' : Pth} {v : Value},TR w g n q t v → (∀ (b : Nat) (p : Pth),g.own b = some (n,q ++ p) → g'.own b = some (n',q' ++ p)) → TR w g' n' q' t v := by
 induction hm with
 | im i h =>
   intro q q' v ht _
   cases ht with
   | im _ _ _ hi =>
     refine .im _ _ _ ?_
     rcases h with h | h
     · exact hi.mono (hfz h)
     · exact hi.sc h
 | nil => intro q q' v ht _; cases ht; exact .nil _
 | dead => intro q q' v ht _; exact .dead _ _
 | own sz rows h ih =>
   intro q q' v ht hb
   cases ht with
   | own0 _ _ A => exact .own0 _ _ _
   | own _ _ _ b cap cs e vs hh ho hl hc hz hx hr =>
     refine .own q' sz rows b cap cs e vs hh (by simpa using hb b [] (by simpa using ho)) hl hc hz hx (fun i r j x h1 h2 => ?_)
     refine ih r (List.mem_of_getElem? h1) x (List.mem_of_getElem? h2) (hr i r j x h1 h2) (fun b' p hp => ?_)
     have := hb b' ((i,j) :: p) (by simpa using hp)
     simpa using this
inductive MvB (sc : Bool) : B → Prop where
 | t (x : T) (h : Mv sc x) : MvB sc (.t x)
 | nilfn (f : Fn) : MvB sc (.v (.fn f []))
def MvR (sc : Bool) : Root → Prop
 | .box cells => ∀ x ∈ cells,MvB sc x
 | .arr _ rows => ∀ r ∈ rows,∀ t ∈ r,Mv sc t
theorem MvR.get {sc : Bool} {r : Root} (h : MvR sc r) {i j : Nat} {x : B} (hx : r.get i j = some x) : MvB sc x := by
 cases r with
 | box cells =>
   cases i with
   | zero => exact h x (List.mem_of_getElem? (by simpa [Root.get] using hx))
   | succ i => simp [Root.get] at hx
 | arr sz rows =>
   simp only [Root.get] at hx
   cases hr : rows[i]? with
   | none => simp [hr] at hx
   | some row =>
     simp only [hr,Option.map_eq_some_iff] at hx
     obtain ⟨y,hy,rfl⟩ := hx
     exact .t _ (h row (List.mem_of_getElem? hr) y (List.mem_of_getElem? hy))
theorem RootR.mv {sc : Bool} {g' : Gh} {n n' : Nat} {r : Root} (hm : MvR sc r) (hfz : sc = false → ∀ b o v,g.fz b o = some v → g'.fz b o = some v)
   (hrb : g'.rb n' = g.rb n) (hbase : g'.base n' = g.base n) (hrc : g'.rc n' = g.rc n) (h : RootR w g n r) (hb0 : g.own (g.rb n) = some (n,[]) → g'.own (g.rb n) = some (n',[]))
   (hb : ∀ (b : Nat) (x : Nat × Nat) (p : Pth),g.own b = some (n,x :: p) → g'.own b = some (n',x :: p)) : RootR w g' n' r := by
 cases h with
 | mk r cs e hh ho hf hr =>
   refine .mk r cs e (by rw [hrb]; exact hh) (by rw [hrb]; exact hb0 ho) (by rw [hbase,hrc]; exact hf) (fun i j x hx => ?_)
   obtain ⟨v,hv,hbr⟩ := hr i j x hx
   refine ⟨v,by rw [hbase]; exact hv,?_⟩
   cases hm.get hx with
   | t x hmx =>
     cases hbr with
     | t _ _ ht => exact .t _ _ (ht.mv hmx hfz (fun b p hp => by simpa using hb b (i,j) p (by simpa using hp)))
   | nilfn f =>
     cases hbr with
     | v _ _ hc =>
       cases hc with
       | fn _ _ vs hs _ => exact .v _ _ (.fn f [] vs hs (fun j x v hj => by simp at hj))
 | arr0 sz hs hc => exact .arr0 sz hs (by rw [hrc]; exact hc)
end Go.SX
namespace Go.SX
open Go Go.RowKit
variable {en : En} {g : Gh} {S : Nat → Option D} {H : Nat → Option Root} {a : Act} {w : World} {P : Program}
structure Res where
 val : D
 roots : List Root := []
 places : List (List B) := []
 deriving Inhabited
def reC (f : Nat → Nat) : C → Option C
 | .im i => some (.im i)
 | .nil => some .nil
 | .view n sz lo len => some (.view (f n) sz lo len)
 | .ptr n sz i off => some (.ptr (f n) sz i off)
 | _ => none
def reD (f : Nat → Nat) : D → Option D
 | .c x => match reC f x with
   | some y => some (.c y)
   | none => none
 | .agg xs => match mapO (reC f) xs with
   | some ys => some (.agg ys)
   | none => none
 | .tup ds => match mapO (fun d => match d with
     | .c x => match reC f x with
       | some y => some (D.c y)
       | none => none
     | .agg xs => match mapO (reC f) xs with
       | some ys => some (.agg ys)
       | none => none
     | .tup _ => none) ds with
   | some ys => some (.tup ys)
   | none => none
inductive OkC (sc : Bool) (k : Nat) : C → Prop where
 | im (i : I) (h : sc = false ∨ scI i = true) : OkC sc k (.im i)
 | nil : OkC sc k .nil
 | view (n sz lo len : Nat) (h : n < k) : OkC sc k (.view n sz lo len)
 | ptr (n sz i off : Nat) (h : n < k) : OkC sc k (.ptr n sz i off)
inductive OkD (sc : Bool) (k : Nat) : D → Prop where
 | c (x : C) (h : OkC sc k x) : OkD sc k (.c x)
 | agg (xs : List C) (h : ∀ x ∈ xs,OkC sc k x) : OkD sc k (.agg xs)
 | tup (ds : List D) (h : ∀ d ∈ ds,(∃ x,d = .c x ∧ OkC sc k x) ∨ (∃ xs,d = .agg xs ∧ ∀ x ∈ xs,OkC sc k x)) : OkD sc k (.tup ds)
structure OkR (sc : Bool) (res : Res) : Prop where
 val : OkD sc res.roots.length res.val
 roots : ∀ r ∈ res.roots,MvR sc r
 places : ∀ c ∈ res.places,∀ x ∈ c,MvB sc x
def Done (en : En) (res : Res) (v : Value) (w' : World) : Prop :=
 ∃ (g : Gh) (ns : List Nat) (S : Nat → Option D) (H : Nat → Option Root) (a : Act) (d : D),Rel en g S H a w' ∧ ns.Nodup ∧ ns.length = res.roots.length ∧ (∀ m ∈ ns,¬ en.g0.used m) ∧
   (∀ (k : Nat) (r : Root) (m : Nat),res.roots[k]? = some r → ns[k]? = some m → H m = some r) ∧ (∀ (k : Nat) (c : List B),res.places[k]? = some c → H k = some (.box c)) ∧
   reD (fun n => ns.getD n 0) res.val = some d ∧ DV g d v
inductive Outs where
 | one (r : Res)
 | any (ι : Type) (f : ι → Res)
def Outs.mem (o : Outs) (r : Res) : Prop := match o with
 | .one r' => r = r'
 | .any _ f => ∃ i,r = f i
def GoodAt (P : Program) (f : FuncId) (ds : List D) (hs : List (List B)) (o : Outs) : Prop :=
 ∀ (en : En) (args : List Value),args.length = ds.length → (∀ n,en.g0.used n → n < hs.length) →
   Rel en en.g0 (fun t => ds[t]?) (fun n => (hs[n]?).map Root.box) ⟨args.toArray,[]⟩ en.w0 →
   Calls P f args.toArray en.w0 (fun e w' => ∃ v,e = .returned v ∧ ∃ res,o.mem res ∧ Done en res v w')
structure Ct where
 sc : Bool
 run : List D → List (List B) → Option Outs
structure Good (P : Program) (f : FuncId) (ct : Ct) : Prop where
 ok : ∀ ds hs o,ct.run ds hs = some o → ∀ res,o.mem res → OkR ct.sc res
 at_ : ∀ ds hs o,ct.run ds hs = some o → GoodAt P f ds hs o
def Gh.sub (g : Gh) (w : World) (ex : List Plc) (borrow : Bool) : Gh :=
 { used := fun k => k < ex.length,rb := fun k => g.rb (ex.getD k default).n,base := fun k => g.base (ex.getD k default).n + (ex.getD k default).i * (ex.getD k default).sz,rc := fun k => g.rc (ex.getD k default).n,
   own := fun b => match g.own b with
     | some (n,p) => match pos (exN ex) n with
       | some k => match p with
         | [] => if b = g.rb n then some (k,[]) else none
         | (i,j) :: p => if i = (ex.getD k default).i then some (k,(0,j) :: p) else none
       | none => none
     | none => none
   fz := fun b o => match g.fz b o with
     | some v => some v
     | none => if borrow = true then match g.own b with
         | some (n,_) => if n ∈ exN ex then none else w.cell? ⟨b,o,none⟩
         | none => none
       else none }
theorem Gh.sub_own_none {ex : List Plc} {br : Bool} {b : Nat} (h : g.own b = none) : (g.sub w ex br).own b = none := by simp [Gh.sub,h]
theorem Gh.sub_own_out {ex : List Plc} {br : Bool} {b n : Nat} {p : Pth} (h : g.own b = some (n,p)) (hn : n ∉ exN ex) : (g.sub w ex br).own b = none := by simp [Gh.sub,h,zHt.2 hn]
theorem Gh.sub_own_top {ex : List Plc} {br : Bool} {n k : Nat} (h : g.own (g.rb n) = some (n,[])) (hk : pos (exN ex) n = some k) : (g.sub w ex br).own (g.rb n) = some (k,[]) := by simp [Gh.sub,h,hk]
theorem Gh.sub_own_in {ex : List Plc} {br : Bool} {b n k j : Nat} {pl : Plc} {p : Pth} (hk : pos (exN ex) n = some k) (hpl : ex[k]? = some pl) (h : g.own b = some (n,(pl.i,j) :: p)) : (g.sub w ex br).own b = some (k,(0,j) :: p) := by
 simp [Gh.sub,h,hk,hpl]
theorem Gh.sub_own_inv {ex : List Plc} {br : Bool} {b k : Nat} {p : Pth} (h : (g.sub w ex br).own b = some (k,p)) : ∃ n q,g.own b = some (n,q) ∧ pos (exN ex) n = some k ∧ (p = [] → b = g.rb n ∧ q = []) := by
 simp only [Gh.sub] at h
 split at h
 · rename_i n q ho
   split at h
   · rename_i k' hk
     split at h
     · split at h
       · rename_i hb
         injection h with h; injection h with h1 h2
         subst h1; subst h2
         exact ⟨n,[],ho,hk,fun _ => ⟨hb,rfl⟩⟩
       · cases h
     · rename_i i j p'
       split at h
       · injection h with h; injection h with h1 h2
         subst h1
         exact ⟨n,_,ho,hk,fun hp => by rw [hp] at h2; cases h2⟩
       · cases h
   · cases h
 · cases h
theorem Gh.sub_frz (h : Rel en g S H a w) {ex : List Plc} {br : Bool} : Frz br g w (exN ex) (g.sub w ex br).fz := by
 refine ⟨fun b o v hv => by simp [Gh.sub,hv],fun hbr b n p o v ho hn hc => ?_⟩
 subst hbr
 simp only [Gh.sub]
 cases hf : g.fz b o with
 | some v' => have := (h.fz b o v' hf).2; rw [ho] at this; cases this
 | none => simp [ho,hn,hc]
def Gh.back (g : Gh) (w : World) (g0 gc : Gh) (ex : List Plc) (ns : List Nat) (nm : Nat) : Gh :=
 { used := fun m => g.used m ∨ (nm ≤ m ∧ m < nm + ns.length)
   rb := fun m => if nm ≤ m ∧ m < nm + ns.length then gc.rb (ns.getD (m - nm) 0) else g.rb m
   base := fun m => if nm ≤ m ∧ m < nm + ns.length then gc.base (ns.getD (m - nm) 0) else g.base m
   rc := fun m => if nm ≤ m ∧ m < nm + ns.length then gc.rc (ns.getD (m - nm) 0) else g.rc m
   own := fun b => match gc.own b with
     | some (m,p) => match pos ns m with
       | some k => some (nm + k,p)
       | none => match ex[m]? with
         | some pl => match p with
           | [] => some (pl.n,[])
           | (_,j) :: p => some (pl.n,(pl.i,j) :: p)
         | none => none
     | none => match g0.own b with
       | none => g.own b
       | some _ => none
   fz := fun b o => match g.fz b o with
     | some v => some v
     | none => if b < w.heap.size ∧ g0.own b = none then none else gc.fz b o }
def unB : B → Option T
 | .t x => some x
 | .v _ => none
def plBack (r : Option Root) (p : Plc) (c : Option (List B)) : Option Root := match r,c with
 | some (.box _),some c => some (.box c)
 | some (.arr sz rows),some c => match mapO unB c with
   | some ts => if ts.length = sz then some (.arr sz (rows.set p.i ts)) else none
   | none => none
 | _,_ => none
def backH (H : Nat → Option Root) (ex : List Plc) (nm : Nat) (res : Res) : Nat → Option Root := fun n =>
 if nm ≤ n ∧ n < nm + res.roots.length then res.roots[n - nm]? else match pos (exN ex) n with
   | some k => plBack (H n) (ex.getD k default) res.places[k]?
   | none => H n
def plCells (H : Nat → Option Root) (p : Plc) : Option (List B) := match H p.n with
 | some (.box c) => if p.sz = 0 ∧ p.i = 0 then some c else none
 | some (.arr sz rows) => if sz = p.sz then match rows[p.i]? with
     | some r => some (r.map B.t)
     | none => none
   else none
 | none => none
def PlOk (H : Nat → Option Root) (ex : List Plc) (hs : List (List B)) : Prop :=
 (exN ex).Nodup ∧ hs.length = ex.length ∧ ∀ (k : Nat) (p : Plc) (c : List B),ex[k]? = some p → hs[k]? = some c → plCells H p = some c ∧ ∀ x ∈ c,MvB false x
theorem zDc {p : Plc} {c : List B} (h : plCells H p = some c) : ∃ r,H p.n = some r ∧ (r.sz = p.sz) ∧ (∀ j x,c[j]? = some x → r.get p.i j = some x) ∧ ((∃ c',r = .box c' ∧ c' = c ∧ p.i = 0) ∨ (∃ rows row,r = .arr p.sz rows ∧ rows[p.i]? = some row ∧ c = row.map B.t)) := by
 unfold plCells at h
 split at h
 · rename_i c0 hr
   split at h
   · rename_i hc
     injection h with h; subst h
     exact ⟨_,hr,by simp [Root.sz,hc.1],fun j x hx => by rw [hc.2]; exact hx,.inl ⟨_,rfl,rfl,hc.2⟩⟩
   · cases h
 · rename_i sz rows hr
   split at h
   · rename_i hc
     subst hc
     split at h
     · rename_i row hrow
       injection h with h; subst h
       refine ⟨_,hr,rfl,fun j x hx => ?_,.inr ⟨rows,row,rfl,hrow,rfl⟩⟩
       simp only [Root.get,hrow]
       simpa using hx
     · cases h
   · cases h
 · cases h
theorem zRz1 {ex : List Plc} {k : Nat} {p : Plc} (h : ex[k]? = some p) : (exN ex)[k]? = some p.n := by simp [exN,h]
theorem zTd {ex : List Plc} {n k : Nat} (h : pos (exN ex) n = some k) : ∃ p,ex[k]? = some p ∧ p.n = n := by
 have := zRz h
 simp only [exN,List.getElem?_map,Option.map_eq_some_iff] at this
 exact this
theorem plGetD {ex : List Plc} {k : Nat} {p : Plc} (h : ex[k]? = some p) : ex.getD k default = p := by simp [List.getD,h]
theorem zOb1 (h : Rel en g S H a w) {ex : List Plc} {hs : List (List B)} (hpl : PlOk H ex hs) (br : Bool) {H0 : Nat → Option Root} (hH0 : ∀ n r,H0 n = some r → br = true ∧ H n = some r)
   {ds ds' : List D} {args : List Value} (hal : args.length = ds.length) (hdv : ∀ (t : Nat) (d : D) (v : Value),ds[t]? = some d → args[t]? = some v → DV g d v) (hlo : mapO (loD ex H0) ds = some ds') :
   Rel ⟨g.sub w ex br,w,fun k => (hs.getD k []).length⟩ (g.sub w ex br) (fun t => ds'[t]?) (fun n => (hs[n]?).map Root.box) ⟨args.toArray,[]⟩ w := by
 obtain ⟨hnd,hl,hpl⟩ := hpl
 have hF := Gh.sub_frz h (ex := ex) (br := br)
 have hat : ∀ (k : Nat) (p : Plc),ex[k]? = some p → ∃ c,hs[k]? = some c ∧ plCells H p = some c ∧ ∀ x ∈ c,MvB false x := fun k p hk => by
   have hlt : k < hs.length := by rw [hl]; exact (List.getElem?_eq_some_iff.1 hk).1
   exact ⟨hs[k],List.getElem?_eq_getElem hlt,hpl k p _ hk (List.getElem?_eq_getElem hlt)⟩
 refine ⟨⟨h.fr.laid.move (fun b hb ho => ⟨Gh.sub_own_none (h.fr.old b hb ho).1,(h.fr.old b hb ho).2⟩),rfl,rfl,rfl,Nat.le_refl _,Gh.le.refl _,fun b _ ho => ⟨ho,rfl⟩,fun b k hb => ?_,fun b o v _ hv => .inl hv⟩,rfl,fun b x hx => ?_,fun b o v hv => ?_,fun t d ht => ?_,fun n r hn => ?_,fun n r b hn hb => ?_⟩
 · obtain ⟨n,q,ho,hk,hc⟩ := Gh.sub_own_inv hb
   obtain ⟨p,hpk,rfl⟩ := zTd hk
   obtain ⟨c,_,hH,_⟩ := hat k p hpk
   obtain ⟨rfl,rfl⟩ := hc rfl
   obtain ⟨r,hr,_,_,hrr⟩ := zDc hH
   cases (h.roots _ _ hr).2 with
   | mk _ cs e hh _ _ _ => exact ⟨(List.getElem?_eq_some_iff.1 hpk).1,hb,cs,cs,e,hh,hh,rfl,fun _ _ => rfl⟩
   | arr0 sz _ _ => rcases hrr with ⟨_,h1,_⟩ | ⟨rows,row,h1,h2,_⟩ <;> cases h1; simp at h2
 · obtain ⟨n,q,ho,_,_⟩ := Gh.sub_own_inv (k := x.1) (p := x.2) hx
   exact h.lt b _ ho
 · simp only [Gh.sub] at hv
   split at hv
   · rename_i v' hf
     injection hv with hv; subst hv
     obtain ⟨h1,h2⟩ := h.fz b o _ hf
     exact ⟨h1,Gh.sub_own_none h2⟩
   · split at hv
     · split at hv
       · rename_i n p ho
         split at hv
         · cases hv
         · rename_i hn; exact ⟨hv,Gh.sub_own_out ho hn⟩
       · cases hv
     · cases hv
 · obtain ⟨d0,h1,h2⟩ := zBl hlo t d ht
   have hlt : t < args.length := by rw [hal]; exact (List.getElem?_eq_some_iff.1 h1).1
   refine ⟨args[t],by simp [hlt],zFx1 hF (fun n r hr => ?_) (fun k p hk => ?_) (hdv t d0 _ h1 (List.getElem?_eq_getElem hlt)) h2⟩
   · obtain ⟨k1,k2⟩ := hH0 n r hr
     exact ⟨k1,h.roots n r k2⟩
   · refine ⟨(List.getElem?_eq_some_iff.1 hk).1,?_,?_⟩ <;> simp only [Gh.sub,plGetD hk]
 · rw [Option.map_eq_some_iff] at hn
   obtain ⟨c,hc,rfl⟩ := hn
   have hlt : n < ex.length := by rw [← hl]; exact (List.getElem?_eq_some_iff.1 hc).1
   have hk : ex[n]? = some ex[n] := List.getElem?_eq_getElem hlt
   obtain ⟨c',hc',hH,hmv⟩ := hat n _ hk
   rw [hc] at hc'; injection hc' with hc'; subst hc'
   have hpos := zEv1 hnd (zRz1 hk)
   obtain ⟨r,hr,hrsz,hget,hrr⟩ := zDc hH
   refine ⟨hlt,?_⟩
   cases (h.roots _ _ hr).2 with
   | mk _ cs e hh ho hf hcell =>
     refine .mk (.box c) cs e (by simp only [Gh.sub,plGetD hk]; exact hh) (by simp only [Gh.sub,plGetD hk]; exact Gh.sub_own_top (w := w) (br := br) ho hpos) trivial (fun i j x hx => ?_)
     cases i with
     | succ i => simp [Root.get] at hx
     | zero =>
       simp only [Root.get] at hx
       obtain ⟨v,hv,hbr⟩ := hcell _ j x (hget j x hx)
       refine ⟨v,by simp only [Gh.sub,plGetD hk,Root.sz,Nat.zero_mul,yaP]; rw [hrsz] at hv; exact hv,?_⟩
       have hm := hmv x (List.mem_of_getElem? hx)
       cases hm with
       | t x hmx =>
         cases hbr with
         | t _ _ ht => exact .t _ _ (TR.mv hmx (fun _ => hF.old) ht (fun b p hp => Gh.sub_own_in hpos hk hp))
       | nilfn f =>
         cases hbr with
         | v _ _ hcv => cases hcv with | fn _ _ vs hs' _ => exact .v _ _ (.fn f [] vs hs' (fun j x v hj => by simp at hj))
   | arr0 sz _ _ => rcases hrr with ⟨_,h1,_⟩ | ⟨rows,row,h1,h2,_⟩ <;> cases h1; simp at h2
 · rw [Option.map_eq_some_iff] at hn
   obtain ⟨c,hc,rfl⟩ := hn
   exact ⟨c,rfl,by simp [List.getD,hc]⟩
theorem zPt1 {ns : List Nat} {k m : Nat} (h : ns[k]? = some m) : ns.getD k 0 = m := by simp [List.getD,h]
theorem zLl1 (h : Rel en g S H a w) {nm : Nat} {res : Res} (hnm : ∀ m,g.used m → ¬ (nm ≤ m ∧ m < nm + res.roots.length)) {ex : List Plc} {hs : List (List B)} (hpl : PlOk H ex hs) {br sc : Bool} (hbr : br = true → sc = true)
   (hok : OkR sc res) {v : Value} {w' : World} (hd : Done ⟨g.sub w ex br,w,fun k => (hs.getD k []).length⟩ res v w') {d : D} (hre : reD (fun n => nm + n) res.val = some d) :
   ∃ g',g.le g' ∧ (∀ m,g'.used m → g.used m ∨ (nm ≤ m ∧ m < nm + res.roots.length)) ∧ Rel en g' S (backH H ex nm res) a w' ∧ DV g' d v := by
 obtain ⟨gc,ns,Sc,Hc,ac,d0,hR,hnd,hnl,hnu,hro,hplc,hre0,hdv⟩ := hd
 obtain ⟨hexnd,hl,hpl⟩ := hpl
 have hfr := hR.fr
 have hat : ∀ (k : Nat) (p : Plc),ex[k]? = some p → ∃ c,hs[k]? = some c ∧ plCells H p = some c := fun k p hk => by
   have hlt : k < hs.length := by rw [hl]; exact (List.getElem?_eq_some_iff.1 hk).1
   exact ⟨hs[k],List.getElem?_eq_getElem hlt,(hpl k p _ hk (List.getElem?_eq_getElem hlt)).1⟩
 have huse : ∀ (k : Nat) (p : Plc),ex[k]? = some p → g.used p.n := fun k p hk => by
   obtain ⟨c,_,hH⟩ := hat k p hk
   obtain ⟨r,hr,_⟩ := zDc hH
   exact (h.roots _ _ hr).1
 have O1 : ∀ b,b < w.heap.size → (g.sub w ex br).own b = none → gc.own b = none ∧ w'.heap[b]? = w.heap[b]? ∧ (g.back w (g.sub w ex br) gc ex ns nm).own b = g.own b := fun b hb ho => by
   obtain ⟨h1,h2⟩ := hfr.old b hb ho
   exact ⟨h1,h2,by simp only [Gh.back,h1,ho]⟩
 have O2 : ∀ (b k m : Nat) (p : Pth),ns[k]? = some m → gc.own b = some (m,p) → (g.back w (g.sub w ex br) gc ex ns nm).own b = some (nm + k,p) := fun b k m p hk ho => by
   simp only [Gh.back,ho,zEv1 hnd hk]
 have O3 : ∀ (b k : Nat) (pl : Plc),ex[k]? = some pl → gc.own b = some (k,[]) → (g.back w (g.sub w ex br) gc ex ns nm).own b = some (pl.n,[]) := fun b k pl hk ho => by
   have : pos ns k = none := zHt.2 (fun hm => hnu k hm (List.getElem?_eq_some_iff.1 hk).1)
   simp only [Gh.back,ho,this,hk]
 have O4 : ∀ (b k i j : Nat) (pl : Plc) (p : Pth),ex[k]? = some pl → gc.own b = some (k,(i,j) :: p) → (g.back w (g.sub w ex br) gc ex ns nm).own b = some (pl.n,(pl.i,j) :: p) := fun b k i j pl p hk ho => by
   have : pos ns k = none := zHt.2 (fun hm => hnu k hm (List.getElem?_eq_some_iff.1 hk).1)
   simp only [Gh.back,ho,this,hk]
 have hsz : w.heap.size ≤ w'.heap.size := hfr.size
 have hnone : ∀ b,¬ b < w.heap.size → g.own b = none := fun b hb => by
   cases ho : g.own b with
   | none => rfl
   | some x => exact absurd (h.lt b x ho) hb
 have hfz : ∀ b o v,g.fz b o = some v → (g.back w (g.sub w ex br) gc ex ns nm).fz b o = some v := fun b o v hv => by simp only [Gh.back,hv]
 have hle : g.le (g.back w (g.sub w ex br) gc ex ns nm) := by
   refine ⟨fun n hn => .inl hn,fun n hn => ?_,fun n hn => ?_,fun n hn => ?_,hfz⟩ <;>
   · have := hnm n hn; simp only [Gh.back]; rw [if_neg (by omega)]
 have hscfz : sc = false → ∀ b o v,gc.fz b o = some v → (g.back w (g.sub w ex br) gc ex ns nm).fz b o = some v := fun hs' b o v hv => by
   have hb : br = false := by cases br with
     | false => rfl
     | true => rw [hbr rfl] at hs'; cases hs'
   subst hb
   have hsub : ∀ b o v,(g.sub w ex false).fz b o = some v → g.fz b o = some v := fun b o v h1 => by
     simp only [Gh.sub] at h1
     split at h1
     · rename_i hf; rw [hf]; exact h1
     · simp at h1
   cases hf : g.fz b o with
   | some v' =>
     have h1 := hfr.gle.fz b o v' (by simp [Gh.sub,hf])
     rw [hv] at h1; injection h1 with h1; subst h1
     exact hfz b o _ hf
   | none =>
     simp only [Gh.back,hf]
     rw [if_neg]
     · exact hv
     · rintro ⟨hb,ho⟩
       rcases hfr.fzn b o v hb hv with h1 | h1
       · rw [hsub b o v h1] at hf; cases hf
       · exact h1 ho
 refine ⟨_,hle,fun m hm => ?_,⟨⟨h.fr.laid,hfr.os.trans h.fr.os,hfr.tape.trans h.fr.tape,hfr.output.trans h.fr.output,Nat.le_trans h.fr.size hsz,h.fr.gle.trans hle,fun b hb ho => ?_,fun b n hb => ?_,fun b o v hb hv => ?_⟩,
   h.df,fun b x hx => ?_,fun b o v hv => ?_,fun t d ht => ?_,fun n r hn => ?_,fun n r b hn hb => ?_⟩,?_⟩
 · rw [← hnl]
   exact hm
 · obtain ⟨h1,h2⟩ := h.fr.old b hb ho
   obtain ⟨_,h4,h5⟩ := O1 b (Nat.lt_of_lt_of_le hb h.fr.size) (Gh.sub_own_none h1)
   exact ⟨h5.trans h1,h4.trans h2⟩
 · obtain ⟨h0,h1,c1,c2,e1,h2,h3,h4,h5⟩ := h.fr.place b n hb
   have hbw := h.lt b _ h1
   by_cases hx : n ∈ exN ex ∧ b = g.rb n
   · obtain ⟨hn,rfl⟩ := hx
     cases hp : pos (exN ex) n with
     | none => exact absurd hn (zHt.1 hp)
     | some k =>
       obtain ⟨pl,hk,rfl⟩ := zTd hp
       obtain ⟨c,hc,hH⟩ := hat k pl hk
       obtain ⟨r,hr,hrsz,_,hrr⟩ := zDc hH
       have hg0 : (g.sub w ex br).own (g.rb pl.n) = some (k,[]) := Gh.sub_own_top h1 hp
       obtain ⟨_,k1,d1,d2,e2,k2,k3,k4,k5⟩ := hfr.place _ k hg0
       simp only [] at k2
       rw [h3] at k2
       injection k2 with k2
       injection k2 with k2 k2'
       subst k2; subst k2'
       obtain ⟨c0,hc0,hcl⟩ := h.wd _ _ _ hr hb
       subst hc0
       rcases hrr with ⟨c',hc',rfl,hi0⟩ | ⟨rows,row,hrw,_⟩
       · injection hc' with hc'; subst hc'
         refine ⟨h0,O3 _ k pl hk k1,c1,d2,e1,h2,k3,k4.trans h4,fun o ho => (k5 o ?_).trans (h5 o ho)⟩
         have hb9 := h.fr.gle.base pl.n h0
         have hbase : (g.sub w ex br).base k = en.g0.base pl.n := by simp only [Gh.sub,plGetD hk,hi0,Nat.zero_mul,yaP]; exact hb9
         simp only [hbase,List.getD,hc,yaF]
         omega
       · cases hrw
   · have hg0 : (g.sub w ex br).own b = none := by
       by_cases hn : n ∈ exN ex
       · have hbn : b ≠ g.rb n := fun e => hx ⟨hn,e⟩
         simp only [Gh.sub,h1]
         split
         · rw [if_neg hbn]
         · rfl
       · exact Gh.sub_own_out h1 hn
     obtain ⟨_,k2,k3⟩ := O1 b hbw hg0
     exact ⟨h0,k3.trans h1,c1,c2,e1,h2,k2.trans h3,h4,h5⟩
 · simp only [Gh.back] at hv
   split at hv
   · rename_i v' hf; injection hv with hv; subst hv; exact h.fr.fzn b o _ hb hf
   · split at hv
     · cases hv
     · rename_i hc
       refine .inr (fun ho => ?_)
       obtain ⟨h1,_⟩ := h.fr.old b hb ho
       exact hc ⟨Nat.lt_of_lt_of_le hb h.fr.size,Gh.sub_own_none h1⟩
 · simp only [Gh.back] at hx
   split at hx
   · rename_i m p ho; exact hR.lt b _ ho
   · split at hx
     · exact Nat.lt_of_lt_of_le (h.lt b _ hx) hsz
     · cases hx
 · cases hf : g.fz b o with
   | some v' =>
     rw [hfz b o v' hf] at hv; injection hv with hv; subst hv
     obtain ⟨h1,h2⟩ := h.fz b o _ hf
     have hb : b < w.heap.size := World.block_lt_of_cell? w _ h1
     obtain ⟨_,k2,k3⟩ := O1 b hb (Gh.sub_own_none h2)
     exact ⟨(World.cell?_of_block (w := w) (a := ⟨b,o,none⟩) k2).trans h1,k3.trans h2⟩
   | none =>
     simp only [Gh.back,hf] at hv
     split at hv
     · cases hv
     · rename_i hc
       obtain ⟨h1,h2⟩ := hR.fz b o v hv
       refine ⟨h1,?_⟩
       simp only [Gh.back,h2]
       split
       · rename_i h0
         exact hnone b (fun hb => hc ⟨hb,h0⟩)
       · rfl
 · obtain ⟨v,hv,hd⟩ := h.slots t d ht; exact ⟨v,hv,hd.mono hle⟩
 · unfold backH at hn
   split at hn
   · rename_i hr
     have hk : n - nm < ns.length := by omega
     have hnk : ns[n - nm]? = some ns[n - nm] := List.getElem?_eq_getElem hk
     have hH := hro _ r _ hn hnk
     obtain ⟨hu,hRR⟩ := hR.roots _ r hH
     have hgd := zPt1 hnk
     have hnn : nm + (n - nm) = n := by omega
     refine ⟨.inr (by omega),RootR.mv (n := ns[n - nm]) (hok.roots r (List.mem_of_getElem? hn)) hscfz ?_ ?_ ?_ hRR (fun ho => ?_) (fun b x p ho => ?_)⟩
     · simp only [Gh.back]; rw [if_pos (by omega),hgd]
     · simp only [Gh.back]; rw [if_pos (by omega),hgd]
     · simp only [Gh.back]; rw [if_pos (by omega),hgd]
     · have := O2 _ _ _ _ hnk ho; rw [hnn] at this; exact this
     · have := O2 _ _ _ _ hnk ho; rw [hnn] at this; exact this
   · split at hn
     · rename_i k hp
       obtain ⟨pl,hk,rfl⟩ := zTd hp
       rw [plGetD hk] at hn
       obtain ⟨c0,hc0,hH0⟩ := hat k pl hk
       obtain ⟨r0,hr0,hrsz,hget,hrr⟩ := zDc hH0
       have hun := huse k pl hk
       have hlt := hnm pl.n hun
       have hk0 : k < ex.length := (List.getElem?_eq_some_iff.1 hk).1
       rw [hr0] at hn
       refine ⟨.inl hun,?_⟩
       cases hcp : res.places[k]? with
       | none => rw [hcp] at hn; cases r0 <;> simp [plBack] at hn
       | some c =>
         rw [hcp] at hn
         have hHk := hplc k c hcp
         have hmv := hok.places c (List.mem_of_getElem? hcp)
         obtain ⟨_,hRk⟩ := hR.roots k _ hHk
         cases hRk with
         | mk _ cs e hh ho hf hcell =>
           have hrbk : gc.rb k = g.rb pl.n := by have := hfr.gle.rb k hk0; rw [this]; simp only [Gh.sub,plGetD hk]
           have hbsk : gc.base k = g.base pl.n + pl.i * pl.sz := by have := hfr.gle.base k hk0; rw [this]; simp only [Gh.sub,plGetD hk]
           have hrb' : (g.back w (g.sub w ex br) gc ex ns nm).rb pl.n = g.rb pl.n := hle.rb _ hun
           have hbs' : (g.back w (g.sub w ex br) gc ex ns nm).base pl.n = g.base pl.n := hle.base _ hun
           have hrc' : (g.back w (g.sub w ex br) gc ex ns nm).rc pl.n = g.rc pl.n := hle.rc _ hun
           have hown := O3 _ k pl hk ho
           rw [hrbk] at hh hown
           have hcell' : ∀ j x,c[j]? = some x → ∃ v,cs[g.base pl.n + pl.i * pl.sz + j]? = some v ∧ BR w' (g.back w (g.sub w ex br) gc ex ns nm) pl.n [(pl.i,j)] x v := fun j x hx => by
             obtain ⟨v,hv,hbr⟩ := hcell 0 j x (by simpa [Root.get] using hx)
             refine ⟨v,by rw [hbsk] at hv; simpa [Root.sz] using hv,?_⟩
             cases hmv x (List.mem_of_getElem? hx) with
             | t x hmx => cases hbr with | t _ _ ht => exact .t _ _ (TR.mv hmx hscfz ht (fun b p hp' => O4 b k 0 j pl p hk (by simpa using hp')))
             | nilfn f => cases hbr with | v _ _ hcv => cases hcv with | fn _ _ vs hs' _ => exact .v _ _ (.fn f [] vs hs' (fun j x v hj => by simp at hj))
           rcases hrr with ⟨c',rfl,_,hi0⟩ | ⟨rows,row,rfl,hrow,hcr⟩
           · simp only [plBack,yay] at hn
             subst hn
             refine .mk (.box c) cs e (by rw [hrb']; exact hh) (by rw [hrb']; exact hown) trivial (fun i j x hx => ?_)
             cases i with
             | succ i => simp [Root.get] at hx
             | zero =>
               obtain ⟨v,hv,hbr⟩ := hcell' j x (by simpa [Root.get] using hx)
               rw [hi0] at hv hbr
               exact ⟨v,by rw [hbs']; simpa [Root.sz] using hv,hbr⟩
           · simp only [plBack] at hn
             split at hn
             · rename_i ts hts
               split at hn
               · rename_i htl
                 injection hn with hn
                 subst hn
                 cases (h.roots _ _ hr0).2 with
                 | arr0 _ _ _ => simp at hrow
                 | mk _ cs0 e0 hh0 ho0 hf0 hcell0 =>
                   obtain ⟨f1,f2,f3,f4⟩ := hf0
                   have hg0 : (g.sub w ex br).own (g.rb pl.n) = some (k,[]) := Gh.sub_own_top ho0 hp
                   obtain ⟨_,k1,d1,d2,e2,k2,k3,k4,k5⟩ := hfr.place _ k hg0
                   simp only [] at k2
                   rw [hh0] at k2
                   injection k2 with k2
                   injection k2 with k2 k2'
                   subst k2; subst k2'
                   rw [hh] at k3
                   injection k3 with k3
                   injection k3 with k3 k3'
                   subst k3; subst k3'
                   have hwid : (hs.getD k []).length = pl.sz := by
                     simp only [List.getD,hc0,yaF,hcr,List.length_map]
                     exact f4 _ row hrow
                   have hbase0 : (g.sub w ex br).base k = g.base pl.n + pl.i * pl.sz := by simp only [Gh.sub,plGetD hk]
                   refine .mk _ cs _ (by rw [hrb']; exact hh) (by rw [hrb']; exact hown) ⟨by rw [hbs']; exact f1,by rw [hrc',k4]; exact f2,by rw [hrc']; simpa using f3,fun i r' hr' => ?_⟩ (fun i j x hx => ?_)
                   · rw [List.getElem?_set] at hr'
                     split at hr'
                     · split at hr'
                       · injection hr' with hr'; subst hr'; exact htl
                       · cases hr'
                     · exact f4 i r' hr'
                   · rw [hbs']
                     simp only [Root.sz]
                     simp only [Root.get,List.getElem?_set] at hx
                     by_cases hi : pl.i = i
                     · subst hi
                       have hlti : pl.i < rows.length := (List.getElem?_eq_some_iff.1 hrow).1
                       rw [if_pos rfl,if_pos hlti] at hx
                       simp only [Option.map_eq_some_iff] at hx
                       obtain ⟨t,ht,rfl⟩ := hx
                       obtain ⟨y,hy,hyt⟩ := zBl hts j t ht
                       have hyb : y = .t t := by cases y with
                         | t z => simp only [unB,yay] at hyt; rw [hyt]
                         | v z => simp [unB] at hyt
                       subst hyb
                       exact hcell' j _ hy
                     · rw [if_neg hi] at hx
                       have hx0 : (Root.arr pl.sz rows).get i j = some x := by simp only [Root.get]; exact hx
                       obtain ⟨v,hv,hbr⟩ := hcell0 i j x hx0
                       simp only [Root.sz] at hv
                       refine ⟨v,?_,?_⟩
                       · rw [k5 _ ?_]
                         · exact hv
                         · show _ < (g.sub w ex br).base k ∨ (g.sub w ex br).base k + (hs.getD k []).length ≤ _
                           rw [hbase0,hwid]
                           have hjs : j < pl.sz := by
                             have hfm : (Root.arr pl.sz rows).form (g.base pl.n) (g.rc pl.n) cs0.size := ⟨f1,f2,f3,f4⟩
                             rcases Root.get_lt hfm hx0 with ⟨_,hh9,_⟩ | ⟨sz9,rows9,hh9,hj9⟩
                             · cases hh9
                             · cases hh9; exact hj9
                           rcases Nat.lt_or_gt_of_ne hi with hlt' | hlt'
                           · have := Nat.mul_le_mul_right pl.sz (show pl.i + 1 ≤ i by omega)
                             rw [Nat.add_mul] at this
                             omega
                           · have := Nat.mul_le_mul_right pl.sz (show i + 1 ≤ pl.i by omega)
                             rw [Nat.add_mul] at this
                             omega
                       · cases hbr with
                         | t t0 _ ht =>
                           refine .t _ _ (ht.keep hle (fun b p ho9 => ?_))
                           have hnone0 : (g.sub w ex br).own b = none := by
                             simp only [Gh.sub,ho9,hp,List.singleton_append,plGetD hk]
                             rw [if_neg (fun e => hi e.symm)]
                           obtain ⟨_,q2,q3⟩ := O1 b (h.lt b _ ho9) hnone0
                           exact ⟨q3.trans ho9,q2⟩
                         | v x0 _ hcv => exact .v _ _ (hcv.mono hle)
               · cases hn
             · cases hn
     · rename_i hp
       obtain ⟨hu,hRR⟩ := h.roots n r hn
       refine ⟨.inl hu,hRR.keep hu hle (fun b p ho => ?_)⟩
       obtain ⟨_,k2,k3⟩ := O1 b (h.lt b _ ho) (Gh.sub_own_out ho (zHt.1 hp))
       exact ⟨k3.trans ho,k2⟩
 · have hu0 := (h.fr.place b n hb).1
   have hlt := hnm n (h.fr.gle.used n hu0)
   unfold backH at hn
   rw [if_neg (by omega)] at hn
   split at hn
   · rename_i k hp
     obtain ⟨pl,hk,rfl⟩ := zTd hp
     rw [plGetD hk] at hn
     obtain ⟨c0,hc0,hH0⟩ := hat k pl hk
     obtain ⟨r0,hr0,hrsz,hget,hrr⟩ := zDc hH0
     obtain ⟨c1,hc1,hl1⟩ := h.wd _ _ b hr0 hb
     subst hc1
     rcases hrr with ⟨c',hc',rfl,hi0⟩ | ⟨rows,row,hrw,_⟩
     · injection hc' with hc'; subst hc'
       rw [hr0] at hn
       cases hcp : res.places[k]? with
       | none => rw [hcp] at hn; simp [plBack] at hn
       | some c =>
         rw [hcp] at hn
         simp only [plBack,yay] at hn
         subst hn
         have hHk := hplc k c hcp
         cases (h.roots _ _ hr0).2 with
         | mk _ cs e hh ho hf hr =>
           have hg0 : (g.sub w ex br).own (g.rb pl.n) = some (k,[]) := Gh.sub_own_top ho hp
           obtain ⟨c2,hc2,hl2⟩ := hR.wd k _ _ hHk hg0
           injection hc2 with hc2; subst hc2
           refine ⟨c,rfl,Nat.le_trans hl2 ?_⟩
           simpa [List.getD,hc0] using hl1
     · cases hrw
   · exact h.wd n r b hn hb
 · have hC : ∀ (x x0 y : C) (u : Value),OkC sc res.roots.length x → reC (fun n => ns.getD n 0) x = some x0 → reC (fun n => nm + n) x = some y → CV gc x0 u → CV (g.back w (g.sub w ex br) gc ex ns nm) y u := by
     intro x x0 y u hx hx0 hy hu
     have hnames : ∀ n,n < res.roots.length → (g.back w (g.sub w ex br) gc ex ns nm).used (nm + n) ∧ (g.back w (g.sub w ex br) gc ex ns nm).rb (nm + n) = gc.rb (ns.getD n 0) ∧
         (g.back w (g.sub w ex br) gc ex ns nm).base (nm + n) = gc.base (ns.getD n 0) ∧ (g.back w (g.sub w ex br) gc ex ns nm).rc (nm + n) = gc.rc (ns.getD n 0) := fun n hn => by
       refine ⟨.inr ⟨by omega,by omega⟩,?_,?_,?_⟩ <;> (simp only [Gh.back]; rw [if_pos (by omega),show nm + n - nm = n by omega])
     cases hx with
     | im i hi =>
       simp only [reC,yay] at hx0 hy
       subst hx0; subst hy
       cases hu with
       | im _ _ hir =>
         refine .im _ _ ?_
         rcases hi with hi | hi
         · exact hir.mono (hscfz hi)
         · exact hir.sc hi
     | nil =>
       simp only [reC,yay] at hx0 hy
       subst hx0; subst hy
       cases hu; exact .nil
     | view n sz lo len hn =>
       simp only [reC,yay] at hx0 hy
       subst hx0; subst hy
       obtain ⟨n1,n2,n3,n4⟩ := hnames n hn
       cases hu with
       | view0 _ _ _ A _ => exact .view0 _ _ _ A n1
       | view _ _ _ _ cap _ hb hlc hcap => rw [← n2]; exact .view _ _ _ _ cap n1 (n3.trans hb) hlc (by rw [n4]; exact hcap)
     | ptr n sz i off hn =>
       simp only [reC,yay] at hx0 hy
       subst hx0; subst hy
       obtain ⟨n1,n2,n3,n4⟩ := hnames n hn
       cases hu with
       | ptr _ _ _ _ _ => rw [← n2,← n3]; exact .ptr _ _ _ _ n1
   have hA : ∀ (xs ys zs : List C) (vs : Array Value),(∀ x ∈ xs,OkC sc res.roots.length x) → mapO (reC (fun n => ns.getD n 0)) xs = some ys → mapO (reC (fun n => nm + n)) xs = some zs →
       DV gc (.agg ys) (.agg vs) → DV (g.back w (g.sub w ex br) gc ex ns nm) (.agg zs) (.agg vs) := by
     intro xs ys zs vs hx hy hz hv
     cases hv with
     | agg _ _ hs hr =>
       refine .agg _ _ (by rw [hs,zBi hy,zBi hz]) (fun j z u hj hu => ?_)
       obtain ⟨x,hxj,hxz⟩ := zBl hz j z hj
       have hjl : j < ys.length := by rw [zBi hy]; exact (List.getElem?_eq_some_iff.1 hxj).1
       obtain ⟨x',hxj',hxy⟩ := zBl hy j _ (List.getElem?_eq_getElem hjl)
       rw [hxj] at hxj'; injection hxj' with hxj'; subst hxj'
       exact hC x _ z u (hx x (List.mem_of_getElem? hxj)) hxy hxz (hr j _ u (List.getElem?_eq_getElem hjl) hu)
   have hval := hok.val
   generalize res.val = vd at hval hre hre0
   cases hval with
   | c x hx =>
     simp only [reD] at hre hre0
     split at hre0
     · rename_i x0 hx0
       split at hre
       · rename_i y hy
         injection hre with hre; injection hre0 with hre0
         subst hre; subst hre0
         cases hdv with | c _ _ hv => exact .c _ _ (hC x x0 y _ hx hx0 hy hv)
       · cases hre
     · cases hre0
   | agg xs hx =>
     simp only [reD] at hre hre0
     split at hre0
     · rename_i ys hys
       split at hre
       · rename_i zs hzs
         injection hre with hre; injection hre0 with hre0
         subst hre; subst hre0
         cases hdv with | agg _ vs hs hr => exact hA xs ys zs vs hx hys hzs (.agg _ _ hs hr)
       · cases hre
     · cases hre0
   | tup ds hx =>
     simp only [reD] at hre hre0
     split at hre0
     · rename_i ys hys
       split at hre
       · rename_i zs hzs
         injection hre with hre; injection hre0 with hre0
         subst hre; subst hre0
         cases hdv with
         | tup _ vs hs hr =>
           refine .tup _ _ (by rw [hs,zBi hys,zBi hzs]) (fun j z u hj hu => ?_)
           obtain ⟨x,hxj,hxz⟩ := zBl hzs j z hj
           have hjl : j < ys.length := by rw [zBi hys]; exact (List.getElem?_eq_some_iff.1 hxj).1
           obtain ⟨x',hxj',hxy⟩ := zBl hys j _ (List.getElem?_eq_getElem hjl)
           rw [hxj] at hxj'; injection hxj' with hxj'; subst hxj'
           have hu' := hr j _ u (List.getElem?_eq_getElem hjl) hu
           rcases hx x (List.mem_of_getElem? hxj) with ⟨c,rfl,hc⟩ | ⟨cs,rfl,hc⟩
           · simp only [] at hxy hxz
             split at hxy
             · rename_i c0 hc0
               split at hxz
               · rename_i c1 hc1
                 injection hxy with hxy; injection hxz with hxz
                 subst hxz
                 rw [← hxy] at hu'
                 cases hu' with | c _ _ hv => exact .c _ _ (hC c c0 c1 _ hc hc0 hc1 hv)
               · cases hxz
             · cases hxy
           · simp only [] at hxy hxz
             split at hxy
             · rename_i c0 hc0
               split at hxz
               · rename_i c1 hc1
                 injection hxy with hxy; injection hxz with hxz
                 subst hxz
                 rw [← hxy] at hu'
                 cases hu' with | agg _ vs hs hr => exact hA cs c0 c1 vs hc hc0 hc1 (.agg _ _ hs hr)
               · cases hxz
             · cases hxy
       · cases hre
     · cases hre0
theorem zLi1 (h : Rel en g S H a w) {nm : Nat} {f : FuncId} {ct : Ct} (hG : Good P f ct) {ex : List Plc} {hs : List (List B)} (hpl : PlOk H ex hs) {br : Bool} (hbr : br = true → ct.sc = true)
   {ds ds' : List D} {args : List Value} (hal : args.length = ds.length) (hdv : ∀ (t : Nat) (d : D) (v : Value),ds[t]? = some d → args[t]? = some v → DV g d v)
   (hlo : mapO (loD ex (if br then H else fun _ => none)) ds = some ds') {o : Outs} (hrun : ct.run ds' hs = some o) :
   Calls P f args.toArray w (fun e w' => ∃ v,e = .returned v ∧ ∃ res,o.mem res ∧ ∀ d,reD (fun n => nm + n) res.val = some d → (∀ m,g.used m → ¬ (nm ≤ m ∧ m < nm + res.roots.length)) →
     ∃ g',g.le g' ∧ (∀ m,g'.used m → g.used m ∨ (nm ≤ m ∧ m < nm + res.roots.length)) ∧ Rel en g' S (backH H ex nm res) a w' ∧ DV g' d v) := by
 have hsub := zOb1 h hpl br (H0 := if br then H else fun _ => none) (fun n r hr => by
   cases br with
   | true => exact ⟨rfl,hr⟩
   | false => cases hr) hal hdv hlo
 have := hG.at_ ds' hs o hrun ⟨g.sub w ex br,w,fun k => (hs.getD k []).length⟩ args (by rw [hal,zBi hlo]) (fun n hn => by rw [hpl.2.1]; exact hn) hsub
 exact this.mono fun e w' ⟨v,he,res,hm,hdone⟩ => ⟨v,he,res,hm,fun d hre hnm => zLl1 h hnm hpl hbr (hG.ok ds' hs o hrun res hm) hdone hre⟩
end Go.SX
