/-
  SX: the engine, parts K to T, in one text. Plain definitions and theorems over any program.
  No condition.
-/
import Derived.Calls
import Derived.Orders
import Derived.Tactics
import Derived.Scope
import Derived.Test.YtojcifdnmihebaaGreatPkA
set_option linter.unusedVariables false
set_option linter.unusedSimpArgs false
namespace Go.SX
open Go Go.RowKit
variable {en : En} {g : Gh} {S : Nat → Option D} {H : Nat → Option Root} {a : Act} {w : World} {P : Program}
def tby (P : Program) (t : TypeId) : Option Nat := match P.info? t with | some i => some i.bytes | none => none
theorem elT {t e : TypeId} {sz bytes : Nat} {zc : List C} (ht : tel P t = some e) (hs : tsz P e = some sz) (hb : tby P e = some bytes) (hz : tzr P e = some zc) (hl : zc.length = sz) : ElT P t e sz bytes := by
  refine ⟨tel_under ht, ?_⟩
  unfold tsz at hs
  unfold tby at hb
  unfold tzr at hz
  cases hi : P.info? e with
  | none => simp [hi] at hs
  | some i =>
    simp only [hi, Option.some.injEq] at hs hb hz
    cases hzz : i.zero with
    | none => simp [hzz] at hz
    | some z =>
      simp only [hzz] at hz
      have := (mapCV_sound (g := ⟨fun _ => False, fun _ => 0, fun _ => 0, fun _ => 0, fun _ => none, fun _ _ => none⟩) hz).1
      exact ⟨i, z, rfl, hs, hb, hzz, by rw [← hl, ← this]; simp⟩
def appendH (P : Program) (t : TypeId) (S : Nat → Option D) (H : Nat → Option Root) (s x : Operand) : Option (Nat × Nat × List (List T) × Option Nat) :=
  match tel P t with
  | some e => match tsz P e, tby P e, tzr P e with
    | some sz, some bytes, some zc => if zc.length = sz ∧ 0 < sz ∧ 0 < bytes then match srcRows S H x sz with
        | some src => match evC S s with
          | some (.view n sz' 0 len) => if sz' = sz then match H n with
              | some (.arr sz2 rows) => if sz2 = sz ∧ rows.length = len then some (sz, bytes, rows ++ src, some n) else none
              | _ => none
            else none
          | some .nil => some (sz, bytes, src, none)
          | _ => none
        | none => none
      else none
    | _, _, _ => none
  | none => none
theorem appendH_sound (h : Rel en g S H a w) {t ty : TypeId} {s x : Operand} {sz bytes nm : Nat} {rows : List (List T)} {on : Option Nat} (hd : appendH P t S H s x = some (sz, bytes, rows, on)) (hnm : ¬ g.used nm)
    (hb : rows.length * bytes ≤ 140737488355328) :
    ∃ v w', (Builtin.append_ #[t, t] ty #[a.eval s, a.eval x]).run P w = .ok v w' ∧ Grown en g nm S (match on with | some n => upd H n none | none => H) a w' sz rows v := by
  unfold appendH at hd
  split at hd
  · rename_i e ht
    split at hd
    · rename_i sz1 bytes1 zc hsz hby hzr
      split at hd
      · rename_i hc
        obtain ⟨hzl, hs0, hb0⟩ := hc
        split at hd
        · rename_i src hsrc
          have he := elT ht hsz hby hzr hzl
          obtain ⟨A, c, news, hx, hS⟩ := srcRows_sound h hs0 hsrc
          have hz : ∀ k, (Builtin.zeroCells (((P.info? e).bind (·.zero)).getD undef).cells k).size = k * sz1 := fun k => by
            obtain ⟨i, z, hi, _, _, hzz, hzs⟩ := he.info
            simp [hi, hzz, size_zeroCells, hzs]
          have hNone : ∀ (n : Nat) (A' : Option Addr), a.eval s = .slice A' 0 0 → rows = src → sz = sz1 → bytes = bytes1 → (∀ b', en.g0.own b' ≠ some (n, [])) →
              ∃ v w', (Builtin.append_ #[t, t] ty #[a.eval s, a.eval x]).run P w = .ok v w' ∧ Grown en g nm S (upd H n none) a w' sz rows v := by
            rintro n A' hev rfl rfl rfl hpl
            rcases Nat.eq_zero_or_pos rows.length with hk | hk
            · have hr0 : rows = [] := List.eq_nil_of_length_eq_zero hk
              subst hr0
              obtain ⟨g', h1, h2, h3, h4⟩ := h.new0 hnm hs0 n
              exact ⟨_, w, by rw [hev, hx]; exact run_append_zero he A' A 0 0 c (Nat.le_refl _) w, g', h1, h3, h4, .view0 nm sz 0 A' h2⟩
            · rcases hS.at_ with h0 | ⟨b, o, rfl, hat⟩
              · omega
              · obtain ⟨cap', hc1, hrun⟩ := run_append_more (ty := ty) (B := A') (len := 0) (cap := 0) (olds := []) he w (by simp) (.inl rfl) (fun _ => rfl) hk hS.len hat (by omega) hb0 (by rw [Nat.zero_add]; exact hb)
                have hG := grow_rel (ty := ty) h he hs0 hnm hpl hS (rows := []) (olds := []) (fun i r hr => by simp at hr) (by simp) (fun i r j x hr => by simp at hr) (cap' := cap') (by simpa using hc1)
                  (Builtin.zeroCells (((P.info? e).bind (·.zero)).getD undef).cells (cap' - ([].length + rows.length))) (by rw [hz])
                simp only [List.length_nil, Nat.zero_add, List.nil_append] at hG hrun
                exact ⟨_, _, by rw [hev, hx]; exact hrun, hG⟩
          split at hd
          · rename_i n sz' len hsv
            split at hd
            · rename_i hsz'
              rw [hsz'] at hsv
              clear hsz'
              split at hd
              · rename_i sz2 rows0 hn
                split at hd
                · rename_i hc2
                  obtain ⟨hc21, hc22⟩ := hc2
                  rw [hc21] at hn
                  rw [← hc22] at hsv
                  clear hc21 hc22
                  simp only [Option.some.injEq, Prod.mk.injEq] at hd
                  obtain ⟨rfl, rfl, rfl, rfl⟩ := hd
                  have hpl : ∀ b', en.g0.own b' ≠ some (n, []) := fun b' hb' => by
                    obtain ⟨c0, hc0, _⟩ := h.wd n _ b' hn hb'
                    cases hc0
                  have hv := evC_sound h hsv
                  obtain ⟨hu, hR⟩ := h.roots n _ hn
                  have hlenr : (rows0 ++ src).length = rows0.length + src.length := by simp
                  generalize hlen : rows0.length = len0 at hv
                  generalize hev : a.eval s = u at hv
                  cases hv with
                  | view0 _ _ _ A' hu' =>
                    have hr0 : rows0 = [] := List.eq_nil_of_length_eq_zero hlen
                    subst hr0
                    have := hNone n A' hev rfl rfl rfl hpl
                    rw [hev] at this
                    exact this
                  | view _ _ _ _ cap hu' hbase hl hc' =>
                    subst hlen
                    rw [Nat.zero_mul] at hev ⊢
                    rw [Nat.zero_add] at hc'
                    cases hR with
                    | arr0 _ hs' h0 =>
                      have hcap0 : cap = 0 := by
                        rcases Nat.eq_zero_or_pos cap with h1 | h1
                        · exact h1
                        · have := Nat.mul_pos h1 hs0; omega
                      subst hcap0
                      have := hNone n _ hev rfl rfl rfl hpl
                      rw [hev] at this
                      exact this
                    | mk _ cs e' hh hon hf hr =>
                      obtain ⟨hb9, hcs, hrl, hrows⟩ := hf
                      by_cases hroom : rows0.length + src.length ≤ cap
                      ·
                        have hfit : rows0.length * sz1 + 0 + news.length ≤ cs.size := by
                          rw [hS.len, Nat.add_zero, ← Nat.add_mul, hcs]
                          exact Nat.le_trans (Nat.mul_le_mul_right _ hroom) hc'
                        have hone : ∀ v ∈ news, v.oneCell' = true := fun v hv => by
                          obtain ⟨p, hp, rfl⟩ := List.mem_iff_getElem.1 hv
                          rw [hS.len] at hp
                          have hi : p / sz1 < src.length := Nat.div_lt_of_lt_mul (by rw [Nat.mul_comm]; exact hp)
                          have hj : p % sz1 < sz1 := Nat.mod_lt _ hs0
                          have h1 := hS.row _ _ (List.getElem?_eq_getElem hi)
                          obtain ⟨v, hv, htf⟩ := hS.val (p / sz1) _ (p % sz1) _ (List.getElem?_eq_getElem hi) (List.getElem?_eq_getElem (show p % sz1 < (src[p / sz1]).length by omega))
                          rw [Nat.mul_comm, Nat.div_add_mod] at hv
                          rw [(List.getElem?_eq_some_iff.1 hv).2]
                          exact htf.one
                        have hst := run_storeCells_sets P (g.rb n) (rows0.length * sz1) e' news 0 cs w hh hfit hone
                        rw [Nat.add_zero] at hst
                        obtain ⟨i, z, hi, his, hib, hiz, hzs⟩ := he.info
                        have hfc : (Builtin.firstCells sz1 src.length (.slice A src.length c)).run P w = .ok news.toArray w := by
                          rcases hS.at_ with h0 | ⟨b, o, rfl, hat⟩
                          · have hn0 : news = [] := List.eq_nil_of_length_eq_zero (by rw [hS.len, h0, Nat.zero_mul])
                            subst hn0
                            rw [h0]
                            cases A <;> simp [Builtin.firstCells, loadCells, loadCellsFrom]
                          · exact run_firstCells_some (P := P) w sz1 src.length ⟨b, o, none⟩ src.length c news hS.len (fun j v hv => by rw [add_plain]; exact hat j v hv)
                        refine ⟨.slice (some ⟨g.rb n, 0, none⟩) (rows0.length + src.length) cap, w.setRow (g.rb n) (setsA cs (rows0.length * sz1) news), ?_, ?_⟩
                        · rw [hx]
                          simp [Builtin.append_, run_underlying he.under, sizeOf, typeInfo, hi, his, Builtin.lenOf, hroom, hfc, add_plain, hst]
                        · exact room_rel h hs0 hnm hpl hS hh hon ⟨hb9, hcs, hrl, hrows⟩ hr hroom hc'
                      ·
                        have hcell : ∀ p, p < rows0.length * sz1 → ∃ v, cs[p]? = some v := fun p hp => ⟨_, Array.getElem?_eq_getElem (by omega)⟩
                        obtain ⟨olds, ho1, ho2⟩ := at_list hcell
                        have hk : 0 < src.length := by omega
                        rcases hS.at_ with h0 | ⟨b, o, rfl, hat⟩
                        · omega
                        · have hAt : At w (g.rb n) 0 olds := fun j v hv => by
                            have hj : j < rows0.length * sz1 := by rw [← ho1]; exact (List.getElem?_eq_some_iff.1 hv).1
                            rw [ho2 j hj] at hv
                            rw [cell_of_row w _ _ cs e' _ hh, Nat.zero_add]; exact hv
                          obtain ⟨cap', hc1, hrun⟩ := run_append_more (ty := ty) (B := some ⟨g.rb n, 0, none⟩) (len := rows0.length) (cap := cap) (olds := olds) he w ho1 (.inr ⟨_, _, rfl, hAt⟩) (fun h9 => by cases h9) hk hS.len hat (by omega) hb0 (by rw [hlenr] at hb; exact hb)
                          have hG := grow_rel (ty := ty) h he hs0 hnm hpl hS (rows := rows0) (olds := olds) hrows ho1 (fun i r j y hr' hy => by
                              obtain ⟨v, hv, hbr⟩ := hr i j (.t y) (by simp [Root.get, hr', hy])
                              rw [hb9, Nat.zero_add] at hv
                              simp only [Root.sz] at hv
                              have hjs : j < sz1 := by rw [← hrows i r hr']; exact (List.getElem?_eq_some_iff.1 hy).1
                              have hil : i < rows0.length := (List.getElem?_eq_some_iff.1 hr').1
                              have hlt : i * sz1 + j < rows0.length * sz1 := by
                                have h2 := Nat.mul_le_mul_right sz1 (show i + 1 ≤ rows0.length by omega)
                                rw [Nat.add_mul] at h2; omega
                              exact ⟨v, by rw [ho2 _ hlt]; exact hv, by cases hbr with | t _ _ h => exact h⟩) (cap' := cap') hc1
                            (Builtin.zeroCells (((P.info? e).bind (·.zero)).getD undef).cells (cap' - (rows0.length + src.length))) (hz _)
                          exact ⟨_, _, by rw [hx]; exact hrun, hG⟩
                · cases hd
              · cases hd
            · cases hd
          · rename_i hsv
            simp only [Option.some.injEq, Prod.mk.injEq] at hd
            obtain ⟨rfl, rfl, rfl, rfl⟩ := hd
            have hv := evC_sound h hsv
            generalize hev : a.eval s = u at hv
            cases hv with
            | nil =>
              have hpl : ∀ b', en.g0.own b' ≠ some (nm, []) := fun b' hb' => hnm (h.fr.gle.used nm (h.fr.place b' nm hb').1)
              obtain ⟨v, w', h1, g', h2, h3, h4, h5⟩ := hNone nm none hev rfl rfl rfl hpl
              rw [hev] at h1
              refine ⟨v, w', h1, g', h2, h3, h4.less (fun _ _ h => h) (fun k r hk => ?_), h5⟩
              unfold upd at hk ⊢
              by_cases e' : k = nm
              · rw [if_pos e'] at hk ⊢; exact hk
              · rw [if_neg e'] at hk ⊢; rw [if_neg e']; exact hk
          · cases hd
        · cases hd
      · cases hd
    · cases hd
  · cases hd
end Go.SX
set_option linter.unusedVariables false
set_option linter.unusedSimpArgs false
namespace Go.SX
open Go Go.RowKit
variable {en : En} {g : Gh} {S : Nat → Option D} {H : Nat → Option Root} {a : Act} {w : World} {P : Program}
def mkOp (P : Program) (S : Nat → Option D) (o : Op) (nm : Nat) : Option (D × Root) :=
  match o with
  | .alloc t => match tzr P t with
    | some cs => some (.c (.ptr nm 0 0 0), .box (cs.map toB))
    | none => none
  | .box t x => match ev S x with
    | some d => match dCs d with
      | some cs => some (.c (.ptr nm 0 0 0), .box (cs.map toB))
      | none => none
    | none => none
  | .buildSlice t len parts => match tel P t with
    | some e => match tsz P e, tzr P e with
      | some sz, some zc => if zc.length = sz ∧ 0 < sz ∧ len * sz ≤ 16777216 then match rowsD sz S parts.toList (List.replicate len zc) with
          | some rows => match mapTs rows with
            | some ts => some (.c (.view nm sz 0 len), .arr sz ts)
            | none => none
          | none => none
        else none
      | _, _ => none
    | none => none
  | .makeSlice t l c => match tel P t with
    | some e => match tsz P e, tby P e, tzr P e with
      | some sz, some by_, some zc => match mapT zc with
        | some zt => if zc.length = sz ∧ 0 < sz then match evI S l, evI S c with
            | some (.int _ n), some (.int _ m) => if 0 ≤ n ∧ n ≤ m ∧ m ≤ 9223372036854775807 ∧ (by_ : Int) * m ≤ 281474976710656 then some (.c (.view nm sz 0 n.toNat), .arr sz (List.replicate n.toNat zt)) else none
            | _, _ => none
          else none
        | none => none
      | _, _, _ => none
    | none => none
  | _ => none
theorem tby_info {e : TypeId} {sz by_ : Nat} {zc : List C} (hs : tsz P e = some sz) (hb : tby P e = some by_) (hz : tzr P e = some zc) :
    ∃ i z, P.info? e = some i ∧ i.size = sz ∧ i.bytes = by_ ∧ i.zero = some z ∧ mapCV z.cells.toList = some zc := by
  unfold tsz at hs
  unfold tby at hb
  unfold tzr at hz
  cases hi : P.info? e with
  | none => simp [hi] at hs
  | some i =>
    simp only [hi, Option.some.injEq] at hs hb hz
    cases hzz : i.zero with
    | none => simp [hzz] at hz
    | some z => simp only [hzz] at hz; exact ⟨i, z, rfl, hs, hb, hzz, hz⟩
theorem tsz_info {e : TypeId} {sz : Nat} {zc : List C} (hs : tsz P e = some sz) (hz : tzr P e = some zc) :
    ∃ i z, P.info? e = some i ∧ i.size = sz ∧ i.zero = some z ∧ mapCV z.cells.toList = some zc := by
  unfold tsz at hs
  unfold tzr at hz
  cases hi : P.info? e with
  | none => simp [hi] at hs
  | some i =>
    simp only [hi, Option.some.injEq] at hs hz
    cases hzz : i.zero with
    | none => simp [hzz] at hz
    | some z => simp only [hzz] at hz; exact ⟨i, z, rfl, hs, hzz, hz⟩
theorem mapTs_replicate {zc : List C} {zt : List T} (h : mapT zc = some zt) : ∀ n, mapTs (List.replicate n zc) = some (List.replicate n zt)
  | 0 => rfl
  | n + 1 => by simp [List.replicate_succ, mapTs, h, mapTs_replicate h n]
theorem mkOp_sound (h : Rel en g S H a w) {o : Oper} {nm : Nat} {d : D} {r : Root} (hnm : ¬ g.used nm) (hd : mkOp P S o.op nm = some (d, r)) :
    ∃ v w' g', (execOp a.eval o).run P w = .ok (.value v) w' ∧ Made en g g' nm S (upd H nm (some r)) a w' d v := by
  obtain ⟨dst, op, type, pos, after, guard⟩ := o
  simp only at hd
  unfold mkOp at hd
  split at hd
  · rename_i t
    split at hd
    · rename_i cs hz
      simp only [Option.some.injEq, Prod.mk.injEq] at hd
      obtain ⟨rfl, rfl⟩ := hd
      obtain ⟨z, hzr, hzc⟩ := tzr_sound (g := g) hz
      refine ⟨_, _, _, ?_, new_box h hnm hzc t⟩
      simp [execOp, Instr.alloc, hzr, newVar, newRow]
    · cases hd
  · rename_i t x
    split at hd
    · rename_i d0 he
      split at hd
      · rename_i cs hcs
        simp only [Option.some.injEq, Prod.mk.injEq] at hd
        obtain ⟨rfl, rfl⟩ := hd
        refine ⟨_, _, _, ?_, new_box h hnm (dCs_sound (ev_sound h he) hcs) t⟩
        simp [execOp, Instr.box, newVar, newRow]
      · cases hd
    · cases hd
  · rename_i t len parts
    split at hd
    · rename_i e ht
      split at hd
      · rename_i sz zc hsz hz
        split at hd
        · rename_i hc
          split at hd
          · rename_i rows hrows
            split at hd
            · rename_i ts hts
              simp only [Option.some.injEq, Prod.mk.injEq] at hd
              obtain ⟨rfl, rfl⟩ := hd
              obtain ⟨i, z, hi, his, hiz, hmc⟩ := tsz_info hsz hz
              have hzc : CVs g zc z.cells.toList := mapCV_sound hmc
              obtain ⟨hzl, hs0, hlim⟩ := hc
              have hF := flat_zero (g := g) hzc hzl hs0 len
              obtain ⟨A', h1, h2, h3⟩ := rowsD_sound h parts.toList _ _ _ hF hrows
              obtain ⟨k1, k2, k3⟩ := flat_T h2 hts
              have hlen : ts.length = len := by rw [k1, h3]; simp
              have := new_arr h hnm k2 k3 e len (by omega) (by rw [h2.1, h3]; simp)
              refine ⟨_, _, _, ?_, by rw [hlen] at this; exact this⟩
              have e1 : (Array.map (fun (p : Nat × Operand) => (p.1, a.eval p.2)) parts).toList = parts.toList.map fun (p : Nat × Operand) => (p.1, a.eval p.2) := by simp
              have hnl : ¬ (2 ^ 24 < len * sz) := by omega
              by_cases hn : len * sz = 0
              · have hm : madeCells z.cells (len * sz) = #[] := by simp [hn, madeCells, Array.range_zero']
                rw [hm] at h1
                simp [execOp, Instr.buildSlice, run_underlying (tel_under ht), run_sizeOf hsz, hn, newRow, Array.range_zero', h1]
              · have hm : (Array.range (len * sz)).map (z.cells[· % z.cells.size]!) = madeCells z.cells (len * sz) := rfl
                simp [execOp, Instr.buildSlice, run_underlying (tel_under ht), run_sizeOf hsz, hn, hnl, newRow, zeroValue, typeInfo, hi, hiz, hm, h1]
            · cases hd
          · cases hd
        · cases hd
      · cases hd
    · cases hd
  · rename_i t l c
    split at hd
    · rename_i e ht
      split at hd
      · rename_i sz by_ zc hsz hby hz
        split at hd
        · rename_i zt hzt
          split at hd
          · rename_i hc
            split at hd
            · rename_i kl n kc m hl hm
              split at hd
              · rename_i hb
                simp only [Option.some.injEq, Prod.mk.injEq] at hd
                obtain ⟨rfl, rfl⟩ := hd
                obtain ⟨i, z, hi, his, hib, hiz, hmc⟩ := tby_info hsz hby hz
                have hzc : CVs g zc z.cells.toList := mapCV_sound hmc
                obtain ⟨hzl, hs0⟩ := hc
                obtain ⟨hb1, hb2, hb3, hb4⟩ := hb
                have hF := flat_zero (g := g) hzc hzl hs0 m.toNat
                obtain ⟨k1, k2, k3⟩ := flat_T hF (mapTs_replicate hzt _)
                have hnm' : n.toNat ≤ m.toNat := by omega
                have hrep : ∀ (i : Nat) (r : List T), (List.replicate n.toNat zt)[i]? = some r → (List.replicate m.toNat zt)[i]? = some r := fun i r hr => by
                  rw [List.getElem?_replicate] at hr ⊢
                  split at hr
                  · rw [if_pos (by omega)]; exact hr
                  · cases hr
                have := new_arr h hnm (rows := List.replicate n.toNat zt) (fun i r hr => k2 i r (hrep i r hr)) (fun i r j x hr hx => k3 i r j x (hrep i r hr) hx) e m.toNat (by simpa using hnm') (by rw [hF.1]; simp)
                rw [List.length_replicate] at this
                refine ⟨_, _, _, ?_, this⟩
                have hrun := run_make (P := P) w t e i z (tel_under ht) hi hiz kl kc n m hb1 hb2 (by rw [hib]; exact hb4) hb3
                rw [his] at hrun
                simp only [execOp, (evI_sound h hl).int_inv, (evI_sound h hm).int_inv, Sem.run_bind, hrun, Result.andThen_ok]
                rfl
              · cases hd
            · cases hd
          · cases hd
        · cases hd
      · cases hd
    · cases hd
  · cases hd
def clearH (P : Program) (t : TypeId) (S : Nat → Option D) (H : Nat → Option Root) (x : Operand) : Option (Nat × Root) :=
  match tel P t with
  | some e => match tsz P e, tzr P e with
    | some sz0, some zc => match mapT zc with
      | some zt => match evC S x with
        | some (.view n sz lo len) => match H n with
          | some (.arr sz' rows) => if (sz0 = sz ∧ sz' = sz ∧ zc.length = sz ∧ 0 < sz) ∧ lo = 0 ∧ rows.length = len then some (n, .arr sz (List.replicate len zt)) else none
          | _ => none
        | _ => none
      | none => none
    | _, _ => none
  | none => none
theorem clearH_sound (h : Rel en g S H a w) {t ty : TypeId} {x : Operand} {n : Nat} {r' : Root} (hd : clearH P t S H x = some (n, r')) :
    ∃ w', (Builtin.clear_ #[t] ty #[a.eval x]).run P w = .ok (.tuple #[]) w' ∧ Rel en g S (upd H n (some r')) a w' := by
  unfold clearH at hd
  split at hd
  · rename_i e ht
    split at hd
    · rename_i sz0 zc hsz hz
      split at hd
      · rename_i zt hzt
        split at hd
        · rename_i m sz lo len hx
          split at hd
          · rename_i sz' rows hr
            split at hd
            · rename_i hc
              obtain ⟨⟨rfl, rfl, hzl, hs0⟩, rfl, hlen⟩ := hc
              simp only [Option.some.injEq, Prod.mk.injEq] at hd
              obtain ⟨rfl, rfl⟩ := hd
              obtain ⟨i, z, hi, his, hiz, hmc⟩ := tsz_info hsz hz
              have hzc : CVs g zc z.cells.toList := mapCV_sound hmc
              have hF := flat_zero (g := g) hzc hzl hs0 len
              obtain ⟨k1, k2, k3⟩ := flat_T hF (mapTs_replicate hzt len)
              have hp := evC_sound h hx
              generalize a.eval x = u at hp
              have hcells : (Builtin.zeroCells z.cells len) = madeCells z.cells (len * sz') := by
                have : z.cells.size = sz' := by rw [← hzl, ← hzc.1]; simp
                unfold Builtin.zeroCells madeCells
                rw [this]
              have hsame : rows.length = 0 → Rel en g S (upd H m (some (.arr sz' (List.replicate len zt)))) a w := fun h0 => by
                have e1 : rows = [] := List.eq_nil_of_length_eq_zero h0
                have e2 : upd H m (some (.arr sz' (List.replicate len zt))) = H := by
                  funext k
                  unfold upd
                  split
                  · rename_i e; subst e; rw [hr, e1]; have : len = 0 := by omega
                    subst this; rfl
                  · rfl
                rw [e2]; exact h
              have hrun0 : ∀ (A : Option Addr) (c : Nat), (Builtin.clear_ #[t] ty #[.slice A 0 c]).run P w = .ok (.tuple #[]) w := fun A c => by
                cases A <;> simp [Builtin.clear_, run_underlying (tel_under ht)] <;> rfl
              by_cases h0 : len = 0
              · subst h0
                cases hp with
                | view0 => exact ⟨w, hrun0 _ _, hsame hlen⟩
                | view => exact ⟨w, hrun0 _ _, hsame hlen⟩
              · obtain ⟨hu, hR⟩ := h.roots m _ hr
                cases hR with
                | arr0 => simp at hlen; omega
                | mk _ A e' hh ho hf hrr =>
                  obtain ⟨f1, f2, f3, f4⟩ := hf
                  cases hp with
                  | view0 => omega
                  | view _ _ _ _ cap _ hbase hl hc =>
                    have hvl : (Builtin.zeroCells z.cells len).toList.length = len * sz' := by rw [hcells]; simp [size_madeCells]
                    have hone : ∀ v ∈ (Builtin.zeroCells z.cells len).toList, v.oneCell' = true := fun v hv => by
                      obtain ⟨q, hq, rfl⟩ := List.mem_iff_getElem.1 hv
                      rw [hvl] at hq
                      have hq1 : q / sz' < len := Nat.div_lt_of_lt_mul (by rw [Nat.mul_comm]; exact hq)
                      have hq2 : q % sz' < zt.length := by rw [(mapT_at hzt).1, hzl]; exact Nat.mod_lt _ hs0
                      obtain ⟨v', hv1, hv2⟩ := k3 (q / sz') zt (q % sz') zt[q % sz'] (by rw [List.getElem?_replicate, if_pos hq1]) (List.getElem?_eq_getElem hq2)
                      rw [show q / sz' * sz' + q % sz' = q by rw [Nat.mul_comm]; exact Nat.div_add_mod q sz'] at hv1
                      rw [← hcells] at hv1
                      have : (Builtin.zeroCells z.cells len)[q]? = some (Builtin.zeroCells z.cells len).toList[q] := by simp
                      rw [this] at hv1
                      injection hv1 with hv1
                      rw [hv1]; exact hv2.one
                    have hfit : g.base m + (Builtin.zeroCells z.cells len).toList.length ≤ A.size := by
                      rw [hvl]
                      have := f3
                      subst hlen
                      omega
                    have hrun := run_storeCells_sets P (g.rb m) (g.base m) e' (Builtin.zeroCells z.cells len).toList 0 A w hh (by simpa using hfit) hone
                    rw [Nat.add_zero] at hrun
                    refine ⟨w.setRow (g.rb m) (setsA A (g.base m) (Builtin.zeroCells z.cells len).toList), ?_, h.store hr hh ho (setsA_size _ _ _) (fun b hb o ho' => ?_) ?_ (fun b hb => ?_)⟩
                    · cases len with
                      | zero => exact absurd rfl h0
                      | succ len =>
                        simp only [Nat.zero_mul] at *
                        simp [Builtin.clear_, run_underlying (tel_under ht), zeroValue, typeInfo, hi, hiz]
                        rw [hbase] at hrun
                        rw [hrun, hbase]; rfl
                    · obtain ⟨c0, hc0, _⟩ := h.wd m _ b hr hb
                      cases hc0
                    · refine .mk _ (setsA A (g.base m) (Builtin.zeroCells z.cells len).toList) e' (setRow_heap w _ A _ e' _ hh) ho ?_ (fun i' j' x' hx' => ?_)
                      · exact ⟨f1, by rw [setsA_size]; exact f2, by rw [List.length_replicate, ← hlen]; exact f3, k2⟩
                      · simp only [Root.get] at hx'
                        cases hg : (List.replicate len zt)[i']? with
                        | none => simp [hg] at hx'
                        | some r0 =>
                          simp only [hg, Option.map_eq_some_iff] at hx'
                          obtain ⟨y, hy, rfl⟩ := hx'
                          obtain ⟨v, hv1, hv2⟩ := k3 i' r0 j' y hg hy
                          rw [← hcells] at hv1
                          have hlt : i' * sz' + j' < (Builtin.zeroCells z.cells len).toList.length := by
                            have := (Array.getElem?_eq_some_iff.1 hv1).1; simpa using this
                          refine ⟨v, ?_, .t _ _ (hv2.tr _ _ _)⟩
                          show (setsA A (g.base m) (Builtin.zeroCells z.cells len).toList)[g.base m + i' * sz' + j']? = some v
                          rw [Nat.add_assoc, setsA_in _ _ _ _ hfit hlt]
                          simpa using hv1
                    · obtain ⟨c0, hc0, _⟩ := h.wd m _ b hr hb
                      cases hc0
            · cases hd
          · cases hd
        · cases hd
      · cases hd
    · cases hd
  · cases hd
end Go.SX
set_option linter.unusedVariables false
set_option linter.unusedSimpArgs false
namespace Go.SX
open Go Go.RowKit
variable {en : En} {g : Gh} {S : Nat → Option D} {H : Nat → Option Root} {a : Act} {w : World} {P : Program}
def mapO {α β : Type} (f : α → Option β) : List α → Option (List β)
  | [] => some []
  | x :: xs => match f x with
    | some y => match mapO f xs with
      | some ys => some (y :: ys)
      | none => none
    | none => none
theorem mapO_len {α β : Type} {f : α → Option β} : ∀ {xs : List α} {ys : List β}, mapO f xs = some ys → ys.length = xs.length
  | [], ys, h => by simp only [mapO, Option.some.injEq] at h; subst h; rfl
  | x :: xs, ys, h => by
    simp only [mapO] at h
    split at h
    · split at h
      · rename_i ys' hys; injection h with h; subst h; simp [mapO_len hys]
      · cases h
    · cases h
theorem mapO_at {α β : Type} {f : α → Option β} : ∀ {xs : List α} {ys : List β}, mapO f xs = some ys → ∀ (j : Nat) (y : β), ys[j]? = some y → ∃ x, xs[j]? = some x ∧ f x = some y
  | [], ys, h, j, y, hy => by simp only [mapO, Option.some.injEq] at h; subst h; simp at hy
  | x :: xs, ys, h, j, y, hy => by
    simp only [mapO] at h
    split at h
    · rename_i y0 h0
      split at h
      · rename_i ys' hys
        injection h with h
        subst h
        cases j with
        | zero => simp at hy; subst hy; exact ⟨x, rfl, h0⟩
        | succ j => simp at hy ⊢; exact mapO_at hys j y hy
      · cases h
    · cases h
theorem mapO_map {α β γ : Type} {f : α → Option β} {k : γ → α} {k' : γ → β} (h : ∀ x, f (k x) = some (k' x)) : ∀ xs : List γ, mapO f (xs.map k) = some (xs.map k')
  | [] => rfl
  | x :: xs => by simp [mapO, h, mapO_map h xs]
theorem mapO_im {α β : Type} {f : α → Option β} {k : β → α} (h : ∀ x, f (k x) = some x) (xs : List β) : mapO f (xs.map k) = some xs := by
  have := mapO_map (f := f) (k := k) (k' := id) h xs
  simpa using this
def toI (ex : List Nat) (H : Nat → Option Root) : Nat → T → Option I
  | 0, .im i => some i
  | 0, _ => none
  | _ + 1, .im i => some i
  | _ + 1, .nil => some (.raw (.slice none 0 0))
  | _ + 1, .dead => none
  | k + 1, .own sz rows => match mapO (mapO (toI ex H k)) rows with
    | some r => some (.sl sz r)
    | none => none
  | k + 1, .lent n sz len => if n ∈ ex then none else match H n with
    | some (.arr sz' rows) => if sz' = sz ∧ len ≤ rows.length then match mapO (mapO (toI ex H k)) ((rows.drop 0).take len) with
        | some r => some (.sl sz r)
        | none => none
      else none
    | _ => none
theorem toI_im (ex : List Nat) (H : Nat → Option Root) (k : Nat) (i : I) : toI ex H k (.im i) = some i := by cases k <;> rfl
theorem toI_rows (ex : List Nat) (H : Nat → Option Root) (k : Nat) (rows : List (List I)) : mapO (mapO (toI ex H k)) (rows.map (fun r => r.map T.im)) = some rows :=
  mapO_im (fun r => mapO_im (toI_im ex H k) r) rows
structure Frz (br : Bool) (g : Gh) (w : World) (ex : List Nat) (fz : Nat → Nat → Option Value) : Prop where
  old : ∀ b o v, g.fz b o = some v → fz b o = some v
  own : br = true → ∀ b n p o v, g.own b = some (n, p) → n ∉ ex → w.cell? ⟨b, o, none⟩ = some v → fz b o = some v
theorem view_I {br : Bool} (hbrr : br = true) {fz : Nat → Nat → Option Value} {ex : List Nat} (hF : Frz br g w ex fz) {f : T → Option I} {m sz lo len : Nat} {rows : List (List T)} {r : List (List I)} {v : Value} (hm : m ∉ ex)
    (hv : CV g (.view m sz lo len) v) (hR : RootR w g m (.arr sz rows)) (hl : lo + len ≤ rows.length) (hr : mapO (mapO f) ((rows.drop lo).take len) = some r)
    (hf : ∀ (q : Pth) (t : T) (i : I) (u : Value), TR w g m q t u → f t = some i → IR fz i u) : IR fz (.sl sz r) v := by
  have hlen : r.length = len := by rw [mapO_len hr]; simp; omega
  have h0 : ∀ A c, r.length = 0 → IR fz (.sl sz r) (.slice A 0 c) := fun A c h => by
    have : r = [] := List.eq_nil_of_length_eq_zero h
    subst this; exact .sl0 _ _ _
  cases hv with
  | view0 _ _ _ A hu => exact h0 A 0 hlen
  | view _ _ _ _ cap hu hb hc hcap =>
    cases hR with
    | arr0 _ hs hrc =>
      simp only [List.length_nil] at hl
      have : len = 0 := by omega
      subst this
      exact h0 _ _ hlen
    | mk _ cs e hh ho hform hcell =>
      obtain ⟨hb0, hcs, hrl, hrows⟩ := hform
      have key : ∀ (i : Nat) (r' : List I) (j : Nat) (x : I), r[i]? = some r' → r'[j]? = some x → ∃ v, fz (g.rb m) (lo * sz + i * sz + j) = some v ∧ IR fz x v := by
        intro i r' j x hi hj
        obtain ⟨row, hrow, hmr⟩ := mapO_at hr i r' hi
        obtain ⟨t, ht, hft⟩ := mapO_at hmr j x hj
        have hrow' : rows[lo + i]? = some row := by
          rw [List.getElem?_take] at hrow
          split at hrow
          · rwa [List.getElem?_drop] at hrow
          · cases hrow
        obtain ⟨v, hv, hbr⟩ := hcell (lo + i) j (.t t) (by simp [Root.get, hrow', ht])
        rw [hb0, Nat.zero_add] at hv
        simp only [Root.sz] at hv
        have htr : TR w g m [(lo + i, j)] t v := by cases hbr with | t _ _ h => exact h
        refine ⟨v, ?_, hf _ t x v htr hft⟩
        refine hF.own hbrr (g.rb m) m [] _ v ho hm ?_
        rw [cell_of_row w _ _ cs e _ hh, ← Nat.add_mul]; exact hv
      obtain ⟨vs, hvs⟩ := rows_choose key
      have := IR.sl (fz := fz) sz r (g.rb m) (lo * sz) cap vs (by rw [hlen]; exact hc) (fun i r' hi => by
        obtain ⟨row, hrow, hmr⟩ := mapO_at hr i r' hi
        rw [mapO_len hmr]
        rw [List.getElem?_take] at hrow
        split at hrow
        · rw [List.getElem?_drop] at hrow; exact hrows _ row hrow
        · cases hrow) (fun i r' j x hi hj => (hvs i r' j x hi hj).1) (fun i r' j x hi hj => (hvs i r' j x hi hj).2)
      rw [hlen] at this
      exact this
theorem toI_sound {br : Bool} (hbr : br = true) {fz : Nat → Nat → Option Value} {ex : List Nat} (hF : Frz br g w ex fz) (hroots : ∀ n r, H n = some r → br = true ∧ g.used n ∧ RootR w g n r) :
    ∀ (k : Nat) (n : Nat) (q : Pth) (t : T) (i : I) (v : Value), n ∉ ex → TR w g n q t v → toI ex H k t = some i → IR fz i v
  | 0, n, q, t, i, v, hn, ht, hi => by
    cases t <;> simp only [toI, Option.some.injEq] at hi <;> first
      | (cases hi; done)
      | (subst hi; cases ht with | im _ _ _ h => exact h.mono hF.old)
  | k + 1, n, q, t, i, v, hn, ht, hi => by
    cases ht with
    | im _ i0 _ h => simp only [toI, Option.some.injEq] at hi; subst hi; exact h.mono hF.old
    | nil => simp only [toI, Option.some.injEq] at hi; subst hi; exact .raw _ rfl
    | dead => simp [toI] at hi
    | own0 _ sz A =>
      simp only [toI, mapO, Option.some.injEq] at hi
      subst hi; exact .sl0 _ _ _
    | own _ sz rows b cap cs e vs hh ho hl hc hz hx hr =>
      simp only [toI] at hi
      split at hi
      · rename_i r hr'
        injection hi with hi
        subst hi
        have hlen := mapO_len hr'
        have := IR.sl (fz := fz) sz r b 0 cap vs (by rw [hlen]; exact hl) (fun i r' hi => by
            obtain ⟨row, hrow, hmr⟩ := mapO_at hr' i r' hi
            rw [mapO_len hmr]; exact hz i row hrow)
          (fun i r' j x hi hj => by
            obtain ⟨row, hrow, hmr⟩ := mapO_at hr' i r' hi
            obtain ⟨t, ht, _⟩ := mapO_at hmr j x hj
            refine hF.own hbr b n q _ _ ho hn ?_
            rw [cell_of_row w _ _ cs e _ hh, Nat.zero_add]
            exact hx i row j t hrow ht)
          (fun i r' j x hi hj => by
            obtain ⟨row, hrow, hmr⟩ := mapO_at hr' i r' hi
            obtain ⟨t, ht, hti⟩ := mapO_at hmr j x hj
            exact toI_sound hbr hF hroots k n _ t x _ hn (hr i row j t hrow ht) hti)
        rw [hlen] at this
        exact this
      · cases hi
    | lent _ m sz len _ hv =>
      simp only [toI] at hi
      split at hi
      · cases hi
      · rename_i hm
        split at hi
        · rename_i sz' rows hH
          split at hi
          · rename_i hc
            obtain ⟨rfl, hl⟩ := hc
            split at hi
            · rename_i r hr
              injection hi with hi
              subst hi
              exact view_I hbr hF hm hv (hroots m _ hH).2.2 (by omega) hr (fun q t i u h1 h2 => toI_sound hbr hF hroots k m q t i u hm h1 h2)
            · cases hi
          · cases hi
        · cases hi
def pos : List Nat → Nat → Option Nat
  | [], _ => none
  | x :: xs, n => if x = n then some 0 else (pos xs n).map (· + 1)
theorem pos_some : ∀ {xs : List Nat} {n k : Nat}, pos xs n = some k → xs[k]? = some n
  | [], n, k, h => by cases h
  | x :: xs, n, k, h => by
    simp only [pos] at h
    split at h
    · rename_i e; injection h with h; subst h; simp [e]
    · rw [Option.map_eq_some_iff] at h
      obtain ⟨k', hk, rfl⟩ := h
      simpa using pos_some hk
theorem pos_none : ∀ {xs : List Nat} {n : Nat}, pos xs n = none ↔ n ∉ xs
  | [], n => by simp [pos]
  | x :: xs, n => by
    simp only [pos]
    split
    · rename_i e; simp [e]
    · rename_i e
      rw [Option.map_eq_none_iff, pos_none]
      simp [Ne.symm e]
theorem pos_at : ∀ {xs : List Nat} {n k : Nat}, xs.Nodup → xs[k]? = some n → pos xs n = some k
  | [], n, k, _, h => by simp at h
  | x :: xs, n, k, hn, h => by
    cases k with
    | zero => simp at h; simp [pos, h]
    | succ k =>
      simp only [List.getElem?_cons_succ] at h
      have hm : n ∈ xs := List.mem_of_getElem? h
      have hne : x ≠ n := fun e => (List.nodup_cons.1 hn).1 (e ▸ hm)
      simp [pos, hne, pos_at (List.nodup_cons.1 hn).2 h]
structure Plc where
  n : Nat
  sz : Nat
  i : Nat
  deriving Inhabited, DecidableEq
def exN (ex : List Plc) : List Nat := ex.map Plc.n
def loC (ex : List Plc) (H : Nat → Option Root) : Nat → C → Option C
  | _, .im i => some (.im i)
  | _, .nil => some .nil
  | _, .iptr row off => some (.iptr row off)
  | _, .view n sz lo len => if n ∈ exN ex then none else match H n with
    | some (.arr sz' rows) => if sz' = sz ∧ lo + len ≤ rows.length then match mapO (mapO (toI (exN ex) H 4)) ((rows.drop lo).take len) with
        | some r => some (.im (.sl sz r))
        | none => none
      else none
    | _ => none
  | _, .ptr n sz i off => match pos (exN ex) n with
    | some k => match ex[k]? with
      | some p => if p.sz = sz ∧ p.i = i then some (.ptr k 0 0 off) else none
      | none => none
    | none => none
  | 0, .fn f caps => match caps with
    | [] => some (.fn f [])
    | _ => none
  | k + 1, .fn f caps => match mapO (loC ex H k) caps with
    | some cs => some (.fn f cs)
    | none => none
theorem loC_sound {br : Bool} {g0 : Gh} {ex : List Plc} (hF : Frz br g w (exN ex) g0.fz) (hroots : ∀ n r, H n = some r → br = true ∧ g.used n ∧ RootR w g n r)
    (hp : ∀ k p, ex[k]? = some p → g0.used k ∧ g0.rb k = g.rb p.n ∧ g0.base k = g.base p.n + p.i * p.sz) : ∀ (k : Nat) (c c' : C) (v : Value), CV g c v → loC ex H k c = some c' → CV g0 c' v := by
  have base : ∀ (k : Nat) (c c' : C) (v : Value), (∀ f caps, c ≠ .fn f caps) → CV g c v → loC ex H k c = some c' → CV g0 c' v := by
    intro k c c' v hne hc hl
    cases c with
    | im i => simp only [loC, Option.some.injEq] at hl; subst hl; cases hc with | im _ _ h => exact .im _ _ (h.mono hF.old)
    | nil => simp only [loC, Option.some.injEq] at hl; subst hl; cases hc; exact .nil
    | iptr row off =>
      simp only [loC, Option.some.injEq] at hl; subst hl
      cases hc with | iptr _ _ b o vs hx hr => exact .iptr row off b o vs (fun j x hj => hF.old _ _ _ (hx j x hj)) (fun j x hj => (hr j x hj).mono hF.old)
    | view n sz lo len =>
      simp only [loC] at hl
      split at hl
      · cases hl
      · rename_i hm
        split at hl
        · rename_i sz' rows hH
          split at hl
          · rename_i hcc
            obtain ⟨rfl, hle⟩ := hcc
            split at hl
            · rename_i r hr
              injection hl with hl
              subst hl
              have hbr := (hroots n _ hH).1
              exact .im _ _ (view_I hbr hF hm hc (hroots n _ hH).2.2 hle hr (fun q t i u h1 h2 => toI_sound hbr hF hroots 4 n q t i u hm h1 h2))
            · cases hl
          · cases hl
        · cases hl
    | ptr n sz i off =>
      simp only [loC] at hl
      split at hl
      · rename_i k' hk
        split at hl
        · rename_i p hpk
          split at hl
          · rename_i hcc
            obtain ⟨rfl, rfl⟩ := hcc
            injection hl with hl
            subst hl
            obtain ⟨h1, h2, h3⟩ := hp k' p hpk
            have hn : p.n = n := by
              have := pos_some hk
              simp only [exN, List.getElem?_map, hpk, Option.map_some, Option.some.injEq] at this
              exact this
            subst hn
            cases hc with
            | ptr _ _ _ _ hu =>
              have := CV.ptr (g := g0) k' 0 0 off h1
              rw [h2, h3] at this
              simpa using this
          · cases hl
        · cases hl
      · cases hl
    | fn f caps => exact absurd rfl (hne f caps)
  intro k
  induction k with
  | zero =>
    intro c c' v hc hl
    cases hc with
    | fn f caps vs hs hr =>
      simp only [loC] at hl
      split at hl
      · injection hl with hl; subst hl
        exact .fn f [] vs hs (fun j x v hj => by simp at hj)
      · cases hl
    | im i v h => exact base 0 _ _ _ (by simp) (.im i v h) hl
    | nil => exact base 0 _ _ _ (by simp) .nil hl
    | view0 n sz lo A h => exact base 0 _ _ _ (by simp) (.view0 n sz lo A h) hl
    | view n sz lo len cap h hb hl' hc' => exact base 0 _ _ _ (by simp) (.view n sz lo len cap h hb hl' hc') hl
    | ptr n sz i off h => exact base 0 _ _ _ (by simp) (.ptr n sz i off h) hl
    | iptr row off b o vs hx hr => exact base 0 _ _ _ (by simp) (.iptr row off b o vs hx hr) hl
  | succ k ih =>
    intro c c' v hc hl
    cases hc with
    | fn f caps vs hs hr =>
      simp only [loC] at hl
      split at hl
      · rename_i cs hcs
        injection hl with hl; subst hl
        refine .fn f cs vs (by rw [hs, mapO_len hcs]) (fun j x u hj hu => ?_)
        obtain ⟨c0, h1, h2⟩ := mapO_at hcs j x hj
        exact ih c0 x u (hr j c0 u h1 hu) h2
      · cases hl
    | im i v h => exact base _ _ _ _ (by simp) (.im i v h) hl
    | nil => exact base _ _ _ _ (by simp) .nil hl
    | view0 n sz lo A h => exact base _ _ _ _ (by simp) (.view0 n sz lo A h) hl
    | view n sz lo len cap h hb hl' hc' => exact base _ _ _ _ (by simp) (.view n sz lo len cap h hb hl' hc') hl
    | ptr n sz i off h => exact base _ _ _ _ (by simp) (.ptr n sz i off h) hl
    | iptr row off b o vs hx hr => exact base _ _ _ _ (by simp) (.iptr row off b o vs hx hr) hl
def loD (ex : List Plc) (H : Nat → Option Root) : D → Option D
  | .c x => match loC ex H 2 x with
    | some y => some (.c y)
    | none => none
  | .agg xs => match mapO (loC ex H 2) xs with
    | some ys => some (.agg ys)
    | none => none
  | .tup _ => none
theorem loD_sound {br : Bool} {g0 : Gh} {ex : List Plc} (hF : Frz br g w (exN ex) g0.fz) (hroots : ∀ n r, H n = some r → br = true ∧ g.used n ∧ RootR w g n r)
    (hp : ∀ k p, ex[k]? = some p → g0.used k ∧ g0.rb k = g.rb p.n ∧ g0.base k = g.base p.n + p.i * p.sz) {d d' : D} {v : Value} (hd : DV g d v) (hl : loD ex H d = some d') : DV g0 d' v := by
  cases hd with
  | c x v h =>
    simp only [loD] at hl
    split at hl
    · rename_i y hy; injection hl with hl; subst hl; exact .c _ _ (loC_sound hF hroots hp 2 x y v h hy)
    · cases hl
  | agg xs vs hs hr =>
    simp only [loD] at hl
    split at hl
    · rename_i ys hys; injection hl with hl; subst hl
      refine .agg _ _ (by rw [hs, mapO_len hys]) (fun j x u hj hu => ?_)
      obtain ⟨c0, h1, h2⟩ := mapO_at hys j x hj
      exact loC_sound hF hroots hp 2 c0 x u (hr j c0 u h1 hu) h2
    · cases hl
  | tup => simp [loD] at hl
def scI : I → Bool
  | .sl _ rows => rows.isEmpty
  | _ => true
inductive Mv (sc : Bool) : T → Prop where
  | im (i : I) (h : sc = false ∨ scI i = true) : Mv sc (.im i)
  | nil : Mv sc .nil
  | dead : Mv sc .dead
  | own (sz : Nat) (rows : List (List T)) (h : ∀ r ∈ rows, ∀ t ∈ r, Mv sc t) : Mv sc (.own sz rows)
theorem IR.sc {fz fz' : Nat → Nat → Option Value} {i : I} {v : Value} (h : IR fz i v) (hs : scI i = true) : IR fz' i v := by
  cases h with
  | bool b => exact .bool b
  | int k n => exact .int k n
  | flt k x y h => exact .flt k x y h
  | cpx k x y x' y' h h' => exact .cpx k x y x' y' h h'
  | str s => exact .str s
  | raw v h => exact .raw v h
  | sl0 sz a c => exact .sl0 sz a c
  | sl sz rows b off c vs hc hl hx hr =>
    have : rows = [] := by simpa [scI] using hs
    subst this
    exact .sl0 sz _ c
theorem TR.mv {sc : Bool} {g' : Gh} {n n' : Nat} {t : T} (hm : Mv sc t) (hfz : sc = false → ∀ b o v, g.fz b o = some v → g'.fz b o = some v) :
    ∀ {q q' : Pth} {v : Value}, TR w g n q t v → (∀ (b : Nat) (p : Pth), g.own b = some (n, q ++ p) → g'.own b = some (n', q' ++ p)) → TR w g' n' q' t v := by
  induction hm with
  | im i h =>
    intro q q' v ht _
    cases ht with
    | im _ _ _ hi =>
      refine .im _ _ _ ?_
      rcases h with h | h
      · exact hi.mono (hfz h)
      · exact hi.sc h
  | nil => intro q q' v ht _; cases ht; exact .nil _
  | dead => intro q q' v ht _; exact .dead _ _
  | own sz rows h ih =>
    intro q q' v ht hb
    cases ht with
    | own0 _ _ A => exact .own0 _ _ _
    | own _ _ _ b cap cs e vs hh ho hl hc hz hx hr =>
      refine .own q' sz rows b cap cs e vs hh (by simpa using hb b [] (by simpa using ho)) hl hc hz hx (fun i r j x h1 h2 => ?_)
      refine ih r (List.mem_of_getElem? h1) x (List.mem_of_getElem? h2) (hr i r j x h1 h2) (fun b' p hp => ?_)
      have := hb b' ((i, j) :: p) (by simpa using hp)
      simpa using this
inductive MvB (sc : Bool) : B → Prop where
  | t (x : T) (h : Mv sc x) : MvB sc (.t x)
  | nilfn (f : Fn) : MvB sc (.v (.fn f []))
def MvR (sc : Bool) : Root → Prop
  | .box cells => ∀ x ∈ cells, MvB sc x
  | .arr _ rows => ∀ r ∈ rows, ∀ t ∈ r, Mv sc t
theorem MvR.get {sc : Bool} {r : Root} (h : MvR sc r) {i j : Nat} {x : B} (hx : r.get i j = some x) : MvB sc x := by
  cases r with
  | box cells =>
    cases i with
    | zero => exact h x (List.mem_of_getElem? (by simpa [Root.get] using hx))
    | succ i => simp [Root.get] at hx
  | arr sz rows =>
    simp only [Root.get] at hx
    cases hr : rows[i]? with
    | none => simp [hr] at hx
    | some row =>
      simp only [hr, Option.map_eq_some_iff] at hx
      obtain ⟨y, hy, rfl⟩ := hx
      exact .t _ (h row (List.mem_of_getElem? hr) y (List.mem_of_getElem? hy))
theorem RootR.mv {sc : Bool} {g' : Gh} {n n' : Nat} {r : Root} (hm : MvR sc r) (hfz : sc = false → ∀ b o v, g.fz b o = some v → g'.fz b o = some v)
    (hrb : g'.rb n' = g.rb n) (hbase : g'.base n' = g.base n) (hrc : g'.rc n' = g.rc n) (h : RootR w g n r) (hb0 : g.own (g.rb n) = some (n, []) → g'.own (g.rb n) = some (n', []))
    (hb : ∀ (b : Nat) (x : Nat × Nat) (p : Pth), g.own b = some (n, x :: p) → g'.own b = some (n', x :: p)) : RootR w g' n' r := by
  cases h with
  | mk r cs e hh ho hf hr =>
    refine .mk r cs e (by rw [hrb]; exact hh) (by rw [hrb]; exact hb0 ho) (by rw [hbase, hrc]; exact hf) (fun i j x hx => ?_)
    obtain ⟨v, hv, hbr⟩ := hr i j x hx
    refine ⟨v, by rw [hbase]; exact hv, ?_⟩
    cases hm.get hx with
    | t x hmx =>
      cases hbr with
      | t _ _ ht => exact .t _ _ (ht.mv hmx hfz (fun b p hp => by simpa using hb b (i, j) p (by simpa using hp)))
    | nilfn f =>
      cases hbr with
      | v _ _ hc =>
        cases hc with
        | fn _ _ vs hs _ => exact .v _ _ (.fn f [] vs hs (fun j x v hj => by simp at hj))
  | arr0 sz hs hc => exact .arr0 sz hs (by rw [hrc]; exact hc)
end Go.SX
set_option linter.unusedVariables false
set_option linter.unusedSimpArgs false
namespace Go.SX
open Go Go.RowKit
variable {en : En} {g : Gh} {S : Nat → Option D} {H : Nat → Option Root} {a : Act} {w : World} {P : Program}
structure Res where
  val : D
  roots : List Root := []
  places : List (List B) := []
  deriving Inhabited
def reC (f : Nat → Nat) : C → Option C
  | .im i => some (.im i)
  | .nil => some .nil
  | .view n sz lo len => some (.view (f n) sz lo len)
  | .ptr n sz i off => some (.ptr (f n) sz i off)
  | _ => none
def reD (f : Nat → Nat) : D → Option D
  | .c x => match reC f x with
    | some y => some (.c y)
    | none => none
  | .agg xs => match mapO (reC f) xs with
    | some ys => some (.agg ys)
    | none => none
  | .tup ds => match mapO (fun d => match d with
      | .c x => match reC f x with
        | some y => some (D.c y)
        | none => none
      | .agg xs => match mapO (reC f) xs with
        | some ys => some (.agg ys)
        | none => none
      | .tup _ => none) ds with
    | some ys => some (.tup ys)
    | none => none
inductive OkC (sc : Bool) (k : Nat) : C → Prop where
  | im (i : I) (h : sc = false ∨ scI i = true) : OkC sc k (.im i)
  | nil : OkC sc k .nil
  | view (n sz lo len : Nat) (h : n < k) : OkC sc k (.view n sz lo len)
  | ptr (n sz i off : Nat) (h : n < k) : OkC sc k (.ptr n sz i off)
inductive OkD (sc : Bool) (k : Nat) : D → Prop where
  | c (x : C) (h : OkC sc k x) : OkD sc k (.c x)
  | agg (xs : List C) (h : ∀ x ∈ xs, OkC sc k x) : OkD sc k (.agg xs)
  | tup (ds : List D) (h : ∀ d ∈ ds, (∃ x, d = .c x ∧ OkC sc k x) ∨ (∃ xs, d = .agg xs ∧ ∀ x ∈ xs, OkC sc k x)) : OkD sc k (.tup ds)
structure OkR (sc : Bool) (res : Res) : Prop where
  val : OkD sc res.roots.length res.val
  roots : ∀ r ∈ res.roots, MvR sc r
  places : ∀ c ∈ res.places, ∀ x ∈ c, MvB sc x
def Done (en : En) (res : Res) (v : Value) (w' : World) : Prop :=
  ∃ (g : Gh) (ns : List Nat) (S : Nat → Option D) (H : Nat → Option Root) (a : Act) (d : D), Rel en g S H a w' ∧ ns.Nodup ∧ ns.length = res.roots.length ∧ (∀ m ∈ ns, ¬ en.g0.used m) ∧
    (∀ (k : Nat) (r : Root) (m : Nat), res.roots[k]? = some r → ns[k]? = some m → H m = some r) ∧ (∀ (k : Nat) (c : List B), res.places[k]? = some c → H k = some (.box c)) ∧
    reD (fun n => ns.getD n 0) res.val = some d ∧ DV g d v
inductive Outs where
  | one (r : Res)
  | any (ι : Type) (f : ι → Res)
def Outs.mem (o : Outs) (r : Res) : Prop := match o with
  | .one r' => r = r'
  | .any _ f => ∃ i, r = f i
def GoodAt (P : Program) (f : FuncId) (ds : List D) (hs : List (List B)) (o : Outs) : Prop :=
  ∀ (en : En) (args : List Value), args.length = ds.length → (∀ n, en.g0.used n → n < hs.length) →
    Rel en en.g0 (fun t => ds[t]?) (fun n => (hs[n]?).map Root.box) ⟨args.toArray, []⟩ en.w0 →
    Calls P f args.toArray en.w0 (fun e w' => ∃ v, e = .returned v ∧ ∃ res, o.mem res ∧ Done en res v w')
structure Ct where
  sc : Bool
  run : List D → List (List B) → Option Outs
structure Good (P : Program) (f : FuncId) (ct : Ct) : Prop where
  ok : ∀ ds hs o, ct.run ds hs = some o → ∀ res, o.mem res → OkR ct.sc res
  at_ : ∀ ds hs o, ct.run ds hs = some o → GoodAt P f ds hs o
def Gh.sub (g : Gh) (w : World) (ex : List Plc) (borrow : Bool) : Gh :=
  { used := fun k => k < ex.length, rb := fun k => g.rb (ex.getD k default).n, base := fun k => g.base (ex.getD k default).n + (ex.getD k default).i * (ex.getD k default).sz, rc := fun k => g.rc (ex.getD k default).n,
    own := fun b => match g.own b with
      | some (n, p) => match pos (exN ex) n with
        | some k => match p with
          | [] => if b = g.rb n then some (k, []) else none
          | (i, j) :: p => if i = (ex.getD k default).i then some (k, (0, j) :: p) else none
        | none => none
      | none => none
    fz := fun b o => match g.fz b o with
      | some v => some v
      | none => if borrow = true then match g.own b with
          | some (n, _) => if n ∈ exN ex then none else w.cell? ⟨b, o, none⟩
          | none => none
        else none }
theorem Gh.sub_own_none {ex : List Plc} {br : Bool} {b : Nat} (h : g.own b = none) : (g.sub w ex br).own b = none := by simp [Gh.sub, h]
theorem Gh.sub_own_out {ex : List Plc} {br : Bool} {b n : Nat} {p : Pth} (h : g.own b = some (n, p)) (hn : n ∉ exN ex) : (g.sub w ex br).own b = none := by simp [Gh.sub, h, pos_none.2 hn]
theorem Gh.sub_own_top {ex : List Plc} {br : Bool} {n k : Nat} (h : g.own (g.rb n) = some (n, [])) (hk : pos (exN ex) n = some k) : (g.sub w ex br).own (g.rb n) = some (k, []) := by simp [Gh.sub, h, hk]
theorem Gh.sub_own_in {ex : List Plc} {br : Bool} {b n k j : Nat} {pl : Plc} {p : Pth} (hk : pos (exN ex) n = some k) (hpl : ex[k]? = some pl) (h : g.own b = some (n, (pl.i, j) :: p)) : (g.sub w ex br).own b = some (k, (0, j) :: p) := by
  simp [Gh.sub, h, hk, hpl]
theorem Gh.sub_own_inv {ex : List Plc} {br : Bool} {b k : Nat} {p : Pth} (h : (g.sub w ex br).own b = some (k, p)) : ∃ n q, g.own b = some (n, q) ∧ pos (exN ex) n = some k ∧ (p = [] → b = g.rb n ∧ q = []) := by
  simp only [Gh.sub] at h
  split at h
  · rename_i n q ho
    split at h
    · rename_i k' hk
      split at h
      · split at h
        · rename_i hb
          injection h with h; injection h with h1 h2
          subst h1; subst h2
          exact ⟨n, [], ho, hk, fun _ => ⟨hb, rfl⟩⟩
        · cases h
      · rename_i i j p'
        split at h
        · injection h with h; injection h with h1 h2
          subst h1
          exact ⟨n, _, ho, hk, fun hp => by rw [hp] at h2; cases h2⟩
        · cases h
    · cases h
  · cases h
theorem Gh.sub_frz (h : Rel en g S H a w) {ex : List Plc} {br : Bool} : Frz br g w (exN ex) (g.sub w ex br).fz := by
  refine ⟨fun b o v hv => by simp [Gh.sub, hv], fun hbr b n p o v ho hn hc => ?_⟩
  subst hbr
  simp only [Gh.sub]
  cases hf : g.fz b o with
  | some v' => have := (h.fz b o v' hf).2; rw [ho] at this; cases this
  | none => simp [ho, hn, hc]
def Gh.back (g : Gh) (w : World) (g0 gc : Gh) (ex : List Plc) (ns : List Nat) (nm : Nat) : Gh :=
  { used := fun m => g.used m ∨ (nm ≤ m ∧ m < nm + ns.length)
    rb := fun m => if nm ≤ m ∧ m < nm + ns.length then gc.rb (ns.getD (m - nm) 0) else g.rb m
    base := fun m => if nm ≤ m ∧ m < nm + ns.length then gc.base (ns.getD (m - nm) 0) else g.base m
    rc := fun m => if nm ≤ m ∧ m < nm + ns.length then gc.rc (ns.getD (m - nm) 0) else g.rc m
    own := fun b => match gc.own b with
      | some (m, p) => match pos ns m with
        | some k => some (nm + k, p)
        | none => match ex[m]? with
          | some pl => match p with
            | [] => some (pl.n, [])
            | (_, j) :: p => some (pl.n, (pl.i, j) :: p)
          | none => none
      | none => match g0.own b with
        | none => g.own b
        | some _ => none
    fz := fun b o => match g.fz b o with
      | some v => some v
      | none => if b < w.heap.size ∧ g0.own b = none then none else gc.fz b o }
def unB : B → Option T
  | .t x => some x
  | .v _ => none
def plBack (r : Option Root) (p : Plc) (c : Option (List B)) : Option Root := match r, c with
  | some (.box _), some c => some (.box c)
  | some (.arr sz rows), some c => match mapO unB c with
    | some ts => if ts.length = sz then some (.arr sz (rows.set p.i ts)) else none
    | none => none
  | _, _ => none
def backH (H : Nat → Option Root) (ex : List Plc) (nm : Nat) (res : Res) : Nat → Option Root := fun n =>
  if nm ≤ n ∧ n < nm + res.roots.length then res.roots[n - nm]? else match pos (exN ex) n with
    | some k => plBack (H n) (ex.getD k default) res.places[k]?
    | none => H n
def plCells (H : Nat → Option Root) (p : Plc) : Option (List B) := match H p.n with
  | some (.box c) => if p.sz = 0 ∧ p.i = 0 then some c else none
  | some (.arr sz rows) => if sz = p.sz then match rows[p.i]? with
      | some r => some (r.map B.t)
      | none => none
    else none
  | none => none
def PlOk (H : Nat → Option Root) (ex : List Plc) (hs : List (List B)) : Prop :=
  (exN ex).Nodup ∧ hs.length = ex.length ∧ ∀ (k : Nat) (p : Plc) (c : List B), ex[k]? = some p → hs[k]? = some c → plCells H p = some c ∧ ∀ x ∈ c, MvB false x
theorem plCells_get {p : Plc} {c : List B} (h : plCells H p = some c) : ∃ r, H p.n = some r ∧ (r.sz = p.sz) ∧ (∀ j x, c[j]? = some x → r.get p.i j = some x) ∧ ((∃ c', r = .box c' ∧ c' = c ∧ p.i = 0) ∨ (∃ rows row, r = .arr p.sz rows ∧ rows[p.i]? = some row ∧ c = row.map B.t)) := by
  unfold plCells at h
  split at h
  · rename_i c0 hr
    split at h
    · rename_i hc
      injection h with h; subst h
      exact ⟨_, hr, by simp [Root.sz, hc.1], fun j x hx => by rw [hc.2]; exact hx, .inl ⟨_, rfl, rfl, hc.2⟩⟩
    · cases h
  · rename_i sz rows hr
    split at h
    · rename_i hc
      subst hc
      split at h
      · rename_i row hrow
        injection h with h; subst h
        refine ⟨_, hr, rfl, fun j x hx => ?_, .inr ⟨rows, row, rfl, hrow, rfl⟩⟩
        simp only [Root.get, hrow]
        simpa using hx
      · cases h
    · cases h
  · cases h
theorem exN_at {ex : List Plc} {k : Nat} {p : Plc} (h : ex[k]? = some p) : (exN ex)[k]? = some p.n := by simp [exN, h]
theorem exN_pos {ex : List Plc} {n k : Nat} (h : pos (exN ex) n = some k) : ∃ p, ex[k]? = some p ∧ p.n = n := by
  have := pos_some h
  simp only [exN, List.getElem?_map, Option.map_eq_some_iff] at this
  exact this
theorem plGetD {ex : List Plc} {k : Nat} {p : Plc} (h : ex[k]? = some p) : ex.getD k default = p := by simp [List.getD, h]
theorem sub_rel (h : Rel en g S H a w) {ex : List Plc} {hs : List (List B)} (hpl : PlOk H ex hs) (br : Bool) {H0 : Nat → Option Root} (hH0 : ∀ n r, H0 n = some r → br = true ∧ H n = some r)
    {ds ds' : List D} {args : List Value} (hal : args.length = ds.length) (hdv : ∀ (t : Nat) (d : D) (v : Value), ds[t]? = some d → args[t]? = some v → DV g d v) (hlo : mapO (loD ex H0) ds = some ds') :
    Rel ⟨g.sub w ex br, w, fun k => (hs.getD k []).length⟩ (g.sub w ex br) (fun t => ds'[t]?) (fun n => (hs[n]?).map Root.box) ⟨args.toArray, []⟩ w := by
  obtain ⟨hnd, hl, hpl⟩ := hpl
  have hF := Gh.sub_frz h (ex := ex) (br := br)
  have hat : ∀ (k : Nat) (p : Plc), ex[k]? = some p → ∃ c, hs[k]? = some c ∧ plCells H p = some c ∧ ∀ x ∈ c, MvB false x := fun k p hk => by
    have hlt : k < hs.length := by rw [hl]; exact (List.getElem?_eq_some_iff.1 hk).1
    exact ⟨hs[k], List.getElem?_eq_getElem hlt, hpl k p _ hk (List.getElem?_eq_getElem hlt)⟩
  refine ⟨⟨rfl, rfl, rfl, Nat.le_refl _, Gh.le.refl _, fun b _ ho => ⟨ho, rfl⟩, fun b k hb => ?_, fun b o v _ hv => .inl hv⟩, rfl, fun b x hx => ?_, fun b o v hv => ?_, fun t d ht => ?_, fun n r hn => ?_, fun n r b hn hb => ?_⟩
  · obtain ⟨n, q, ho, hk, hc⟩ := Gh.sub_own_inv hb
    obtain ⟨p, hpk, rfl⟩ := exN_pos hk
    obtain ⟨c, _, hH, _⟩ := hat k p hpk
    obtain ⟨rfl, rfl⟩ := hc rfl
    obtain ⟨r, hr, _, _, hrr⟩ := plCells_get hH
    cases (h.roots _ _ hr).2 with
    | mk _ cs e hh _ _ _ => exact ⟨(List.getElem?_eq_some_iff.1 hpk).1, hb, cs, cs, e, hh, hh, rfl, fun _ _ => rfl⟩
    | arr0 sz _ _ => rcases hrr with ⟨_, h1, _⟩ | ⟨rows, row, h1, h2, _⟩ <;> cases h1; simp at h2
  · obtain ⟨n, q, ho, _, _⟩ := Gh.sub_own_inv (k := x.1) (p := x.2) hx
    exact h.lt b _ ho
  · simp only [Gh.sub] at hv
    split at hv
    · rename_i v' hf
      injection hv with hv; subst hv
      obtain ⟨h1, h2⟩ := h.fz b o _ hf
      exact ⟨h1, Gh.sub_own_none h2⟩
    · split at hv
      · split at hv
        · rename_i n p ho
          split at hv
          · cases hv
          · rename_i hn; exact ⟨hv, Gh.sub_own_out ho hn⟩
        · cases hv
      · cases hv
  · obtain ⟨d0, h1, h2⟩ := mapO_at hlo t d ht
    have hlt : t < args.length := by rw [hal]; exact (List.getElem?_eq_some_iff.1 h1).1
    refine ⟨args[t], by simp [hlt], loD_sound hF (fun n r hr => ?_) (fun k p hk => ?_) (hdv t d0 _ h1 (List.getElem?_eq_getElem hlt)) h2⟩
    · obtain ⟨k1, k2⟩ := hH0 n r hr
      exact ⟨k1, h.roots n r k2⟩
    · refine ⟨(List.getElem?_eq_some_iff.1 hk).1, ?_, ?_⟩ <;> simp only [Gh.sub, plGetD hk]
  · rw [Option.map_eq_some_iff] at hn
    obtain ⟨c, hc, rfl⟩ := hn
    have hlt : n < ex.length := by rw [← hl]; exact (List.getElem?_eq_some_iff.1 hc).1
    have hk : ex[n]? = some ex[n] := List.getElem?_eq_getElem hlt
    obtain ⟨c', hc', hH, hmv⟩ := hat n _ hk
    rw [hc] at hc'; injection hc' with hc'; subst hc'
    have hpos := pos_at hnd (exN_at hk)
    obtain ⟨r, hr, hrsz, hget, hrr⟩ := plCells_get hH
    refine ⟨hlt, ?_⟩
    cases (h.roots _ _ hr).2 with
    | mk _ cs e hh ho hf hcell =>
      refine .mk (.box c) cs e (by simp only [Gh.sub, plGetD hk]; exact hh) (by simp only [Gh.sub, plGetD hk]; exact Gh.sub_own_top (w := w) (br := br) ho hpos) trivial (fun i j x hx => ?_)
      cases i with
      | succ i => simp [Root.get] at hx
      | zero =>
        simp only [Root.get] at hx
        obtain ⟨v, hv, hbr⟩ := hcell _ j x (hget j x hx)
        refine ⟨v, by simp only [Gh.sub, plGetD hk, Root.sz, Nat.zero_mul, Nat.add_zero]; rw [hrsz] at hv; exact hv, ?_⟩
        have hm := hmv x (List.mem_of_getElem? hx)
        cases hm with
        | t x hmx =>
          cases hbr with
          | t _ _ ht => exact .t _ _ (TR.mv hmx (fun _ => hF.old) ht (fun b p hp => Gh.sub_own_in hpos hk hp))
        | nilfn f =>
          cases hbr with
          | v _ _ hcv => cases hcv with | fn _ _ vs hs' _ => exact .v _ _ (.fn f [] vs hs' (fun j x v hj => by simp at hj))
    | arr0 sz _ _ => rcases hrr with ⟨_, h1, _⟩ | ⟨rows, row, h1, h2, _⟩ <;> cases h1; simp at h2
  · rw [Option.map_eq_some_iff] at hn
    obtain ⟨c, hc, rfl⟩ := hn
    exact ⟨c, rfl, by simp [List.getD, hc]⟩
theorem getD_at {ns : List Nat} {k m : Nat} (h : ns[k]? = some m) : ns.getD k 0 = m := by simp [List.getD, h]
theorem back_rel (h : Rel en g S H a w) {nm : Nat} {res : Res} (hnm : ∀ m, g.used m → ¬ (nm ≤ m ∧ m < nm + res.roots.length)) {ex : List Plc} {hs : List (List B)} (hpl : PlOk H ex hs) {br sc : Bool} (hbr : br = true → sc = true)
    (hok : OkR sc res) {v : Value} {w' : World} (hd : Done ⟨g.sub w ex br, w, fun k => (hs.getD k []).length⟩ res v w') {d : D} (hre : reD (fun n => nm + n) res.val = some d) :
    ∃ g', g.le g' ∧ (∀ m, g'.used m → g.used m ∨ (nm ≤ m ∧ m < nm + res.roots.length)) ∧ Rel en g' S (backH H ex nm res) a w' ∧ DV g' d v := by
  obtain ⟨gc, ns, Sc, Hc, ac, d0, hR, hnd, hnl, hnu, hro, hplc, hre0, hdv⟩ := hd
  obtain ⟨hexnd, hl, hpl⟩ := hpl
  have hfr := hR.fr
  have hat : ∀ (k : Nat) (p : Plc), ex[k]? = some p → ∃ c, hs[k]? = some c ∧ plCells H p = some c := fun k p hk => by
    have hlt : k < hs.length := by rw [hl]; exact (List.getElem?_eq_some_iff.1 hk).1
    exact ⟨hs[k], List.getElem?_eq_getElem hlt, (hpl k p _ hk (List.getElem?_eq_getElem hlt)).1⟩
  have huse : ∀ (k : Nat) (p : Plc), ex[k]? = some p → g.used p.n := fun k p hk => by
    obtain ⟨c, _, hH⟩ := hat k p hk
    obtain ⟨r, hr, _⟩ := plCells_get hH
    exact (h.roots _ _ hr).1
  have O1 : ∀ b, b < w.heap.size → (g.sub w ex br).own b = none → gc.own b = none ∧ w'.heap[b]? = w.heap[b]? ∧ (g.back w (g.sub w ex br) gc ex ns nm).own b = g.own b := fun b hb ho => by
    obtain ⟨h1, h2⟩ := hfr.old b hb ho
    exact ⟨h1, h2, by simp only [Gh.back, h1, ho]⟩
  have O2 : ∀ (b k m : Nat) (p : Pth), ns[k]? = some m → gc.own b = some (m, p) → (g.back w (g.sub w ex br) gc ex ns nm).own b = some (nm + k, p) := fun b k m p hk ho => by
    simp only [Gh.back, ho, pos_at hnd hk]
  have O3 : ∀ (b k : Nat) (pl : Plc), ex[k]? = some pl → gc.own b = some (k, []) → (g.back w (g.sub w ex br) gc ex ns nm).own b = some (pl.n, []) := fun b k pl hk ho => by
    have : pos ns k = none := pos_none.2 (fun hm => hnu k hm (List.getElem?_eq_some_iff.1 hk).1)
    simp only [Gh.back, ho, this, hk]
  have O4 : ∀ (b k i j : Nat) (pl : Plc) (p : Pth), ex[k]? = some pl → gc.own b = some (k, (i, j) :: p) → (g.back w (g.sub w ex br) gc ex ns nm).own b = some (pl.n, (pl.i, j) :: p) := fun b k i j pl p hk ho => by
    have : pos ns k = none := pos_none.2 (fun hm => hnu k hm (List.getElem?_eq_some_iff.1 hk).1)
    simp only [Gh.back, ho, this, hk]
  have hsz : w.heap.size ≤ w'.heap.size := hfr.size
  have hnone : ∀ b, ¬ b < w.heap.size → g.own b = none := fun b hb => by
    cases ho : g.own b with
    | none => rfl
    | some x => exact absurd (h.lt b x ho) hb
  have hfz : ∀ b o v, g.fz b o = some v → (g.back w (g.sub w ex br) gc ex ns nm).fz b o = some v := fun b o v hv => by simp only [Gh.back, hv]
  have hle : g.le (g.back w (g.sub w ex br) gc ex ns nm) := by
    refine ⟨fun n hn => .inl hn, fun n hn => ?_, fun n hn => ?_, fun n hn => ?_, hfz⟩ <;>
    · have := hnm n hn; simp only [Gh.back]; rw [if_neg (by omega)]
  have hscfz : sc = false → ∀ b o v, gc.fz b o = some v → (g.back w (g.sub w ex br) gc ex ns nm).fz b o = some v := fun hs' b o v hv => by
    have hb : br = false := by cases br with
      | false => rfl
      | true => rw [hbr rfl] at hs'; cases hs'
    subst hb
    have hsub : ∀ b o v, (g.sub w ex false).fz b o = some v → g.fz b o = some v := fun b o v h1 => by
      simp only [Gh.sub] at h1
      split at h1
      · rename_i hf; rw [hf]; exact h1
      · simp at h1
    cases hf : g.fz b o with
    | some v' =>
      have h1 := hfr.gle.fz b o v' (by simp [Gh.sub, hf])
      rw [hv] at h1; injection h1 with h1; subst h1
      exact hfz b o _ hf
    | none =>
      simp only [Gh.back, hf]
      rw [if_neg]
      · exact hv
      · rintro ⟨hb, ho⟩
        rcases hfr.fzn b o v hb hv with h1 | h1
        · rw [hsub b o v h1] at hf; cases hf
        · exact h1 ho
  refine ⟨_, hle, fun m hm => ?_, ⟨⟨hfr.os.trans h.fr.os, hfr.tape.trans h.fr.tape, hfr.output.trans h.fr.output, Nat.le_trans h.fr.size hsz, h.fr.gle.trans hle, fun b hb ho => ?_, fun b n hb => ?_, fun b o v hb hv => ?_⟩,
    h.df, fun b x hx => ?_, fun b o v hv => ?_, fun t d ht => ?_, fun n r hn => ?_, fun n r b hn hb => ?_⟩, ?_⟩
  · rw [← hnl]
    exact hm
  · obtain ⟨h1, h2⟩ := h.fr.old b hb ho
    obtain ⟨_, h4, h5⟩ := O1 b (Nat.lt_of_lt_of_le hb h.fr.size) (Gh.sub_own_none h1)
    exact ⟨h5.trans h1, h4.trans h2⟩
  · obtain ⟨h0, h1, c1, c2, e1, h2, h3, h4, h5⟩ := h.fr.place b n hb
    have hbw := h.lt b _ h1
    by_cases hx : n ∈ exN ex ∧ b = g.rb n
    · obtain ⟨hn, rfl⟩ := hx
      cases hp : pos (exN ex) n with
      | none => exact absurd hn (pos_none.1 hp)
      | some k =>
        obtain ⟨pl, hk, rfl⟩ := exN_pos hp
        obtain ⟨c, hc, hH⟩ := hat k pl hk
        obtain ⟨r, hr, hrsz, _, hrr⟩ := plCells_get hH
        have hg0 : (g.sub w ex br).own (g.rb pl.n) = some (k, []) := Gh.sub_own_top h1 hp
        obtain ⟨_, k1, d1, d2, e2, k2, k3, k4, k5⟩ := hfr.place _ k hg0
        simp only [] at k2
        rw [h3] at k2
        injection k2 with k2
        injection k2 with k2 k2'
        subst k2; subst k2'
        obtain ⟨c0, hc0, hcl⟩ := h.wd _ _ _ hr hb
        subst hc0
        rcases hrr with ⟨c', hc', rfl, hi0⟩ | ⟨rows, row, hrw, _⟩
        · injection hc' with hc'; subst hc'
          refine ⟨h0, O3 _ k pl hk k1, c1, d2, e1, h2, k3, k4.trans h4, fun o ho => (k5 o ?_).trans (h5 o ho)⟩
          have hb9 := h.fr.gle.base pl.n h0
          have hbase : (g.sub w ex br).base k = en.g0.base pl.n := by simp only [Gh.sub, plGetD hk, hi0, Nat.zero_mul, Nat.add_zero]; exact hb9
          simp only [hbase, List.getD, hc, Option.getD_some]
          omega
        · cases hrw
    · have hg0 : (g.sub w ex br).own b = none := by
        by_cases hn : n ∈ exN ex
        · have hbn : b ≠ g.rb n := fun e => hx ⟨hn, e⟩
          simp only [Gh.sub, h1]
          split
          · rw [if_neg hbn]
          · rfl
        · exact Gh.sub_own_out h1 hn
      obtain ⟨_, k2, k3⟩ := O1 b hbw hg0
      exact ⟨h0, k3.trans h1, c1, c2, e1, h2, k2.trans h3, h4, h5⟩
  · simp only [Gh.back] at hv
    split at hv
    · rename_i v' hf; injection hv with hv; subst hv; exact h.fr.fzn b o _ hb hf
    · split at hv
      · cases hv
      · rename_i hc
        refine .inr (fun ho => ?_)
        obtain ⟨h1, _⟩ := h.fr.old b hb ho
        exact hc ⟨Nat.lt_of_lt_of_le hb h.fr.size, Gh.sub_own_none h1⟩
  · simp only [Gh.back] at hx
    split at hx
    · rename_i m p ho; exact hR.lt b _ ho
    · split at hx
      · exact Nat.lt_of_lt_of_le (h.lt b _ hx) hsz
      · cases hx
  · cases hf : g.fz b o with
    | some v' =>
      rw [hfz b o v' hf] at hv; injection hv with hv; subst hv
      obtain ⟨h1, h2⟩ := h.fz b o _ hf
      have hb : b < w.heap.size := World.block_lt_of_cell? w _ h1
      obtain ⟨_, k2, k3⟩ := O1 b hb (Gh.sub_own_none h2)
      exact ⟨(World.cell?_of_block (w := w) (a := ⟨b, o, none⟩) k2).trans h1, k3.trans h2⟩
    | none =>
      simp only [Gh.back, hf] at hv
      split at hv
      · cases hv
      · rename_i hc
        obtain ⟨h1, h2⟩ := hR.fz b o v hv
        refine ⟨h1, ?_⟩
        simp only [Gh.back, h2]
        split
        · rename_i h0
          exact hnone b (fun hb => hc ⟨hb, h0⟩)
        · rfl
  · obtain ⟨v, hv, hd⟩ := h.slots t d ht; exact ⟨v, hv, hd.mono hle⟩
  · unfold backH at hn
    split at hn
    · rename_i hr
      have hk : n - nm < ns.length := by omega
      have hnk : ns[n - nm]? = some ns[n - nm] := List.getElem?_eq_getElem hk
      have hH := hro _ r _ hn hnk
      obtain ⟨hu, hRR⟩ := hR.roots _ r hH
      have hgd := getD_at hnk
      have hnn : nm + (n - nm) = n := by omega
      refine ⟨.inr (by omega), RootR.mv (n := ns[n - nm]) (hok.roots r (List.mem_of_getElem? hn)) hscfz ?_ ?_ ?_ hRR (fun ho => ?_) (fun b x p ho => ?_)⟩
      · simp only [Gh.back]; rw [if_pos (by omega), hgd]
      · simp only [Gh.back]; rw [if_pos (by omega), hgd]
      · simp only [Gh.back]; rw [if_pos (by omega), hgd]
      · have := O2 _ _ _ _ hnk ho; rw [hnn] at this; exact this
      · have := O2 _ _ _ _ hnk ho; rw [hnn] at this; exact this
    · split at hn
      · rename_i k hp
        obtain ⟨pl, hk, rfl⟩ := exN_pos hp
        rw [plGetD hk] at hn
        obtain ⟨c0, hc0, hH0⟩ := hat k pl hk
        obtain ⟨r0, hr0, hrsz, hget, hrr⟩ := plCells_get hH0
        have hun := huse k pl hk
        have hlt := hnm pl.n hun
        have hk0 : k < ex.length := (List.getElem?_eq_some_iff.1 hk).1
        rw [hr0] at hn
        refine ⟨.inl hun, ?_⟩
        cases hcp : res.places[k]? with
        | none => rw [hcp] at hn; cases r0 <;> simp [plBack] at hn
        | some c =>
          rw [hcp] at hn
          have hHk := hplc k c hcp
          have hmv := hok.places c (List.mem_of_getElem? hcp)
          obtain ⟨_, hRk⟩ := hR.roots k _ hHk
          cases hRk with
          | mk _ cs e hh ho hf hcell =>
            have hrbk : gc.rb k = g.rb pl.n := by have := hfr.gle.rb k hk0; rw [this]; simp only [Gh.sub, plGetD hk]
            have hbsk : gc.base k = g.base pl.n + pl.i * pl.sz := by have := hfr.gle.base k hk0; rw [this]; simp only [Gh.sub, plGetD hk]
            have hrb' : (g.back w (g.sub w ex br) gc ex ns nm).rb pl.n = g.rb pl.n := hle.rb _ hun
            have hbs' : (g.back w (g.sub w ex br) gc ex ns nm).base pl.n = g.base pl.n := hle.base _ hun
            have hrc' : (g.back w (g.sub w ex br) gc ex ns nm).rc pl.n = g.rc pl.n := hle.rc _ hun
            have hown := O3 _ k pl hk ho
            rw [hrbk] at hh hown
            have hcell' : ∀ j x, c[j]? = some x → ∃ v, cs[g.base pl.n + pl.i * pl.sz + j]? = some v ∧ BR w' (g.back w (g.sub w ex br) gc ex ns nm) pl.n [(pl.i, j)] x v := fun j x hx => by
              obtain ⟨v, hv, hbr⟩ := hcell 0 j x (by simpa [Root.get] using hx)
              refine ⟨v, by rw [hbsk] at hv; simpa [Root.sz] using hv, ?_⟩
              cases hmv x (List.mem_of_getElem? hx) with
              | t x hmx => cases hbr with | t _ _ ht => exact .t _ _ (TR.mv hmx hscfz ht (fun b p hp' => O4 b k 0 j pl p hk (by simpa using hp')))
              | nilfn f => cases hbr with | v _ _ hcv => cases hcv with | fn _ _ vs hs' _ => exact .v _ _ (.fn f [] vs hs' (fun j x v hj => by simp at hj))
            rcases hrr with ⟨c', rfl, _, hi0⟩ | ⟨rows, row, rfl, hrow, hcr⟩
            · simp only [plBack, Option.some.injEq] at hn
              subst hn
              refine .mk (.box c) cs e (by rw [hrb']; exact hh) (by rw [hrb']; exact hown) trivial (fun i j x hx => ?_)
              cases i with
              | succ i => simp [Root.get] at hx
              | zero =>
                obtain ⟨v, hv, hbr⟩ := hcell' j x (by simpa [Root.get] using hx)
                rw [hi0] at hv hbr
                exact ⟨v, by rw [hbs']; simpa [Root.sz] using hv, hbr⟩
            · simp only [plBack] at hn
              split at hn
              · rename_i ts hts
                split at hn
                · rename_i htl
                  injection hn with hn
                  subst hn
                  cases (h.roots _ _ hr0).2 with
                  | arr0 _ _ _ => simp at hrow
                  | mk _ cs0 e0 hh0 ho0 hf0 hcell0 =>
                    obtain ⟨f1, f2, f3, f4⟩ := hf0
                    have hg0 : (g.sub w ex br).own (g.rb pl.n) = some (k, []) := Gh.sub_own_top ho0 hp
                    obtain ⟨_, k1, d1, d2, e2, k2, k3, k4, k5⟩ := hfr.place _ k hg0
                    simp only [] at k2
                    rw [hh0] at k2
                    injection k2 with k2
                    injection k2 with k2 k2'
                    subst k2; subst k2'
                    rw [hh] at k3
                    injection k3 with k3
                    injection k3 with k3 k3'
                    subst k3; subst k3'
                    have hwid : (hs.getD k []).length = pl.sz := by
                      simp only [List.getD, hc0, Option.getD_some, hcr, List.length_map]
                      exact f4 _ row hrow
                    have hbase0 : (g.sub w ex br).base k = g.base pl.n + pl.i * pl.sz := by simp only [Gh.sub, plGetD hk]
                    refine .mk _ cs _ (by rw [hrb']; exact hh) (by rw [hrb']; exact hown) ⟨by rw [hbs']; exact f1, by rw [hrc', k4]; exact f2, by rw [hrc']; simpa using f3, fun i r' hr' => ?_⟩ (fun i j x hx => ?_)
                    · rw [List.getElem?_set] at hr'
                      split at hr'
                      · split at hr'
                        · injection hr' with hr'; subst hr'; exact htl
                        · cases hr'
                      · exact f4 i r' hr'
                    · rw [hbs']
                      simp only [Root.sz]
                      simp only [Root.get, List.getElem?_set] at hx
                      by_cases hi : pl.i = i
                      · subst hi
                        have hlti : pl.i < rows.length := (List.getElem?_eq_some_iff.1 hrow).1
                        rw [if_pos rfl, if_pos hlti] at hx
                        simp only [Option.map_eq_some_iff] at hx
                        obtain ⟨t, ht, rfl⟩ := hx
                        obtain ⟨y, hy, hyt⟩ := mapO_at hts j t ht
                        have hyb : y = .t t := by cases y with
                          | t z => simp only [unB, Option.some.injEq] at hyt; rw [hyt]
                          | v z => simp [unB] at hyt
                        subst hyb
                        exact hcell' j _ hy
                      · rw [if_neg hi] at hx
                        have hx0 : (Root.arr pl.sz rows).get i j = some x := by simp only [Root.get]; exact hx
                        obtain ⟨v, hv, hbr⟩ := hcell0 i j x hx0
                        simp only [Root.sz] at hv
                        refine ⟨v, ?_, ?_⟩
                        · rw [k5 _ ?_]
                          · exact hv
                          · show _ < (g.sub w ex br).base k ∨ (g.sub w ex br).base k + (hs.getD k []).length ≤ _
                            rw [hbase0, hwid]
                            have hjs : j < pl.sz := by
                              have hfm : (Root.arr pl.sz rows).form (g.base pl.n) (g.rc pl.n) cs0.size := ⟨f1, f2, f3, f4⟩
                              rcases Root.get_lt hfm hx0 with ⟨_, hh9, _⟩ | ⟨sz9, rows9, hh9, hj9⟩
                              · cases hh9
                              · cases hh9; exact hj9
                            rcases Nat.lt_or_gt_of_ne hi with hlt' | hlt'
                            · have := Nat.mul_le_mul_right pl.sz (show pl.i + 1 ≤ i by omega)
                              rw [Nat.add_mul] at this
                              omega
                            · have := Nat.mul_le_mul_right pl.sz (show i + 1 ≤ pl.i by omega)
                              rw [Nat.add_mul] at this
                              omega
                        · cases hbr with
                          | t t0 _ ht =>
                            refine .t _ _ (ht.keep hle (fun b p ho9 => ?_))
                            have hnone0 : (g.sub w ex br).own b = none := by
                              simp only [Gh.sub, ho9, hp, List.singleton_append, plGetD hk]
                              rw [if_neg (fun e => hi e.symm)]
                            obtain ⟨_, q2, q3⟩ := O1 b (h.lt b _ ho9) hnone0
                            exact ⟨q3.trans ho9, q2⟩
                          | v x0 _ hcv => exact .v _ _ (hcv.mono hle)
                · cases hn
              · cases hn
      · rename_i hp
        obtain ⟨hu, hRR⟩ := h.roots n r hn
        refine ⟨.inl hu, hRR.keep hu hle (fun b p ho => ?_)⟩
        obtain ⟨_, k2, k3⟩ := O1 b (h.lt b _ ho) (Gh.sub_own_out ho (pos_none.1 hp))
        exact ⟨k3.trans ho, k2⟩
  · have hu0 := (h.fr.place b n hb).1
    have hlt := hnm n (h.fr.gle.used n hu0)
    unfold backH at hn
    rw [if_neg (by omega)] at hn
    split at hn
    · rename_i k hp
      obtain ⟨pl, hk, rfl⟩ := exN_pos hp
      rw [plGetD hk] at hn
      obtain ⟨c0, hc0, hH0⟩ := hat k pl hk
      obtain ⟨r0, hr0, hrsz, hget, hrr⟩ := plCells_get hH0
      obtain ⟨c1, hc1, hl1⟩ := h.wd _ _ b hr0 hb
      subst hc1
      rcases hrr with ⟨c', hc', rfl, hi0⟩ | ⟨rows, row, hrw, _⟩
      · injection hc' with hc'; subst hc'
        rw [hr0] at hn
        cases hcp : res.places[k]? with
        | none => rw [hcp] at hn; simp [plBack] at hn
        | some c =>
          rw [hcp] at hn
          simp only [plBack, Option.some.injEq] at hn
          subst hn
          have hHk := hplc k c hcp
          cases (h.roots _ _ hr0).2 with
          | mk _ cs e hh ho hf hr =>
            have hg0 : (g.sub w ex br).own (g.rb pl.n) = some (k, []) := Gh.sub_own_top ho hp
            obtain ⟨c2, hc2, hl2⟩ := hR.wd k _ _ hHk hg0
            injection hc2 with hc2; subst hc2
            refine ⟨c, rfl, Nat.le_trans hl2 ?_⟩
            simpa [List.getD, hc0] using hl1
      · cases hrw
    · exact h.wd n r b hn hb
  · have hC : ∀ (x x0 y : C) (u : Value), OkC sc res.roots.length x → reC (fun n => ns.getD n 0) x = some x0 → reC (fun n => nm + n) x = some y → CV gc x0 u → CV (g.back w (g.sub w ex br) gc ex ns nm) y u := by
      intro x x0 y u hx hx0 hy hu
      have hnames : ∀ n, n < res.roots.length → (g.back w (g.sub w ex br) gc ex ns nm).used (nm + n) ∧ (g.back w (g.sub w ex br) gc ex ns nm).rb (nm + n) = gc.rb (ns.getD n 0) ∧
          (g.back w (g.sub w ex br) gc ex ns nm).base (nm + n) = gc.base (ns.getD n 0) ∧ (g.back w (g.sub w ex br) gc ex ns nm).rc (nm + n) = gc.rc (ns.getD n 0) := fun n hn => by
        refine ⟨.inr ⟨by omega, by omega⟩, ?_, ?_, ?_⟩ <;> (simp only [Gh.back]; rw [if_pos (by omega), show nm + n - nm = n by omega])
      cases hx with
      | im i hi =>
        simp only [reC, Option.some.injEq] at hx0 hy
        subst hx0; subst hy
        cases hu with
        | im _ _ hir =>
          refine .im _ _ ?_
          rcases hi with hi | hi
          · exact hir.mono (hscfz hi)
          · exact hir.sc hi
      | nil =>
        simp only [reC, Option.some.injEq] at hx0 hy
        subst hx0; subst hy
        cases hu; exact .nil
      | view n sz lo len hn =>
        simp only [reC, Option.some.injEq] at hx0 hy
        subst hx0; subst hy
        obtain ⟨n1, n2, n3, n4⟩ := hnames n hn
        cases hu with
        | view0 _ _ _ A _ => exact .view0 _ _ _ A n1
        | view _ _ _ _ cap _ hb hlc hcap => rw [← n2]; exact .view _ _ _ _ cap n1 (n3.trans hb) hlc (by rw [n4]; exact hcap)
      | ptr n sz i off hn =>
        simp only [reC, Option.some.injEq] at hx0 hy
        subst hx0; subst hy
        obtain ⟨n1, n2, n3, n4⟩ := hnames n hn
        cases hu with
        | ptr _ _ _ _ _ => rw [← n2, ← n3]; exact .ptr _ _ _ _ n1
    have hA : ∀ (xs ys zs : List C) (vs : Array Value), (∀ x ∈ xs, OkC sc res.roots.length x) → mapO (reC (fun n => ns.getD n 0)) xs = some ys → mapO (reC (fun n => nm + n)) xs = some zs →
        DV gc (.agg ys) (.agg vs) → DV (g.back w (g.sub w ex br) gc ex ns nm) (.agg zs) (.agg vs) := by
      intro xs ys zs vs hx hy hz hv
      cases hv with
      | agg _ _ hs hr =>
        refine .agg _ _ (by rw [hs, mapO_len hy, mapO_len hz]) (fun j z u hj hu => ?_)
        obtain ⟨x, hxj, hxz⟩ := mapO_at hz j z hj
        have hjl : j < ys.length := by rw [mapO_len hy]; exact (List.getElem?_eq_some_iff.1 hxj).1
        obtain ⟨x', hxj', hxy⟩ := mapO_at hy j _ (List.getElem?_eq_getElem hjl)
        rw [hxj] at hxj'; injection hxj' with hxj'; subst hxj'
        exact hC x _ z u (hx x (List.mem_of_getElem? hxj)) hxy hxz (hr j _ u (List.getElem?_eq_getElem hjl) hu)
    have hval := hok.val
    generalize res.val = vd at hval hre hre0
    cases hval with
    | c x hx =>
      simp only [reD] at hre hre0
      split at hre0
      · rename_i x0 hx0
        split at hre
        · rename_i y hy
          injection hre with hre; injection hre0 with hre0
          subst hre; subst hre0
          cases hdv with | c _ _ hv => exact .c _ _ (hC x x0 y _ hx hx0 hy hv)
        · cases hre
      · cases hre0
    | agg xs hx =>
      simp only [reD] at hre hre0
      split at hre0
      · rename_i ys hys
        split at hre
        · rename_i zs hzs
          injection hre with hre; injection hre0 with hre0
          subst hre; subst hre0
          cases hdv with | agg _ vs hs hr => exact hA xs ys zs vs hx hys hzs (.agg _ _ hs hr)
        · cases hre
      · cases hre0
    | tup ds hx =>
      simp only [reD] at hre hre0
      split at hre0
      · rename_i ys hys
        split at hre
        · rename_i zs hzs
          injection hre with hre; injection hre0 with hre0
          subst hre; subst hre0
          cases hdv with
          | tup _ vs hs hr =>
            refine .tup _ _ (by rw [hs, mapO_len hys, mapO_len hzs]) (fun j z u hj hu => ?_)
            obtain ⟨x, hxj, hxz⟩ := mapO_at hzs j z hj
            have hjl : j < ys.length := by rw [mapO_len hys]; exact (List.getElem?_eq_some_iff.1 hxj).1
            obtain ⟨x', hxj', hxy⟩ := mapO_at hys j _ (List.getElem?_eq_getElem hjl)
            rw [hxj] at hxj'; injection hxj' with hxj'; subst hxj'
            have hu' := hr j _ u (List.getElem?_eq_getElem hjl) hu
            rcases hx x (List.mem_of_getElem? hxj) with ⟨c, rfl, hc⟩ | ⟨cs, rfl, hc⟩
            · simp only [] at hxy hxz
              split at hxy
              · rename_i c0 hc0
                split at hxz
                · rename_i c1 hc1
                  injection hxy with hxy; injection hxz with hxz
                  subst hxz
                  rw [← hxy] at hu'
                  cases hu' with | c _ _ hv => exact .c _ _ (hC c c0 c1 _ hc hc0 hc1 hv)
                · cases hxz
              · cases hxy
            · simp only [] at hxy hxz
              split at hxy
              · rename_i c0 hc0
                split at hxz
                · rename_i c1 hc1
                  injection hxy with hxy; injection hxz with hxz
                  subst hxz
                  rw [← hxy] at hu'
                  cases hu' with | agg _ vs hs hr => exact hA cs c0 c1 vs hc hc0 hc1 (.agg _ _ hs hr)
                · cases hxz
              · cases hxy
        · cases hre
      · cases hre0
theorem call_rel (h : Rel en g S H a w) {nm : Nat} {f : FuncId} {ct : Ct} (hG : Good P f ct) {ex : List Plc} {hs : List (List B)} (hpl : PlOk H ex hs) {br : Bool} (hbr : br = true → ct.sc = true)
    {ds ds' : List D} {args : List Value} (hal : args.length = ds.length) (hdv : ∀ (t : Nat) (d : D) (v : Value), ds[t]? = some d → args[t]? = some v → DV g d v)
    (hlo : mapO (loD ex (if br then H else fun _ => none)) ds = some ds') {o : Outs} (hrun : ct.run ds' hs = some o) :
    Calls P f args.toArray w (fun e w' => ∃ v, e = .returned v ∧ ∃ res, o.mem res ∧ ∀ d, reD (fun n => nm + n) res.val = some d → (∀ m, g.used m → ¬ (nm ≤ m ∧ m < nm + res.roots.length)) →
      ∃ g', g.le g' ∧ (∀ m, g'.used m → g.used m ∨ (nm ≤ m ∧ m < nm + res.roots.length)) ∧ Rel en g' S (backH H ex nm res) a w' ∧ DV g' d v) := by
  have hsub := sub_rel h hpl br (H0 := if br then H else fun _ => none) (fun n r hr => by
    cases br with
    | true => exact ⟨rfl, hr⟩
    | false => cases hr) hal hdv hlo
  have := hG.at_ ds' hs o hrun ⟨g.sub w ex br, w, fun k => (hs.getD k []).length⟩ args (by rw [hal, mapO_len hlo]) (fun n hn => by rw [hpl.2.1]; exact hn) hsub
  exact this.mono fun e w' ⟨v, he, res, hm, hdone⟩ => ⟨v, he, res, hm, fun d hre hnm => back_rel h hnm hpl hbr (hG.ok ds' hs o hrun res hm) hdone hre⟩
end Go.SX
set_option linter.unusedVariables false
set_option linter.unusedSimpArgs false
namespace Go.SX
open Go Go.RowKit
variable {en : En} {g : Gh} {S : Nat → Option D} {H : Nat → Option Root} {a : Act} {w : World} {P : Program}
def evDs (S : Nat → Option D) : List Operand → Option (List D)
  | [] => some []
  | x :: xs => match ev S x with
    | some d => match evDs S xs with
      | some ds => some (d :: ds)
      | none => none
    | none => none
theorem evDs_sound (h : Rel en g S H a w) : ∀ {xs : List Operand} {ds : List D}, evDs S xs = some ds → ds.length = xs.length ∧ ∀ (t : Nat) (d : D) (v : Value), ds[t]? = some d → (xs.map a.eval)[t]? = some v → DV g d v
  | [], ds, hd => by simp only [evDs, Option.some.injEq] at hd; subst hd; exact ⟨rfl, fun t d v h => by simp at h⟩
  | x :: xs, ds, hd => by
    simp only [evDs] at hd
    split at hd
    · rename_i d0 h0
      split at hd
      · rename_i ds' hds
        injection hd with hd; subst hd
        obtain ⟨h1, h2⟩ := evDs_sound h hds
        refine ⟨by simp [h1], fun t d v ht hv => ?_⟩
        cases t with
        | zero => simp at ht hv; subst ht; subst hv; exact ev_sound h h0
        | succ t => simp only [List.getElem?_cons_succ, List.map_cons] at ht hv; exact h2 t d v ht hv
      · cases hd
    · cases hd
def exC1 : C → List Plc
  | .ptr n sz i _ => [⟨n, sz, i⟩]
  | _ => []
def exC : C → List Plc
  | .ptr n sz i _ => [⟨n, sz, i⟩]
  | .fn _ caps => caps.flatMap exC1
  | _ => []
def exD : D → List Plc
  | .c x => exC x
  | .agg xs => xs.flatMap exC
  | .tup _ => []
def dd : List Plc → List Plc
  | [] => []
  | x :: xs => if x.n ∈ exN xs then dd xs else x :: dd xs
def exDs (ds : List D) : List Plc := dd (ds.flatMap exD)
def apH : List (Nat × Option Root) → (Nat → Option Root) → Nat → Option Root
  | [], H => H
  | (n, r) :: l, H => upd (apH l H) n r
def apS (dst : Option Nat) (val : Option D) (S : Nat → Option D) : Nat → Option D := match dst with
  | some t => upd S t val
  | none => S
def addR : Nat → List Root → List (Nat × Option Root)
  | _, [] => []
  | nm, r :: rs => (nm, some r) :: addR (nm + 1) rs
def addP (H : Nat → Option Root) : List Plc → List (List B) → List (Nat × Option Root)
  | [], _ => []
  | p :: ex, c :: cs => (p.n, plBack (H p.n) p (some c)) :: addP H ex cs
  | p :: ex, [] => (p.n, none) :: addP H ex []
theorem apH_app : ∀ (l k : List (Nat × Option Root)) (H : Nat → Option Root), apH (l ++ k) H = apH l (apH k H)
  | [], _, _ => rfl
  | (n, r) :: l, k, H => by simp only [List.cons_append, apH]; rw [apH_app l k H]
theorem apH_addR : ∀ (rs : List Root) (nm : Nat) (H : Nat → Option Root) (n : Nat), apH (addR nm rs) H n = if nm ≤ n ∧ n < nm + rs.length then rs[n - nm]? else H n
  | [], nm, H, n => by simp only [addR, apH, List.length_nil]; rw [if_neg (by omega)]
  | r :: rs, nm, H, n => by
    simp only [addR, apH, upd]
    by_cases e : n = nm
    · subst e; simp
    · rw [if_neg e, apH_addR rs (nm + 1) H n]
      simp only [List.length_cons]
      by_cases h : nm + 1 ≤ n ∧ n < nm + 1 + rs.length
      · rw [if_pos h, if_pos (by omega), show n - nm = (n - (nm + 1)) + 1 by omega]; simp
      · rw [if_neg h, if_neg (by omega)]
theorem plBack_none (r : Option Root) (p : Plc) : plBack r p none = none := by
  cases r with
  | none => rfl
  | some r => cases r <;> rfl
theorem apH_addP (H0 : Nat → Option Root) : ∀ (ex : List Plc) (cs : List (List B)) (H : Nat → Option Root) (n : Nat), apH (addP H0 ex cs) H n = match pos (exN ex) n with
    | some k => plBack (H0 n) (ex.getD k default) cs[k]?
    | none => H n
  | [], cs, H, n => by cases cs <;> rfl
  | p :: ex, [], H, n => by
    simp only [addP, apH, upd, exN, List.map_cons, pos]
    by_cases e : n = p.n
    · subst e; simp [plBack_none]
    · rw [if_neg e, if_neg (Ne.symm e), apH_addP H0 ex [] H n]
      simp only [exN]
      cases pos (ex.map Plc.n) n <;> simp [plBack_none]
  | p :: ex, c :: cs, H, n => by
    simp only [addP, apH, upd, exN, List.map_cons, pos]
    by_cases e : n = p.n
    · subst e; simp
    · rw [if_neg e, if_neg (Ne.symm e), apH_addP H0 ex cs H n]
      simp only [exN]
      cases pos (ex.map Plc.n) n <;> simp
theorem backH_ap (H : Nat → Option Root) (ex : List Plc) (nm : Nat) (res : Res) : backH H ex nm res = apH (addR nm res.roots ++ addP H ex res.places) H := by
  funext n
  rw [apH_app, apH_addR, apH_addP]
  unfold backH
  rfl
theorem addP_mono {H H' : Nat → Option Root} : ∀ (ex : List Plc) (cs : List (List B)), (∀ p ∈ ex, H p.n = H' p.n) → addP H ex cs = addP H' ex cs
  | [], cs, _ => by cases cs <;> rfl
  | p :: ex, [], h => by simp only [addP]; rw [addP_mono ex [] (fun q hq => h q (.tail _ hq))]
  | p :: ex, c :: cs, h => by simp only [addP]; rw [addP_mono ex cs (fun q hq => h q (.tail _ hq)), h p (.head _)]
def dropN : Option Nat → List (Nat × Option Root)
  | some n => [(n, none)]
  | none => []
def hoistJ : Root → Nat → List Nat → Nat → Option (Root × List Root)
  | r, _, [], _ => some (r, [])
  | r, i, j :: js, nm => match r.get i j with
    | some (.t (.own sz rows)) => if 0 < sz then match hoistJ (r.setT i j (.lent nm sz rows.length)) i js (nm + 1) with
        | some (r', rs) => some (r', .arr sz rows :: rs)
        | none => none
      else none
    | _ => none
theorem hoistJ_sound : ∀ (js : List Nat) (r r' : Root) (rs : List Root) (nm i n : Nat) (g : Gh) (H : Nat → Option Root), Rel en g S H a w → H n = some r → hoistJ r i js nm = some (r', rs) → (∀ m, g.used m → ¬ (nm ≤ m ∧ m < nm + rs.length)) →
    ∃ g', g.le g' ∧ (∀ m, g'.used m → g.used m ∨ (nm ≤ m ∧ m < nm + rs.length)) ∧ Rel en g' S (apH ((n, some r') :: addR nm rs) H) a w
  | [], r, r', rs, nm, i, n, g, H, h, hn, hh, hnm => by
    simp only [hoistJ, Option.some.injEq, Prod.mk.injEq] at hh
    obtain ⟨rfl, rfl⟩ := hh
    refine ⟨g, Gh.le.refl g, fun m hm => .inl hm, ?_⟩
    have : apH ((n, some r) :: addR nm []) H = H := by
      funext m
      simp only [apH, addR, upd]
      split
      · rename_i e; rw [e, hn]
      · rfl
    rw [this]; exact h
  | j :: js, r, r', rs, nm, i, n, g, H, h, hn, hh, hnm => by
    simp only [hoistJ] at hh
    split at hh
    · rename_i sz rows hc
      split at hh
      · rename_i hs
        split at hh
        · rename_i r1 rs1 h1
          simp only [Option.some.injEq, Prod.mk.injEq] at hh
          obtain ⟨rfl, rfl⟩ := hh
          have hnu : ¬ g.used nm := fun hu => hnm nm hu ⟨Nat.le_refl _, by simp⟩
          obtain ⟨g1, k1, k2, k3, k4⟩ := h.hoist hn hnu hs hc
          have hne : n ≠ nm := fun e => hnu (e ▸ (h.roots n r hn).1)
          have hn1 : upd (upd H n (some (r.setT i j (.lent nm sz rows.length)))) nm (some (.arr sz rows)) n = some (r.setT i j (.lent nm sz rows.length)) := by
            rw [upd_other _ _ hne, upd_same]
          obtain ⟨g2, q1, q2, q3⟩ := hoistJ_sound js _ r1 rs1 (nm + 1) i n g1 _ k4 hn1 h1 (fun m hm hc => by
            rcases k3 m hm with e | hm
            · omega
            · exact hnm m hm ⟨by omega, by simp only [List.length_cons]; omega⟩)
          refine ⟨g2, k1.trans q1, fun m hm => ?_, ?_⟩
          · simp only [List.length_cons]
            rcases q2 m hm with hm | hm
            · rcases k3 m hm with e | hm
              · exact .inr (by omega)
              · exact .inl hm
            · exact .inr (by omega)
          · have : apH ((n, some r1) :: addR (nm + 1) rs1) (upd (upd H n (some (r.setT i j (.lent nm sz rows.length)))) nm (some (.arr sz rows))) = apH ((n, some r1) :: addR nm (.arr sz rows :: rs1)) H := by
              funext m
              simp only [apH, addR, upd]
              by_cases e : m = n
              · rw [if_pos e, if_pos e]
              · rw [if_neg e, if_neg e, apH_addR, apH_addR]
                by_cases e2 : m = nm
                · subst e2
                  rw [if_pos rfl, if_neg (by omega), upd_same]
                · rw [if_neg e2]
                  split
                  · rfl
                  · rw [upd_other _ _ e2, upd_other _ _ e]
            rw [this] at q3
            exact q3
        · cases hh
      · cases hh
    · cases hh
inductive OpSem (P : Program) (S : Nat → Option D) (H : Nat → Option Root) (nm : Nat) : Op → Option D → List (Nat × Option Root) → Nat → Prop where
  | q {o : Op} {d : D} (h : qv P S H o = some d) : OpSem P S H nm o (some d) [] 0
  | mk {o : Op} {d : D} {r : Root} (h : mkOp P S o nm = some (d, r)) : OpSem P S H nm o (some d) [(nm, some r)] 1
  | ldh {t : TypeId} {x : Operand} {n sz i off : Nat} {js : List Nat} {r r' : Root} {rs : List Root} {d : D} (hx : evC S x = some (.ptr n sz i off)) (hr : H n = some r) (hj : hoistJ r i js nm = some (r', rs))
      (h : qv P S (apH ((n, some r') :: addR nm rs) H) (.load t x) = some d) : OpSem P S H nm (.load t x) (some d) ((n, some r') :: addR nm rs) rs.length
  | st {t : TypeId} {x y : Operand} {n : Nat} {r : Root} (h : storeH P t S H x y = some (n, r)) : OpSem P S H nm (.store t x y) none [(n, some r)] 0
  | app {t : TypeId} {s x : Operand} {sz bytes : Nat} {rows : List (List T)} {on : Option Nat} (h : appendH P t S H s x = some (sz, bytes, rows, on)) (hb : rows.length * bytes ≤ 140737488355328) :
      OpSem P S H nm (.call { callee := .builtin .append, args := #[s, x], argTypes := #[t, t] }) (some (.c (.view nm sz 0 rows.length))) ((nm, some (.arr sz rows)) :: dropN on) 1
  | clr {t : TypeId} {x : Operand} {n : Nat} {r : Root} (h : clearH P t S H x = some (n, r)) : OpSem P S H nm (.call { callee := .builtin .clear, args := #[x], argTypes := #[t] }) (some (.tup [])) [(n, some r)] 0
theorem mapO_mono {α β : Type} {f f' : α → Option β} (h : ∀ x y, f x = some y → f' x = some y) : ∀ {xs : List α} {ys : List β}, mapO f xs = some ys → mapO f' xs = some ys
  | [], ys, hd => hd
  | x :: xs, ys, hd => by
    simp only [mapO] at hd ⊢
    split at hd
    · rename_i y hy
      split at hd
      · rename_i ys' hys
        rw [h x y hy, mapO_mono h hys]; exact hd
      · cases hd
    · cases hd
variable {H' : Nat → Option Root}
theorem toI_mono (hH : ∀ n r, H n = some r → H' n = some r) {ex : List Nat} : ∀ (k : Nat) (t : T) (i : I), toI ex H k t = some i → toI ex H' k t = some i
  | 0, t, i, h => by cases t <;> exact h
  | k + 1, t, i, h => by
    cases t with
    | im => exact h
    | nil => exact h
    | dead => exact h
    | own sz rows =>
      simp only [toI] at h ⊢
      split at h
      · rename_i r hr; rw [mapO_mono (fun x y hx => mapO_mono (toI_mono hH k) hx) hr]; exact h
      · cases h
    | lent n sz len =>
      simp only [toI] at h ⊢
      split at h
      · cases h
      · rename_i hn
        rw [if_neg hn]
        split at h
        · rename_i sz' rows hr
          rw [hH n _ hr]
          simp only []
          split at h
          · rename_i hc
            rw [if_pos hc]
            split at h
            · rename_i r hr'; rw [mapO_mono (fun x y hx => mapO_mono (toI_mono hH k) hx) hr']; exact h
            · cases h
          · cases h
        · cases h
theorem loC_mono (hH : ∀ n r, H n = some r → H' n = some r) {ex : List Plc} : ∀ (k : Nat) (c c' : C), loC ex H k c = some c' → loC ex H' k c = some c' := by
  have hview : ∀ (k n sz lo len : Nat) (c' : C), loC ex H k (.view n sz lo len) = some c' → loC ex H' k (.view n sz lo len) = some c' := by
    intro k n sz lo len c' h
    simp only [loC] at h ⊢
    split at h
    · cases h
    · rename_i hn
      rw [if_neg hn]
      split at h
      · rename_i sz' rows hr
        rw [hH n _ hr]
        simp only []
        split at h
        · rename_i hc
          rw [if_pos hc]
          split at h
          · rename_i r hr'; rw [mapO_mono (fun x y hx => mapO_mono (toI_mono hH 4) hx) hr']; exact h
          · cases h
        · cases h
      · cases h
  intro k
  induction k with
  | zero => intro c c' h; cases c <;> first | exact h | exact hview _ _ _ _ _ _ h
  | succ k ih =>
    intro c c' h
    cases c with
    | fn f caps =>
      simp only [loC] at h ⊢
      split at h
      · rename_i cs hcs; rw [mapO_mono ih hcs]; exact h
      · cases h
    | view n sz lo len => exact hview _ _ _ _ _ _ h
    | _ => exact h
theorem loD_mono (hH : ∀ n r, H n = some r → H' n = some r) {ex : List Plc} (d d' : D) (h : loD ex H d = some d') : loD ex H' d = some d' := by
  cases d with
  | c x =>
    simp only [loD] at h ⊢
    split at h
    · rename_i y hy; rw [loC_mono hH 2 x y hy]; exact h
    · cases h
  | agg xs =>
    simp only [loD] at h ⊢
    split at h
    · rename_i ys hys; rw [mapO_mono (loC_mono hH 2) hys]; exact h
    · cases h
  | tup => exact h
theorem clearH_mono (hH : ∀ n r, H n = some r → H' n = some r) {t : TypeId} {x : Operand} {z : Nat × Root} (h : clearH P t S H x = some z) : clearH P t S H' x = some z := by
  unfold clearH at h ⊢
  split at h
  · split at h
    · split at h
      · split at h
        · split at h
          · rename_i hr
            simp only [hH _ _ hr]
            exact h
          · cases h
        · cases h
      · cases h
    · cases h
  · cases h
theorem storeH_mono (hH : ∀ n r, H n = some r → H' n = some r) {t : TypeId} {x y : Operand} {z : Nat × Root} (h : storeH P t S H x y = some z) : storeH P t S H' x y = some z := by
  unfold storeH at h ⊢
  split at h
  · split at h
    · split at h
      · split at h
        · split at h
          · rename_i hc
            split at h
            · rename_i r hr
              simp only [*, if_true] at h ⊢
              rw [hH _ _ hr]
              exact h
            · cases h
          · cases h
        · cases h
      · cases h
    · cases h
  · cases h
theorem srcRows_mono (hH : ∀ n r, H n = some r → H' n = some r) {x : Operand} {sz : Nat} {z : List (List T)} (h : srcRows S H x sz = some z) : srcRows S H' x sz = some z := by
  unfold srcRows at h ⊢
  split at h
  · rename_i m sz' lo k hx
    split at h
    · rename_i hc
      split at h
      · rename_i sz2 rows hr
        (try simp only [hx])
        rw [if_pos hc, hH _ _ hr]
        exact h
      · cases h
    · cases h
  · rename_i sz' rows hx; (try simp only [hx]); exact h
  · rename_i hx; (try simp only [hx]); exact h
  · cases h
theorem appendH_mono (hH : ∀ n r, H n = some r → H' n = some r) {t : TypeId} {s x : Operand} {z : Nat × Nat × List (List T) × Option Nat} (h : appendH P t S H s x = some z) : appendH P t S H' s x = some z := by
  unfold appendH at h ⊢
  split at h
  · rename_i e ht
    (try simp only [ht])
    split at h
    · rename_i sz bytes zc h1 h2 h3
      (try simp only [h1, h2, h3])
      split at h
      · rename_i hc
        rw [if_pos hc]
        split at h
        · rename_i src hsrc
          rw [srcRows_mono hH hsrc]
          simp only []
          split at h
          · rename_i n sz' len hs
            (try simp only [hs])
            split at h
            · rename_i hz
              rw [if_pos hz]
              split at h
              · rename_i sz2 rows hr
                rw [hH _ _ hr]
                exact h
              · cases h
            · cases h
          · rename_i hs; (try simp only [hs]); exact h
          · cases h
        · cases h
      · cases h
    · cases h
  · cases h
theorem plCells_some {p : Plc} {c : List B} (h : plCells H p = some c) : ∃ r, H p.n = some r := by obtain ⟨r, hr, _⟩ := plCells_get h; exact ⟨r, hr⟩
theorem plCells_mono (hH : ∀ n r, H n = some r → H' n = some r) {p : Plc} {c : List B} (h : plCells H p = some c) : plCells H' p = some c := by
  obtain ⟨r, hr⟩ := plCells_some h
  unfold plCells at h ⊢
  rw [hH _ _ hr]
  rw [hr] at h
  exact h
theorem PlOk_mono (hH : ∀ n r, H n = some r → H' n = some r) {ex : List Plc} {hs : List (List B)} (h : PlOk H ex hs) : PlOk H' ex hs :=
  ⟨h.1, h.2.1, fun k n c h1 h2 => ⟨plCells_mono hH (h.2.2 k n c h1 h2).1, (h.2.2 k n c h1 h2).2⟩⟩
theorem Rel.moreS {S' : Nat → Option D} (h : Rel en g S H a w) (hs : ∀ t d, S' t = some d → ∃ v, a.tmps[t]? = some v ∧ DV g d v) : Rel en g S' H a w :=
  ⟨h.fr, h.df, h.lt, h.fz, hs, h.roots, h.wd⟩
theorem Rel.putD (h : Rel en g S H a w) {dst : Option Nat} (hdst : ∀ t, dst = some t → t < a.tmps.size) {d : D} {v : Value} (hv : DV g d v) : Rel en g (apS dst (some d) S) H (a.put dst v) w := by
  cases dst with
  | none => exact h
  | some t => exact h.put (hdst t rfl) hv
theorem Rel.putN (h : Rel en g S H a w) (dst : Option Nat) (v : Value) : Rel en g (apS dst none S) H (a.put dst v) w := by
  have := h.putU dst v
  cases dst <;> exact this
theorem put_size (a : Act) (dst : Option Nat) (v : Value) : (a.put dst v).tmps.size = a.tmps.size := by cases dst <;> simp [Act.put]
theorem Good_enter {f : FuncId} (hf : ∃ fn : Func, P.funcs[f]? = some fn ∧ (fn.name == "runtime.NumGoroutine") = false ∧ fn.body.isNone = false) (args : Array Value) (w : World) : (callFunc f args).run P w = .ok (.enter f args) w := by
  obtain ⟨fn, h1, h2, h3⟩ := hf
  have h2' : ¬ fn.name = "runtime.NumGoroutine" := by simpa using h2
  have h3' : fn.body ≠ none := by
    intro h; rw [h] at h3; cases h3
  simp [callFunc, h1, h2', h3', h3]
def ExtLaw (P : Program) (f : FuncId) (ct : Ct) : Prop := ∀ (ds : List D) (hs : List (List B)) (o : Outs), ct.run ds hs = some o → hs = [] ∧ (∀ d ∈ ds, ∃ i, d = .c (.im i) ∧ scI i = true) ∧
    ∀ (fz : Nat → Nat → Option Value) (vs : List Value) (w : World), vs.length = ds.length → (∀ (t : Nat) (i : I) (v : Value), ds[t]? = some (.c (.im i)) → vs[t]? = some v → IR fz i v) →
      ∃ v z, (callFunc f vs.toArray).run P w = .ok (.value v) w ∧ o.mem { val := .c (.im z) } ∧ IR fz z v
theorem loD_sc {ex : List Plc} {H : Nat → Option Root} {d : D} {i : I} (h : loD ex H d = some (.c (.im i))) (hs : scI i = true) : d = .c (.im i) ∨ ∃ n sz lo, d = .c (.view n sz lo 0) ∧ i = .sl sz [] := by
  cases d with
  | c x =>
    simp only [loD] at h
    split at h
    · rename_i y hy
      simp only [Option.some.injEq, D.c.injEq] at h
      subst h
      cases x with
      | im j => simp only [loC, Option.some.injEq, C.im.injEq] at hy; rw [hy]; exact .inl rfl
      | view n sz lo len =>
        simp only [loC] at hy
        split at hy
        · cases hy
        · split at hy
          · split at hy
            · rename_i hcc
              split at hy
              · rename_i r hr
                simp only [Option.some.injEq, C.im.injEq] at hy
                subst hy
                have hr0 : r = [] := by simpa [scI] using hs
                subst hr0
                have hl := mapO_len hr
                simp only [List.length_nil, List.length_take, List.length_drop] at hl
                have : len = 0 := by have := hcc.2; omega
                subst this
                exact .inr ⟨n, sz, lo, rfl, rfl⟩
              · cases hy
            · cases hy
          · cases hy
      | ptr n sz i off =>
        simp only [loC] at hy
        split at hy
        · split at hy
          · split at hy
            · cases hy
            · cases hy
          · cases hy
        · cases hy
      | nil => simp [loC] at hy
      | iptr row off => simp [loC] at hy
      | fn f caps =>
        simp only [loC] at hy
        split at hy <;> cases hy
    · cases h
  | agg xs => simp only [loD] at h; split at h <;> cases h
  | tup ds => simp [loD] at h
theorem run_fconv_none {s k : FloatKind} {b b' : Nat} (h : FEq s b b') (hc : fconv s b k = none) : ∃ r w', (Conv.floatToFloat s b' k).run P w = .ok (.float k r) w' ∧ Qt w w' := by
  unfold fconv at hc
  by_cases hs : s = k
  · simp [hs] at hc
  · rw [if_neg hs] at hc
    have hb : b = b' := by
      rcases h with h | ⟨h1, h2⟩
      · exact h
      · obtain ⟨s1, t1, hr1⟩ := read_nan h1
        have hd1 : s.decode b = .nan s1 t1 := hr1
        rw [hd1] at hc; cases hc
    subst hb
    cases hd : s.decode b with
    | nan a c => rw [hd] at hc; cases hc
    | infinity sg => rw [hd] at hc; cases hc
    | number sg m e =>
      rw [hd] at hc
      simp only at hc
      split at hc
      · rename_i hi
        exact ⟨_, w.drew, by simp [Conv.floatToFloat, hs, hd, hi, Question.forced]; rfl, ⟨rfl, rfl, rfl, rfl⟩⟩
      · cases hc
theorem OpSem.sound {S' : Nat → Option D} {N nm cnt : Nat}
    {val : Option D} {wr : List (Nat × Option Root)} {Q : Exit → Act → World → Prop} {o : Oper} (h : Rel en g S' H' a w) (hN : a.tmps.size = N) (hS : ∀ t d, S t = some d → S' t = some d) (hH : ∀ n r, H n = some r → H' n = some r)
    (ho : OpSem P S H nm o.op val wr cnt) (hnm : ∀ m, g.used m → ¬ (nm ≤ m ∧ m < nm + cnt)) (hdst : ∀ t, o.dst = some t → t < N) :
    o.wp P a w (fun a' w' => ∃ g', (∀ m, g'.used m → g.used m ∨ (nm ≤ m ∧ m < nm + cnt)) ∧ Rel en g' (apS o.dst val S') (apH wr H') a' w' ∧ a'.tmps.size = N) Q := by
  subst hN
  have hless : Rel en g S H a w := h.less hS hH
  have hlessS : Rel en g S H' a w := h.less hS (fun _ _ h => h)
  have back : ∀ {g' : Gh} {Hn : Nat → Option Root} {w' : World}, g.le g' → Rel en g' S Hn a w' → Rel en g' S' Hn a w' := fun hle hr => hr.moreS (fun t d ht => by
    obtain ⟨v, hv, hd⟩ := h.slots t d ht; exact ⟨v, hv, hd.mono hle⟩)
  generalize hop : o.op = op at ho
  cases ho with
  | q hq =>
    rename_i d
    rw [← hop] at hq
    obtain ⟨v, w', h1, h2, h3⟩ := qv_sound (o := o) hless hq
    simp only [Oper.wp, h1, Oper.upon]
    exact ⟨g, fun m hm => .inl hm, (h.world h2.heap h2.os h2.tape h2.output).putD hdst h3, put_size _ _ _⟩
  | mk hq =>
    rename_i d r
    rw [← hop] at hq
    obtain ⟨v, w', g', h1, h2⟩ := mkOp_sound (o := o) hlessS (fun hu => hnm nm hu ⟨Nat.le_refl _, by omega⟩) hq
    simp only [Oper.wp, h1, Oper.upon]
    refine ⟨g', fun m hm => (h2.us m hm).elim (fun e => .inr (by omega)) .inl, (back h2.le h2.rel).putD hdst h2.val, put_size _ _ _⟩
  | ldh hx hr hj hq =>
    rename_i t x n sz i off js r r' rs d
    obtain ⟨g', k1, k2, k3⟩ := hoistJ_sound js r r' rs nm i n g H' hlessS (hH n r hr) hj hnm
    have hmono : ∀ m rm, apH ((n, some r') :: addR nm rs) H m = some rm → apH ((n, some r') :: addR nm rs) H' m = some rm := fun m rm hm => by
      simp only [apH, upd] at hm ⊢
      split at hm
      · rename_i e; rw [if_pos e]; exact hm
      · rename_i e
        rw [if_neg e]
        rw [apH_addR] at hm ⊢
        split at hm
        · rename_i e2; rw [if_pos e2]; exact hm
        · rename_i e2; rw [if_neg e2]; exact hH m rm hm
    rw [← hop] at hq
    obtain ⟨v, w', h1, h2, h3⟩ := qv_sound (o := o) (k3.less (fun _ _ h => h) hmono) hq
    simp only [Oper.wp, h1, Oper.upon]
    exact ⟨g', k2, ((back k1 k3).world h2.heap h2.os h2.tape h2.output).putD hdst h3, put_size _ _ _⟩
  | st hq =>
    rename_i t x y n r
    obtain ⟨w', h1, h2⟩ := storeH_sound hlessS (storeH_mono hH hq)
    have h1' : (execOp a.eval o).run P w = .ok .skip w' := by simp [execOp, hop, h1]
    simp only [Oper.wp, h1', Oper.upon]
    exact ⟨g, fun m hm => .inl hm, (back (Gh.le.refl g) h2).putN _ _, put_size _ _ _⟩
  | app hq hb =>
    rename_i t s x sz bytes rows on
    obtain ⟨v, w', h1, g', h2, h3, h4, h5⟩ := appendH_sound (ty := o.type) hlessS (appendH_mono hH hq) (fun hu => hnm nm hu ⟨Nat.le_refl _, by omega⟩) hb
    have h1' : (execOp a.eval o).run P w = .ok (.value v) w' := by simp [execOp, hop, resolve, invoke, builtin, h1]
    simp only [Oper.wp, h1', Oper.upon]
    refine ⟨g', fun m hm => (h3 m hm).elim (fun e => .inr (by omega)) .inl, ?_, put_size _ _ _⟩
    have h4' := (back h2 h4).putD hdst (.c _ _ h5)
    cases on <;> exact h4'
  | clr hq =>
    rename_i t x n r
    obtain ⟨w', h1, h2⟩ := clearH_sound (ty := o.type) hlessS (clearH_mono hH hq)
    have h1' : (execOp a.eval o).run P w = .ok (.value (.tuple #[])) w' := by simp [execOp, hop, resolve, invoke, builtin, h1]
    simp only [Oper.wp, h1', Oper.upon]
    exact ⟨g, fun m hm => .inl hm, (back (Gh.le.refl g) h2).putD hdst (.tup _ _ rfl (fun j x v hx => by simp at hx)), put_size _ _ _⟩
def imT : T → Option I
  | .im i => some i
  | _ => none
def Gh.frz (g : Gh) (b : Nat) (cs : Array Value) : Gh := { g with own := upd g.own b none, fz := fun b' o => if b' = b then cs[o]? else g.fz b' o }
theorem Rel.frzF (h : Rel en g S H a w) {n sz : Nat} {rows : List (List T)} {is : List (List I)} {f : T → Option I} (hn : H n = some (.arr sz rows)) (hi : mapO (mapO f) rows = some is)
    (hfi : ∀ (i : Nat) (r : List T) (j : Nat) (t : T) (x : I) (q : Pth) (v : Value), rows[i]? = some r → r[j]? = some t → f t = some x → TR w g n q t v → IR g.fz x v) :
    ∃ g', g.le g' ∧ g'.used = g.used ∧ Rel en g' S (upd H n none) a w ∧ ∀ v, CV g (.view n sz 0 rows.length) v → CV g' (.im (.sl sz is)) v := by
  have hless : Rel en g S (upd H n none) a w := h.less (fun _ _ h => h) (fun m r hm => by
    unfold upd at hm
    split at hm
    · cases hm
    · exact hm)
  have hlen : is.length = rows.length := mapO_len hi
  rcases Nat.eq_zero_or_pos rows.length with h0 | h0
  · have hr : rows = [] := List.eq_nil_of_length_eq_zero h0
    subst hr
    have his : is = [] := List.eq_nil_of_length_eq_zero hlen
    subst his
    refine ⟨g, Gh.le.refl g, rfl, hless, fun v hv => ?_⟩
    cases hv with
    | view0 => exact .im _ _ (.sl0 _ _ _)
    | view => exact .im _ _ (.sl0 _ _ _)
  · obtain ⟨hu, hR⟩ := h.roots n _ hn
    cases hR with
    | arr0 => simp at h0
    | mk _ cs e hh ho hf hr =>
      obtain ⟨f1, f2, f3, f4⟩ := hf
      have hpl : ∀ b', en.g0.own b' ≠ some (n, []) := fun b' hb' => by
        obtain ⟨c0, hc0, _⟩ := h.wd n _ b' hn hb'
        cases hc0
      have hfree : ∀ o, g.fz (g.rb n) o = none := fun o => by
        cases hz : g.fz (g.rb n) o with
        | none => rfl
        | some v => have := (h.fz _ _ _ hz).2; rw [ho] at this; cases this
      have hle : g.le (g.frz (g.rb n) cs) := ⟨fun _ h => h, fun _ _ => rfl, fun _ _ => rfl, fun _ _ => rfl, fun b o v hv => by
        simp only [Gh.frz]
        split
        · rename_i e; rw [e, hfree] at hv; cases hv
        · exact hv⟩
      have hcell : ∀ o v, cs[o]? = some v → w.cell? ⟨g.rb n, o, none⟩ = some v := fun o v hv => by simp [World.cell?, hh, hv]
      refine ⟨g.frz (g.rb n) cs, hle, rfl, ⟨⟨h.fr.os, h.fr.tape, h.fr.output, h.fr.size, h.fr.gle.trans hle, fun b hb hb0 => ?_, fun b k hb => ?_, fun b o v hb hv => ?_⟩, h.df, fun b x hx => ?_, fun b o v hv => ?_, fun t d ht => ?_, fun k r1 hk => ?_, fun k r1 b hk hb => ?_⟩, fun v hv => ?_⟩
      · obtain ⟨h1, h2⟩ := h.fr.old b hb hb0
        refine ⟨?_, h2⟩
        simp only [Gh.frz, upd]
        split
        · rfl
        · exact h1
      · obtain ⟨k0, k1, c1, c2, e1, k2, k3, k4⟩ := h.fr.place b k hb
        refine ⟨k0, ?_, c1, c2, e1, k2, k3, k4⟩
        simp only [Gh.frz, upd]
        split
        · rename_i e'
          rw [e', ho] at k1
          injection k1 with k1
          injection k1 with k1 _
          exact absurd (k1 ▸ hb) (hpl b)
        · exact k1
      · simp only [Gh.frz] at hv
        split at hv
        · rename_i e'
          cases ho0 : en.g0.own b with
          | none => have := (h.fr.old b hb ho0).1; rw [e', ho] at this; cases this
          | some x => exact .inr (by simp)
        · exact h.fr.fzn b o v hb hv
      · simp only [Gh.frz, upd] at hx
        split at hx
        · cases hx
        · exact h.lt b x hx
      · simp only [Gh.frz] at hv
        split at hv
        · rename_i e'
          subst e'
          exact ⟨hcell o v hv, by simp [Gh.frz, upd]⟩
        · rename_i e'
          obtain ⟨h1, h2⟩ := h.fz b o v hv
          exact ⟨h1, by simp only [Gh.frz, upd]; rw [if_neg e']; exact h2⟩
      · obtain ⟨v, hv, hd⟩ := h.slots t d ht; exact ⟨v, hv, hd.mono hle⟩
      · unfold upd at hk
        split at hk
        · cases hk
        · rename_i e'
          obtain ⟨hu1, hR1⟩ := h.roots k r1 hk
          refine ⟨hu1, hR1.keep hu1 hle (fun b p hb => ⟨?_, rfl⟩)⟩
          simp only [Gh.frz, upd]
          split
          · rename_i e2
            rw [e2, ho] at hb
            injection hb with hb
            injection hb with hb _
            exact absurd hb.symm e'
          · exact hb
      · unfold upd at hk
        split at hk
        · cases hk
        · exact h.wd k r1 b hk hb
      · generalize hL : rows.length = L at hv
        cases hv with
        | view0 => omega
        | view _ _ _ _ cap _ hbase hl hc =>
          subst hL
          rw [Nat.zero_mul]
          have key : ∀ (i : Nat) (r : List I) (j : Nat) (x : I), is[i]? = some r → r[j]? = some x → ∃ v, (g.frz (g.rb n) cs).fz (g.rb n) (0 + i * sz + j) = some v ∧ IR (g.frz (g.rb n) cs).fz x v := fun i r j x hir hjx => by
            obtain ⟨r0, k1, k2⟩ := mapO_at hi i r hir
            obtain ⟨t0, k3, k4⟩ := mapO_at k2 j x hjx
            have hget : (Root.arr sz rows).get i j = some (.t t0) := by simp [Root.get, k1, k3]
            obtain ⟨v, hv1, hv2⟩ := hr i j _ hget
            rw [f1] at hv1
            refine ⟨v, by simp only [Gh.frz, if_true]; exact hv1, ?_⟩
            cases hv2 with
            | t _ _ ht => exact (hfi i r0 j t0 x _ _ k1 k3 k4 ht).mono hle.fz
          obtain ⟨vs, hvs⟩ := rows_choose key
          have := IR.sl (fz := (g.frz (g.rb n) cs).fz) sz is (g.rb n) 0 cap vs (by rw [hlen]; exact hl) (fun i r hir => by
            obtain ⟨r0, k1, k2⟩ := mapO_at hi i r hir
            rw [mapO_len k2]; exact f4 i r0 k1) (fun i r j x h1 h2 => (hvs i r j x h1 h2).1) (fun i r j x h1 h2 => (hvs i r j x h1 h2).2)
          rw [hlen] at this
          exact .im _ _ this
theorem Rel.frz (h : Rel en g S H a w) {n sz : Nat} {rows : List (List T)} {is : List (List I)} (hn : H n = some (.arr sz rows)) (hi : mapO (mapO imT) rows = some is) :
    ∃ g', g.le g' ∧ g'.used = g.used ∧ Rel en g' S (upd H n none) a w ∧ ∀ v, CV g (.view n sz 0 rows.length) v → CV g' (.im (.sl sz is)) v :=
  h.frzF hn hi (fun i r j t x q v _ _ ht hv => by
    cases t <;> simp [imT] at ht
    subst ht
    cases hv with | im _ _ _ hir => exact hir)
def imTN (H : Nat → Option Root) : T → Option I
  | .im i => some i
  | .lent m sz len => match H m with
    | some (.arr sz' rs) => if sz' = sz ∧ rs.length = len then match mapO (mapO imT) rs with
        | some is => some (.sl sz is)
        | none => none
      else none
    | _ => none
  | _ => none
def lentsT : List (List T) → List Nat := fun rows => rows.flatMap fun r => r.flatMap fun t => match t with
  | .lent n _ _ => [n]
  | _ => []
def nones (ms : List Nat) : List (Nat × Option Root) := ms.map fun m => (m, none)
theorem apH_nones {ms : List Nat} {H : Nat → Option Root} {n : Nat} : apH (nones ms) H n = if n ∈ ms then none else H n := by
  induction ms with
  | nil => rfl
  | cons m ms ih =>
    simp only [nones, List.map_cons, apH, upd] at ih ⊢
    by_cases e : n = m
    · subst e; simp
    · rw [if_neg e, ih]; simp [e]
theorem frz_all {H' : Nat → Option Root} (hm : ∀ n r, H n = some r → H' n = some r) (h : Rel en g S H' a w) : ∀ (ms : List Nat), (∀ m ∈ ms, ∃ sz rows is, H m = some (.arr sz rows) ∧ mapO (mapO imT) rows = some is) →
    ∃ g', g.le g' ∧ g'.used = g.used ∧ Rel en g' S (apH (nones ms) H') a w ∧ ∀ m ∈ ms, ∀ sz rows is, H m = some (.arr sz rows) → mapO (mapO imT) rows = some is → ∀ v, CV g (.view m sz 0 rows.length) v → CV g' (.im (.sl sz is)) v
  | [], _ => ⟨g, Gh.le.refl g, rfl, h, fun m hm => by cases hm⟩
  | m :: ms, hall => by
    obtain ⟨g1, k1, k2, k3, k4⟩ := frz_all hm h ms (fun x hx => hall x (.tail _ hx))
    by_cases hmem : m ∈ ms
    · refine ⟨g1, k1, k2, k3.less (fun _ _ h => h) (fun n r hn => ?_), fun x hx => ?_⟩
      · rw [apH_nones] at hn ⊢
        split at hn
        · cases hn
        · rename_i e; rw [if_neg (show ¬ n ∈ ms from fun e' => e (List.mem_cons_of_mem _ e'))]; exact hn
      · rcases List.mem_cons.1 hx with rfl | hx
        · exact k4 _ hmem
        · exact k4 _ hx
    · obtain ⟨sz, rows, is, q1, q2⟩ := hall m (.head _)
      have hmm : apH (nones ms) H' m = some (.arr sz rows) := by rw [apH_nones, if_neg hmem]; exact hm _ _ q1
      obtain ⟨g2, p1, p2, p3, p4⟩ := k3.frz hmm q2
      refine ⟨g2, k1.trans p1, p2.trans k2, ?_, fun x hx sz' rows' is' e1 e2 v hv => ?_⟩
      · have : apH (nones (m :: ms)) H' = upd (apH (nones ms) H') m none := by simp only [nones, List.map_cons, apH]
        rw [this]; exact p3
      · rcases List.mem_cons.1 hx with rfl | hx
        · rw [q1] at e1
          injection e1 with e1
          injection e1 with e3 e4
          subst e3; subst e4
          rw [q2] at e2
          injection e2 with e2
          subst e2
          exact p4 v (hv.mono k1)
        · exact (k4 x hx sz' rows' is' e1 e2 v hv).mono p1
def frzD (sc : Bool) (H : Nat → Option Root) : D → D × List (Nat × Option Root)
  | .c (.view n sz lo len) => if sc = true then (.c (.view n sz lo len), []) else match lo, H n with
    | 0, some (.arr sz' rows) => if sz' = sz ∧ rows.length = len then match mapO (mapO imT) rows with
        | some is => (.c (.im (.sl sz is)), [(n, none)])
        | none => match mapO (mapO (imTN H)) rows with
          | some is => if n ∈ lentsT rows then (.c (.view n sz 0 len), []) else (.c (.im (.sl sz is)), (n, none) :: nones (lentsT rows))
          | none => (.c (.view n sz 0 len), [])
      else (.c (.view n sz 0 len), [])
    | lo', _ => (.c (.view n sz lo' len), [])
  | d => (d, [])
def frzL (sc : Bool) (H : Nat → Option Root) : List D → List (Nat × Option Root) → List D × List (Nat × Option Root)
  | [], ws => ([], ws)
  | d :: ds, ws => ((frzD sc (apH ws H) d).1 :: (frzL sc H ds ((frzD sc (apH ws H) d).2 ++ ws)).1, (frzL sc H ds ((frzD sc (apH ws H) d).2 ++ ws)).2)
theorem frzD_sound (sc : Bool) {H' : Nat → Option Root} (hm : ∀ n r, H n = some r → H' n = some r) (h : Rel en g S H' a w) (d : D) :
    ∃ g', g.le g' ∧ g'.used = g.used ∧ (∀ n r, apH (frzD sc H d).2 H n = some r → apH (frzD sc H d).2 H' n = some r) ∧ Rel en g' S (apH (frzD sc H d).2 H') a w ∧ ∀ v, DV g d v → DV g' (frzD sc H d).1 v := by
  have same : ∃ g', g.le g' ∧ g'.used = g.used ∧ (∀ n r, apH [] H n = some r → apH [] H' n = some r) ∧ Rel en g' S (apH [] H') a w ∧ ∀ v, DV g d v → DV g' d v := ⟨g, Gh.le.refl g, rfl, hm, h, fun _ h => h⟩
  unfold frzD
  split
  · rename_i n sz lo len
    split
    · exact same
    · split
      · rename_i sz' rows hr
        split
        · rename_i hc
          obtain ⟨rfl, rfl⟩ := hc
          split
          · rename_i is his
            obtain ⟨g', k1, k2, k3, k4⟩ := h.frz (hm _ _ hr) his
            refine ⟨g', k1, k2, fun k r hk => ?_, k3, fun v hv => ?_⟩
            · simp only [apH, upd] at hk ⊢
              split at hk
              · cases hk
              · rename_i e; rw [if_neg e]; exact hm k r hk
            · cases hv with | c _ _ hc => exact .c _ _ (k4 v hc)
          · split
            · rename_i is his
              split
              · exact same
              · rename_i hnm
                have hall : ∀ m ∈ lentsT rows, ∃ sz rows is, H m = some (.arr sz rows) ∧ mapO (mapO imT) rows = some is := fun m hmem => by
                  simp only [lentsT, List.mem_flatMap] at hmem
                  obtain ⟨r0, hr0, t, ht, hmt⟩ := hmem
                  obtain ⟨i, hi⟩ := List.getElem?_of_mem hr0
                  obtain ⟨j, hj⟩ := List.getElem?_of_mem ht
                  have hil : i < is.length := by rw [mapO_len his]; exact (List.getElem?_eq_some_iff.1 hi).1
                  obtain ⟨r1, e1, e2⟩ := mapO_at his i _ (List.getElem?_eq_getElem hil)
                  rw [hi] at e1; injection e1 with e1; subst e1
                  have hjl : j < is[i].length := by rw [mapO_len e2]; exact (List.getElem?_eq_some_iff.1 hj).1
                  obtain ⟨t1, e3, e4⟩ := mapO_at e2 j _ (List.getElem?_eq_getElem hjl)
                  rw [hj] at e3; injection e3 with e3; subst e3
                  cases t with
                  | lent m0 sz0 len0 =>
                    simp only [List.mem_singleton] at hmt
                    subst hmt
                    simp only [imTN] at e4
                    split at e4
                    · rename_i sz1 rs1 hr1
                      split at e4
                      · split at e4
                        · rename_i is1 his1
                          exact ⟨sz1, rs1, is1, hr1, his1⟩
                        · cases e4
                      · cases e4
                    · cases e4
                  | _ => simp at hmt
                obtain ⟨g1, k1, k2, k3, k4⟩ := frz_all hm h (lentsT rows) hall
                have hn1 : apH (nones (lentsT rows)) H' n = some (.arr sz' rows) := by rw [apH_nones, if_neg hnm]; exact hm _ _ hr
                obtain ⟨g2, p1, p2, p3, p4⟩ := k3.frzF hn1 his (fun i r j t x q v hir hjt htx hv => by
                  cases t with
                  | im y =>
                    simp only [imTN, Option.some.injEq] at htx
                    subst htx
                    cases hv with | im _ _ _ hir => exact hir
                  | lent m0 sz0 len0 =>
                    have hmem : m0 ∈ lentsT rows := by
                      simp only [lentsT, List.mem_flatMap]
                      exact ⟨r, List.mem_of_getElem? hir, _, List.mem_of_getElem? hjt, by simp⟩
                    simp only [imTN] at htx
                    split at htx
                    · rename_i sz1 rs1 hr1
                      split at htx
                      · rename_i hc1
                        obtain ⟨rfl, rfl⟩ := hc1
                        split at htx
                        · rename_i is1 his1
                          injection htx with htx
                          subst htx
                          cases hv with
                          | lent _ _ _ _ _ hv =>
                            generalize hL : rs1.length = L at hv
                            have hv0 : CV g (.view m0 sz1 0 L) v := by
                              cases hv with
                              | view0 _ _ _ A hu' => exact .view0 _ _ _ A (by rw [← k2]; exact hu')
                              | view _ _ _ _ cap hu' hb hl hc =>
                                have hu0 : g.used m0 := by rw [← k2]; exact hu'
                                rw [k1.base m0 hu0] at hb
                                rw [k1.rc m0 hu0] at hc
                                rw [k1.rb m0 hu0]
                                exact .view _ _ _ _ cap hu0 hb hl hc
                            subst hL
                            cases k4 m0 hmem sz1 rs1 is1 hr1 his1 v hv0 with | im _ _ hi => exact hi
                        · cases htx
                      · cases htx
                    · cases htx
                  | _ => simp [imTN] at htx)
                refine ⟨g2, k1.trans p1, p2.trans k2, fun k r hk => ?_, p3, fun v hv => ?_⟩
                · simp only [apH, upd] at hk ⊢
                  split at hk
                  · cases hk
                  · rename_i e
                    rw [if_neg e]
                    rw [apH_nones] at hk ⊢
                    split at hk
                    · cases hk
                    · rename_i e2; rw [if_neg e2]; exact hm k r hk
                · cases hv with | c _ _ hc => exact .c _ _ (p4 v (hc.mono k1))
            · exact same
        · exact same
      · exact same
  · exact same
theorem frzL_sound (sc : Bool) {H' : Nat → Option Root} {vs : List Value} : ∀ (ds : List D) (ws : List (Nat × Option Root)) (g : Gh) (k : Nat), (∀ n r, apH ws H n = some r → apH ws H' n = some r) → Rel en g S (apH ws H') a w →
    (∀ (t : Nat) (d : D) (v : Value), ds[t]? = some d → vs[k + t]? = some v → DV g d v) →
    ∃ g', g.le g' ∧ g'.used = g.used ∧ (∀ n r, apH (frzL sc H ds ws).2 H n = some r → apH (frzL sc H ds ws).2 H' n = some r) ∧ Rel en g' S (apH (frzL sc H ds ws).2 H') a w ∧
      (frzL sc H ds ws).1.length = ds.length ∧ ∀ (t : Nat) (d : D) (v : Value), (frzL sc H ds ws).1[t]? = some d → vs[k + t]? = some v → DV g' d v
  | [], ws, g, k, hm, h, hd => ⟨g, Gh.le.refl g, rfl, hm, h, rfl, fun t d v h => by simp [frzL] at h⟩
  | d :: ds, ws, g, k, hm, h, hd => by
    obtain ⟨g1, a1, a2, a3, a4, a5⟩ := frzD_sound (H := apH ws H) (H' := apH ws H') sc hm h d
    have e1 : apH (frzD sc (apH ws H) d).2 (apH ws H) = apH ((frzD sc (apH ws H) d).2 ++ ws) H := by rw [apH_app]
    have e2 : apH (frzD sc (apH ws H) d).2 (apH ws H') = apH ((frzD sc (apH ws H) d).2 ++ ws) H' := by rw [apH_app]
    rw [e1, e2] at a3
    rw [e2] at a4
    obtain ⟨g2, b1, b2, b3, b4, b5, b6⟩ := frzL_sound sc (vs := vs) ds ((frzD sc (apH ws H) d).2 ++ ws) g1 (k + 1) a3 a4 (fun t d' v ht hv => (hd (t + 1) d' v (by simpa using ht) (by rw [show k + (t + 1) = k + 1 + t by omega]; exact hv)).mono a1)
    refine ⟨g2, a1.trans b1, b2.trans a2, b3, b4, by simp [frzL, b5], fun t d' v ht hv => ?_⟩
    cases t with
    | zero =>
      simp [frzL] at ht
      subst ht
      exact (a5 v (hd 0 d v rfl hv)).mono b1
    | succ t =>
      simp [frzL] at ht
      exact b6 t d' v ht (by rw [show k + 1 + t = k + (t + 1) by omega]; exact hv)
def lentCs (n i : Nat) : List B → Nat → List (Nat × Nat × Nat)
  | [], _ => []
  | .t (.lent _ _ _) :: cs, j => (n, i, j) :: lentCs n i cs (j + 1)
  | _ :: cs, j => lentCs n i cs (j + 1)
def lentPs (H : Nat → Option Root) : List Plc → List (Nat × Nat × Nat)
  | [] => []
  | p :: ex => match plCells H p with
    | some c => lentCs p.n p.i c 0 ++ lentPs H ex
    | none => lentPs H ex
def preW (H : Nat → Option Root) : List (Nat × Nat × Nat) → List (Nat × Option Root) → List (Nat × Option Root)
  | [], ws => ws
  | (n, i, j) :: l, ws => match apH ws H n with
    | some r => match r.get i j with
      | some (.t (.lent m sz len)) => match apH ws H m with
        | some (.arr sz' rows) => if sz' = sz ∧ rows.length = len ∧ m ≠ n then preW H l ((n, some (r.setT i j (.own sz rows))) :: (m, none) :: ws) else ws
        | _ => ws
      | _ => ws
    | none => ws
theorem preW_sound {H' : Nat → Option Root} : ∀ (l : List (Nat × Nat × Nat)) (ws : List (Nat × Option Root)) (g : Gh), (∀ n r, apH ws H n = some r → apH ws H' n = some r) → Rel en g S (apH ws H') a w →
    ∃ g', g.le g' ∧ g'.used = g.used ∧ (∀ n r, apH (preW H l ws) H n = some r → apH (preW H l ws) H' n = some r) ∧ Rel en g' S (apH (preW H l ws) H') a w
  | [], ws, g, hm, h => ⟨g, Gh.le.refl g, rfl, hm, h⟩
  | (n, i, j) :: l, ws, g, hm, h => by
    simp only [preW]
    split
    · rename_i r hr
      split
      · rename_i m sz len hc
        split
        · rename_i sz' rows hr2
          split
          · rename_i hcc
            obtain ⟨rfl, rfl, hmn⟩ := hcc
            have h1 := h.fold (hm n r hr) (hm m _ hr2) hmn hc
            obtain ⟨g', k1, k2, k3, k4⟩ := preW_sound l ((n, some (r.setT i j (.own sz' rows))) :: (m, none) :: ws) (g.into m n [(i, j)]) (fun k r hk => by
              simp only [apH, upd] at hk ⊢
              split at hk
              · rename_i e; rw [if_pos e]; exact hk
              · rename_i e
                rw [if_neg e]
                split at hk
                · cases hk
                · rename_i e2; rw [if_neg e2]; exact hm k r hk) h1
            exact ⟨g', (Gh.into_le g m n _).trans k1, k2, k3, k4⟩
          · exact ⟨g, Gh.le.refl g, rfl, hm, h⟩
        · exact ⟨g, Gh.le.refl g, rfl, hm, h⟩
      · exact ⟨g, Gh.le.refl g, rfl, hm, h⟩
    · exact ⟨g, Gh.le.refl g, rfl, hm, h⟩
def Env (P : Program) (Φ : FuncId → Option Ct) : Prop := ∀ f ct, Φ f = some ct → (Good P f ct ∧ ∃ fn : Func, P.funcs[f]? = some fn ∧ (fn.name == "runtime.NumGoroutine") = false ∧ fn.body.isNone = false) ∨ ExtLaw P f ct
theorem call_sound {Φ : FuncId → Option Ct} (hΦ : Env P Φ) {S' : Nat → Option D} {N nm : Nat} {Q : Exit → Act → World → Prop} {o : Oper} (h : Rel en g S' H' a w) (hN : a.tmps.size = N) (hS : ∀ t d, S t = some d → S' t = some d) (hH : ∀ n r, H n = some r → H' n = some r)
    {f : Operand} {args : Array Operand} {ts : Array TypeId} {k : FuncId} {caps : List C} {ct : Ct} {ds ds' : List D} {hs : List (List B)} {os : Outs} (hop : o.op = .call { callee := .value f, args := args, argTypes := ts }) (hf : evC S f = some (.fn (.func k) caps)) (hk : Φ k = some ct)
    {ds0 : List D} {fw : List (Nat × Option Root)} (hd : evDs S args.toList = some ds0) (hfz : frzL ct.sc H ds0 [] = (ds, fw)) {ws : List (Nat × Option Root)} (hws : ws = preW H (lentPs H (exDs (ds ++ caps.map D.c))) fw) (hpl : PlOk (apH ws H) (exDs (ds ++ caps.map D.c)) hs) (hlo : mapO (loD (exDs (ds ++ caps.map D.c)) (if ct.sc then apH ws H else fun _ => none)) (ds ++ caps.map D.c) = some ds') (hrun : ct.run ds' hs = some os) (hdst : ∀ t, o.dst = some t → t < N) :
    o.wp P a w (fun a' w' => ∃ res, os.mem res ∧ ∀ d, reD (fun n => nm + n) res.val = some d → (∀ m, g.used m → ¬ (nm ≤ m ∧ m < nm + res.roots.length)) →
      ∃ g', (∀ m, g'.used m → g.used m ∨ (nm ≤ m ∧ m < nm + res.roots.length)) ∧ Rel en g' (apS o.dst (some d) S') (apH (addR nm res.roots ++ (addP (apH ws H) (exDs (ds ++ caps.map D.c)) res.places ++ ws)) H') a' w' ∧ a'.tmps.size = N) Q := by
  subst hN
  have hev0 := evDs_sound (h.less hS hH) hd
  obtain ⟨g8, hle8, hu8, hm8, h8, hl8, hd8⟩ := frzL_sound (H := H) (H' := H') ct.sc (vs := args.toList.map a.eval) ds0 [] g 0 hH h (fun t d v ht hv => hev0.2 t d v ht (by rw [Nat.zero_add] at hv; exact hv))
  rw [hfz] at hm8 h8 hl8 hd8
  obtain ⟨g9, hle98, hu98, hH9, h9⟩ := preW_sound (H := H) (H' := H') (lentPs H (exDs (ds ++ caps.map D.c))) fw g8 hm8 h8
  have hle9 : g.le g9 := hle8.trans hle98
  have hu9 : g9.used = g.used := hu98.trans hu8
  have hl1 : ds.length = args.toList.length := hl8.trans hev0.1
  have hl2 : ∀ (t : Nat) (d : D) (v : Value), ds[t]? = some d → (args.toList.map a.eval)[t]? = some v → DV g9 d v := fun t d v ht hv => (hd8 t d v ht (by rw [Nat.zero_add]; exact hv)).mono hle98
  rw [← hws] at hH9 h9
  have hless0 : Rel en g S H a w := h.less hS hH
  have hgoal : ∀ {g' : Gh} {res : Res}, (∀ m, g'.used m → g9.used m ∨ (nm ≤ m ∧ m < nm + res.roots.length)) → (∀ m, g'.used m → g.used m ∨ (nm ≤ m ∧ m < nm + res.roots.length)) := fun h m hm => by rw [← hu9]; exact h m hm
  have hless : Rel en g9 S (apH ws H) a w := h9.less hS hH9
  have hlessS : Rel en g9 S (apH ws H') a w := h9.less hS (fun _ _ h => h)
  have back : ∀ {g' : Gh} {Hn : Nat → Option Root} {w' : World}, g9.le g' → Rel en g' S Hn a w' → Rel en g' S' Hn a w' := fun hle hr => hr.moreS (fun t d ht => by
    obtain ⟨v, hv, hd⟩ := h9.slots t d ht; exact ⟨v, hv, hd.mono hle⟩)
  have hfv := evC_sound hless hf
  generalize hfe : a.eval f = u at hfv
  cases hfv with
  | fn _ _ vs hvs hvr =>
    have hargsR : ∀ (t : Nat) (d : D) (v : Value), (ds ++ caps.map D.c)[t]? = some d → (args.toList.map a.eval ++ vs.toList)[t]? = some v → DV g9 d v := fun t d v ht hv => by
      by_cases hlt : t < ds.length
      · rw [List.getElem?_append_left hlt] at ht
        rw [List.getElem?_append_left (by simp [← hl1]; exact hlt)] at hv
        exact hl2 t d v ht hv
      · rw [List.getElem?_append_right (by omega)] at ht
        rw [List.getElem?_append_right (by simp [← hl1]; omega)] at hv
        rw [List.getElem?_map, Option.map_eq_some_iff] at ht
        obtain ⟨c, hc, rfl⟩ := ht
        rw [show (List.map a.eval args.toList).length = ds.length by simp [hl1]] at hv
        exact .c _ _ (hvr _ c v hc (by simpa using hv))
    have hargs : (args.toList.map a.eval ++ vs.toList).toArray = args.map a.eval ++ vs := by
      rw [← Array.toList_inj]; simp
    rcases hΦ k ct hk with ⟨hG, hent⟩ | hX
    · have hcr := call_rel hlessS (nm := nm) hG (PlOk_mono hH9 hpl) (br := ct.sc) (fun h => h) (ds := ds ++ caps.map D.c) (args := args.toList.map a.eval ++ vs.toList) (by simp [hl1, hvs]) hargsR
        (by
          cases hsc : ct.sc with
          | true => rw [hsc] at hlo; simp only [if_true] at hlo ⊢; exact mapO_mono (fun x y => loD_mono hH9 x y) hlo
          | false => rw [hsc] at hlo; simpa using hlo) hrun
      rw [hargs] at hcr
      have h1' : (execOp a.eval o).run P w = .ok (.enter k (args.map a.eval ++ vs)) w := by
        simp [execOp, hop, resolve, hfe, Deferred.ofValue, invoke, Good_enter hent]
      simp only [Oper.wp, h1', Oper.upon]
      refine hcr.mono fun e w' ⟨v, he, res, hm, hcont⟩ => ?_
      subst he
      refine ⟨res, hm, fun d hre hnm => ?_⟩
      obtain ⟨g', k1, k2, k3, k4⟩ := hcont d hre (by rw [hu9]; exact hnm)
      refine ⟨g', hgoal k2, ?_, put_size _ _ _⟩
      have hadd : addP (apH ws H) (exDs (ds ++ caps.map D.c)) res.places = addP (apH ws H') (exDs (ds ++ caps.map D.c)) res.places := addP_mono _ _ (fun q hq => by
        obtain ⟨k9, hk9, rfl⟩ := List.mem_iff_getElem.1 hq
        have h9 : (exDs (ds ++ caps.map D.c))[k9]? = some (exDs (ds ++ caps.map D.c))[k9] := List.getElem?_eq_getElem hk9
        have hl9 : k9 < hs.length := by rw [hpl.2.1]; exact hk9
        obtain ⟨r9, hr9⟩ := plCells_some (hpl.2.2 k9 _ _ h9 (List.getElem?_eq_getElem hl9)).1
        rw [hr9, hH9 _ _ hr9])
      rw [hadd, ← List.append_assoc, apH_app, ← backH_ap]
      exact (back k1 k3).putD hdst k4
    · obtain ⟨rfl, hsc, hcall⟩ := hX ds' hs os hrun
      have hex0 : exDs (ds ++ caps.map D.c) = [] := List.eq_nil_of_length_eq_zero hpl.2.1.symm
      have hlen : (args.toList.map a.eval ++ vs.toList).length = ds'.length := by rw [mapO_len hlo]; simp [hl1, hvs]
      obtain ⟨v, z, hrunv, hmem, hir⟩ := hcall g9.fz (args.toList.map a.eval ++ vs.toList) w hlen (fun t i v ht hv => by
        obtain ⟨i', hi', hs'⟩ := hsc _ (List.mem_of_getElem? ht)
        cases hi'
        obtain ⟨d0, h1, h2⟩ := mapO_at hlo t _ ht
        have := loD_sc h2 hs'
        rcases this with this | this
        · subst this
          have hdv := hargsR t _ v h1 hv
          cases hdv with | c _ _ hc => cases hc with | im _ _ hh => exact hh
        · obtain ⟨n, sz, lo, rfl, rfl⟩ := this
          have hdv := hargsR t _ v h1 hv
          cases hdv with
          | c _ _ hc =>
            cases hc with
            | view0 _ _ _ A _ => exact .sl0 _ _ _
            | view _ _ _ _ cap _ _ _ _ => exact .sl0 _ _ _)
      rw [hargs] at hrunv
      have h1' : (execOp a.eval o).run P w = .ok (.value v) w := by
        simp [execOp, hop, resolve, hfe, Deferred.ofValue, invoke, hrunv]
      simp only [Oper.wp, h1', Oper.upon]
      refine ⟨_, hmem, fun d hre hnm => ?_⟩
      simp only [reD, reC, Option.some.injEq] at hre
      subst hre
      rw [hex0]
      exact ⟨g9, fun m hm => .inl (by rw [← hu9]; exact hm), h9.putD hdst (.c _ _ (.im _ _ hir)), put_size _ _ _⟩
theorem conv_sound {S' : Nat → Option D} {N : Nat} {Q : Exit → Act → World → Prop} {o : Oper} (h : Rel en g S' H' a w) (hN : a.tmps.size = N) (hS : ∀ t d, S t = some d → S' t = some d) (hH : ∀ n r, H n = some r → H' n = some r)
    {s d : TypeId} {x : Operand} {b : Nat} {dd : TypeDesc} (hop : o.op = .convert s d x) (hx : evI S x = some (.flt .f64 b)) (hs : P.underlying s = some dd) (hd : P.underlying d = some (.float .f32)) (hc : fconv .f64 b .f32 = none) (hdst : ∀ t, o.dst = some t → t < N) :
    o.wp P a w (fun a' w' => ∃ n : Nat, Rel en g (apS o.dst (some (.c (.im (.flt .f32 n)))) S') H' a' w' ∧ a'.tmps.size = N) Q := by
  subst hN
  obtain ⟨y, hy, hf⟩ := (evI_sound (h.less hS hH) hx).flt_inv
  obtain ⟨r, w', h1, h2⟩ := run_fconv_none (P := P) (w := w) hf hc
  have h1' : (execOp a.eval o).run P w = .ok (.value (.float .f32 r)) w' := by
    simp [execOp, hop, hy, convert, run_underlying hs, run_underlying hd, h1]
  simp only [Oper.wp, h1', Oper.upon]
  exact ⟨r, (h.world h2.heap h2.os h2.tape h2.output).putD hdst (.c _ _ (.im _ _ (.flt _ _ _ (.inl rfl)))), put_size _ _ _⟩
end Go.SX
set_option linter.unusedVariables false
set_option linter.unusedSimpArgs false
namespace Go.SX
open Go Go.RowKit
variable {en : En} {g : Gh} {S : Nat → Option D} {H : Nat → Option Root} {a : Act} {w : World} {P : Program}
def lk {α : Type} : List (Nat × Option α) → Nat → Option α
  | [], _ => none
  | (k, x) :: r, t => if t = k then x else lk r t
theorem lk_cons {α : Type} (k : Nat) (x : Option α) (r : List (Nat × Option α)) : lk ((k, x) :: r) = upd (lk r) k x := by funext t; simp [lk, upd]
def ins {α : Type} (n : Nat) (x : Option α) : List (Nat × Option α) → List (Nat × Option α)
  | [] => [(n, x)]
  | (k, y) :: r => if k = n then (n, x) :: r else (k, y) :: ins n x r
theorem lk_ins {α : Type} (n : Nat) (x : Option α) : ∀ l : List (Nat × Option α), lk (ins n x l) = upd (lk l) n x
  | [] => by funext t; simp [ins, lk, upd]
  | (k, y) :: r => by
    simp only [ins]
    split
    · rename_i e; subst e; funext t; simp only [lk, upd]; split <;> rfl
    · rename_i e
      rw [lk_cons, lk_ins n x r, lk_cons]
      funext t
      simp only [upd]
      by_cases h1 : t = k
      · subst h1; simp [e]
      · simp [h1]
def insW : List (Nat × Option Root) → List (Nat × Option Root) → List (Nat × Option Root)
  | [], h => h
  | (n, r) :: l, h => ins n r (insW l h)
theorem lk_insW : ∀ (l h : List (Nat × Option Root)), lk (insW l h) = apH l (lk h)
  | [], h => rfl
  | (n, r) :: l, h => by simp only [insW, apH]; rw [lk_ins, lk_insW l h]
structure St where
  s : List (Nat × Option D)
  h : List (Nat × Option Root)
  n : Nat
  deriving Inhabited
def putS (dst : Option Nat) (val : Option D) (s : List (Nat × Option D)) : List (Nat × Option D) := match dst with
  | some t => (t, val) :: s
  | none => s
theorem lk_putS (dst : Option Nat) (val : Option D) (s : List (Nat × Option D)) : lk (putS dst val s) = apS dst val (lk s) := by
  cases dst with
  | none => rfl
  | some t => exact lk_cons t val s
inductive Tag.{u} {α : Sort u} (K : α) : Type where
  | mk : Tag K
def mK.{u} {α : Type u} (o : Option α) (K : α → Prop) (t : Tag K) : Prop := match o with
  | some x => K x
  | none => False
theorem mK_ite.{u} {α : Type u} (c : Prop) [Decidable c] (x : Option α) (K : α → Prop) (t : Tag K) : mK (if c then x else none) K t = (c ∧ mK x K t) := by
  by_cases h : c
  · simp [h]
  · simp [h, mK]
theorem mK_ex.{u} {α : Type u} {o : Option α} {K : α → Prop} {t : Tag K} (h : mK o K t) : ∃ x, o = some x ∧ K x := by
  cases o with
  | none => exact h.elim
  | some x => exact ⟨x, rfl, h⟩
def gS (b want : Bool) (A B : Prop) (tA : Tag A) (tB : Tag B) : Prop := (b = want → A) ∧ (b = (!want) → B)
def plX (H : Nat → Option Root) : List Plc → (K : List (List B) → Prop) → Tag K → Prop
  | [], K, _ => K []
  | p :: ex, K, _ => match plCells H p with
    | some c => (∀ x ∈ c, MvB false x) ∧ plX H ex (fun hs => K (c :: hs)) .mk
    | _ => False
theorem dd_mem : ∀ {l : List Plc} {x : Nat}, x ∈ exN (dd l) → x ∈ exN l
  | [], x, h => h
  | y :: l, x, h => by
    simp only [dd] at h
    split at h
    · exact .tail _ (dd_mem h)
    · simp only [exN, List.map_cons, List.mem_cons] at h ⊢
      rcases h with h | h
      · exact .inl h
      · exact .inr (dd_mem h)
theorem dd_nodup : ∀ l : List Plc, (exN (dd l)).Nodup
  | [] => .nil
  | y :: l => by
    simp only [dd]
    split
    · exact dd_nodup l
    · rename_i h; exact List.nodup_cons.2 ⟨fun hm => h (dd_mem hm), dd_nodup l⟩
def ownJs (r : Root) (i : Nat) : Nat → Nat → List Nat
  | _, 0 => []
  | off, k + 1 => match r.get i off with
    | some (.t (.own _ _)) => off :: ownJs r i (off + 1) k
    | _ => ownJs r i (off + 1) k
def ldJs (P : Program) (S : Nat → Option D) (H : Nat → Option Root) (t : TypeId) (x : Operand) : Option (Nat × Nat × Root × List Nat) := match evC S x, tsz P t with
  | some (.ptr n _ i off), some k => match H n with
    | some r => match ownJs r i off k with
      | [] => none
      | js => some (n, i, r, js)
    | none => none
  | _, _ => none
def nilOp : BinOp → Bool → Option Bool
  | .eql, b => some b
  | .neq, b => some (!b)
  | _, _ => none
def nilF (c : C) (b : Bool) : Prop := match c with
  | .nil => b = true
  | .view _ _ _ len => b = true → len = 0
  | .im (.sl _ rows) => b = true → rows = []
  | _ => False
def nilC : C → Prop
  | .nil => True
  | .view _ _ _ _ => True
  | .im (.sl _ _) => True
  | _ => False
theorem run_equal_nil {t e : TypeId} (hu : P.underlying t = some (.slice e)) (A : Option Addr) (l c : Nat) (w : World) : (Op.equal t (.slice A l c) (.slice none 0 0)).run P w = .ok A.isNone w := by
  have h : ∀ d : Nat, (Op.equalIn (d + 1) t (.slice A l c) (.slice none 0 0)).run P w = .ok A.isNone w := fun d => by
    cases A <;> simp [Op.equalIn, run_underlying hu]
  unfold Op.equal Op.maxDepth
  exact h 9999
theorem nil_sound {S' : Nat → Option D} {H' : Nat → Option Root} {N : Nat} {Q : Exit → Act → World → Prop} {o : Oper} (h : Rel en g S' H' a w) (hN : a.tmps.size = N) (hS : ∀ t d, S t = some d → S' t = some d) (hH : ∀ n r, H n = some r → H' n = some r)
    {op : BinOp} {t ty : TypeId} {x : Operand} {c : C} (hop : o.op = .binOp op t x (.const (.slice none 0 0)) ty) (hx : evC S x = some c) (ht : isSlT P t = true) (hdst : ∀ t, o.dst = some t → t < N) (hq : (∃ b b', nilOp op b = some b') ∧ nilC c) :
    o.wp P a w (fun a' w' => ∃ b b', nilF c b ∧ nilOp op b = some b' ∧ Rel en g (apS o.dst (some (.c (.im (.bool b')))) S') H' a' w' ∧ a'.tmps.size = N) Q := by
  subst hN
  have hcv := evC_sound (h.less hS hH) hx
  obtain ⟨e, hu⟩ : ∃ e, P.underlying t = some (.slice e) := by
    unfold isSlT at ht
    split at ht
    · exact ⟨_, by assumption⟩
    · cases ht
  obtain ⟨A, l, k, hv, hb⟩ : ∃ A l k, a.eval x = .slice A l k ∧ nilF c A.isNone := by
    obtain ⟨_, hc⟩ := hq
    generalize a.eval x = v at hcv
    cases hcv with
    | nil => exact ⟨none, 0, 0, rfl, rfl⟩
    | view0 n sz lo A hu => exact ⟨A, 0, 0, rfl, fun _ => rfl⟩
    | view => exact ⟨_, _, _, rfl, fun h => by simp at h⟩
    | im i v hi =>
      cases i with
      | sl sz rows =>
        rcases hi.sl_inv with ⟨h9, A, c, rfl⟩ | ⟨B, off, c, vs, rfl, _⟩
        · exact ⟨A, 0, c, rfl, fun _ => h9⟩
        · exact ⟨_, _, _, rfl, fun h => by simp at h⟩
      | _ => exact hc.elim
    | _ => exact hc.elim
  obtain ⟨⟨b0, b1, hn⟩, _⟩ := hq
  have he2 : a.eval (.const (.slice none 0 0)) = .slice none 0 0 := rfl
  have key : ∃ b', nilOp op A.isNone = some b' ∧ (execOp a.eval o).run P w = .ok (.value (.bool b')) w := by
    cases op <;> simp only [nilOp] at hn <;> first
      | (cases hn; done)
      | (refine ⟨_, rfl, ?_⟩
         simp [execOp, hop, hv, he2, eqGuard, binOp, run_equal_nil hu])
  obtain ⟨b', k1, k2⟩ := key
  simp only [Oper.wp, k2, Oper.upon]
  exact ⟨_, b', hb, k1, h.putD hdst (.c _ _ (.im _ _ (.bool _))), put_size _ _ _⟩
def oK (o : Outs) (K : Res → Prop) (_ : Tag K) : Prop := match o with
  | .one r => K r
  | .any ι f => Nonempty ι ∧ ∀ i, K (f i)
theorem oK_ex {o : Outs} {K : Res → Prop} {t : Tag K} (h : oK o K t) : (∃ r, o.mem r) ∧ ∀ r, o.mem r → K r := by
  cases o with
  | one r => exact ⟨⟨r, rfl⟩, fun r' h' => by cases h'; exact h⟩
  | any ι f => obtain ⟨⟨i⟩, h⟩ := h; exact ⟨⟨f i, i, rfl⟩, fun r ⟨j, hj⟩ => hj ▸ h j⟩
def cK (o : Option Nat) (K : Nat → Prop) (_ : Tag K) : Prop := match o with
  | some r => K r
  | none => ∀ r, K r
def nK (c : C) (K : Bool → Prop) (_ : Tag K) : Prop := match c with
  | .nil => K true
  | .view _ _ _ len => K false ∧ (len = 0 → K true)
  | .im (.sl _ rows) => K false ∧ (rows = [] → K true)
  | _ => False
def opR (P : Program) (Φ : FuncId → Option Ct) (nm : Nat) (S : Nat → Option D) (H : Nat → Option Root) (o : Op) (K : Option D → List (Nat × Option Root) → Nat → Prop) (_ : Tag K) : Prop :=
  match o with
  | .load t x => match ldJs P S H t x with
    | some (n, i, r, js) => mK (hoistJ r i js nm) (fun p => mK (qv P S (apH ((n, some p.1) :: addR nm p.2) H) (.load t x)) (fun d => K (some d) ((n, some p.1) :: addR nm p.2) p.2.length) .mk) .mk
    | none => mK (qv P S H (.load t x)) (fun d => K (some d) [] 0) .mk
  | .store t x y => mK (storeH P t S H x y) (fun p => K none [(p.1, some p.2)] 0) .mk
  | .alloc t => mK (mkOp P S (.alloc t) nm) (fun p => K (some p.1) [(nm, some p.2)] 1) .mk
  | .box t x => mK (mkOp P S (.box t x) nm) (fun p => K (some p.1) [(nm, some p.2)] 1) .mk
  | .buildSlice t l ps => mK (mkOp P S (.buildSlice t l ps) nm) (fun p => K (some p.1) [(nm, some p.2)] 1) .mk
  | .makeSlice t l c => mK (mkOp P S (.makeSlice t l c) nm) (fun p => K (some p.1) [(nm, some p.2)] 1) .mk
  | .call { callee := .builtin .append, args := args, argTypes := ts } => match args.toList, ts.toList with
    | [s, x], [t, t'] => t = t' ∧ mK (appendH P t S H s x) (fun p => p.2.2.1.length * p.2.1 ≤ 140737488355328 ∧
        K (some (.c (.view nm p.1 0 p.2.2.1.length))) ((nm, some (.arr p.1 p.2.2.1)) :: dropN p.2.2.2) 1) .mk
    | _, _ => False
  | .call { callee := .builtin .clear, args := args, argTypes := ts } => match args.toList, ts.toList with
    | [x], [t] => mK (clearH P t S H x) (fun p => K (some (.tup [])) [(p.1, some p.2)] 0) .mk
    | _, _ => False
  | .call { callee := .value f, args := args, argTypes := _ } => match evC S f with
    | some (.fn (.func k) caps) => mK (Φ k) (fun ct => mK (evDs S args.toList) (fun ds0 => mK (some (frzL ct.sc H ds0 [])) (fun fz => mK (some (preW H (lentPs H (exDs (fz.1 ++ caps.map D.c))) fz.2)) (fun ws => plX (apH ws H) (exDs (fz.1 ++ caps.map D.c)) (fun hs =>
        mK (mapO (loD (exDs (fz.1 ++ caps.map D.c)) (if ct.sc then apH ws H else fun _ => none)) (fz.1 ++ caps.map D.c)) (fun ds' => mK (ct.run ds' hs) (fun os => oK os (fun res => mK (reD (fun n => nm + n) res.val) (fun d =>
          K (some d) (addR nm res.roots ++ (addP (apH ws H) (exDs (fz.1 ++ caps.map D.c)) res.places ++ ws)) res.roots.length) .mk) .mk) .mk) .mk) .mk) .mk) .mk) .mk) .mk
    | _ => False
  | .convert s d x => match P.underlying d, evI S x with
    | some (.float .f32), some (.flt .f64 b) => (P.underlying s).isSome = true ∧ cK (fconv .f64 b .f32) (fun n => K (some (.c (.im (.flt .f32 n)))) [] 0) .mk
    | _, _ => mK (qv P S H (.convert s d x)) (fun d => K (some d) [] 0) .mk
  | .binOp op t x (.const (.slice none 0 0)) ty => isSlT P t = true ∧ mK (evC S x) (fun c => nK c (fun b => mK (nilOp op b) (fun b => K (some (.c (.im (.bool b)))) [] 0) .mk) .mk) .mk
  | o => mK (qv P S H o) (fun d => K (some d) [] 0) .mk
structure Oc where
  val : Option D
  wr : List (Nat × Option Root)
  cnt : Nat
def opd.{u} {α : Type u} (o : Option α) (k : α → Option (Oc → Prop)) : Option (Oc → Prop) := match o with
  | some x => k x
  | none => none
def opS (P : Program) (Φ : FuncId → Option Ct) (nm : Nat) (S : Nat → Option D) (H : Nat → Option Root) (o : Op) : Option (Oc → Prop) :=
  match o with
  | .load t x => match ldJs P S H t x with
    | some (n, i, r, js) => opd (hoistJ r i js nm) (fun p => opd (qv P S (apH ((n, some p.1) :: addR nm p.2) H) (.load t x)) (fun d => some (fun e => e = ⟨some d, (n, some p.1) :: addR nm p.2, p.2.length⟩)))
    | none => opd (qv P S H (.load t x)) (fun d => some (fun e => e = ⟨some d, [], 0⟩))
  | .store t x y => opd (storeH P t S H x y) (fun p => some (fun e => e = ⟨none, [(p.1, some p.2)], 0⟩))
  | .alloc t => opd (mkOp P S (.alloc t) nm) (fun p => some (fun e => e = ⟨some p.1, [(nm, some p.2)], 1⟩))
  | .box t x => opd (mkOp P S (.box t x) nm) (fun p => some (fun e => e = ⟨some p.1, [(nm, some p.2)], 1⟩))
  | .buildSlice t l ps => opd (mkOp P S (.buildSlice t l ps) nm) (fun p => some (fun e => e = ⟨some p.1, [(nm, some p.2)], 1⟩))
  | .makeSlice t l c => opd (mkOp P S (.makeSlice t l c) nm) (fun p => some (fun e => e = ⟨some p.1, [(nm, some p.2)], 1⟩))
  | .call { callee := .builtin .append, args := args, argTypes := ts } => match args.toList, ts.toList with
    | [s, x], [t, t'] => opd (appendH P t S H s x) (fun p => some (fun e => e = ⟨some (.c (.view nm p.1 0 p.2.2.1.length)), (nm, some (.arr p.1 p.2.2.1)) :: dropN p.2.2.2, 1⟩))
    | _, _ => none
  | .call { callee := .builtin .clear, args := args, argTypes := ts } => match args.toList, ts.toList with
    | [x], [t] => opd (clearH P t S H x) (fun p => some (fun e => e = ⟨some (.tup []), [(p.1, some p.2)], 0⟩))
    | _, _ => none
  | .call { callee := .value f, args := args, argTypes := _ } => match evC S f with
    | some (.fn (.func k) caps) => opd (Φ k) (fun (ct : Ct) => opd (evDs S args.toList) (fun (ds0 : List D) => opd (some (frzL ct.sc H ds0 [])) (fun (fz : List D × List (Nat × Option Root)) => opd (some (preW H (lentPs H (exDs (fz.1 ++ caps.map D.c))) fz.2)) (fun (ws : List (Nat × Option Root)) => opd (mapO (plCells (apH ws H)) (exDs (fz.1 ++ caps.map D.c))) (fun (hs : List (List B)) =>
        opd (mapO (loD (exDs (fz.1 ++ caps.map D.c)) (if ct.sc then apH ws H else fun _ => none)) (fz.1 ++ caps.map D.c)) (fun (ds' : List D) => opd (ct.run ds' hs) (fun (os : Outs) => some (fun e => ∃ res, os.mem res ∧ ∃ d, reD (fun n => nm + n) res.val = some d ∧
          e = ⟨some d, addR nm res.roots ++ (addP (apH ws H) (exDs (fz.1 ++ caps.map D.c)) res.places ++ ws), res.roots.length⟩))))))))
    | _ => none
  | .convert s d x => match P.underlying d, evI S x with
    | some (.float .f32), some (.flt .f64 b) => some (fun e => ∃ n, (fconv .f64 b .f32 = some n ∨ fconv .f64 b .f32 = none) ∧ e = ⟨some (.c (.im (.flt .f32 n))), [], 0⟩)
    | _, _ => opd (qv P S H (.convert s d x)) (fun d => some (fun e => e = ⟨some d, [], 0⟩))
  | .binOp op t x (.const (.slice none 0 0)) ty => opd (evC S x) (fun c => some (fun e => ∃ b b', nilF c b ∧ nilOp op b = some b' ∧ e = ⟨some (.c (.im (.bool b'))), [], 0⟩))
  | o => opd (qv P S H o) (fun d => some (fun e => e = ⟨some d, [], 0⟩))
theorem plX_F : ∀ {ex : List Plc} {K : List (List B) → Prop} {t : Tag K}, plX H ex K t → ∃ hs, mapO (plCells H) ex = some hs ∧ (hs.length = ex.length ∧ ∀ (k : Nat) (p : Plc) (c : List B), ex[k]? = some p → hs[k]? = some c → plCells H p = some c ∧ ∀ x ∈ c, MvB false x) ∧ K hs
  | [], K, _, h => ⟨[], rfl, ⟨rfl, fun k n c hk => by simp at hk⟩, h⟩
  | n :: ex, K, _, h => by
    simp only [plX] at h
    split at h
    · rename_i c hc
      obtain ⟨h1, h2⟩ := h
      obtain ⟨hs, h0, ⟨h3, h4⟩, h5⟩ := plX_F h2
      refine ⟨c :: hs, by simp [mapO, hc, h0], ⟨by simp [h3], fun k m c' hk hc' => ?_⟩, h5⟩
      cases k with
      | zero => simp at hk hc'; subst hk; subst hc'; exact ⟨hc, h1⟩
      | succ k => simp at hk hc'; exact h4 k m c' hk hc'
    · exact h.elim
theorem opR_S {Φ : FuncId → Option Ct} {nm : Nat} {o : Op} {K : Option D → List (Nat × Option Root) → Nat → Prop} {tg : Tag K} (h : opR P Φ nm S H o K tg) :
    ∃ X, opS P Φ nm S H o = some X ∧ (∃ e, X e) ∧ ∀ e, X e → K e.val e.wr e.cnt := by
  have one : ∀ {o : Option (Oc → Prop)} (e : Oc), o = some (fun e' => e' = e) → K e.val e.wr e.cnt → ∃ X, o = some X ∧ (∃ e, X e) ∧ ∀ e, X e → K e.val e.wr e.cnt := fun e h1 h2 => ⟨_, h1, ⟨e, rfl⟩, fun e' he => by cases he; exact h2⟩
  unfold opR at h
  split at h
  · rename_i t x
    split at h
    · rename_i n i r js hl
      obtain ⟨⟨r', rs⟩, h1, h⟩ := mK_ex h
      obtain ⟨d, h2, h3⟩ := mK_ex h
      exact one ⟨_, _, _⟩ (by simp only [opS, hl, h1, opd, h2]) h3
    · rename_i hl
      obtain ⟨d, h1, h2⟩ := mK_ex h
      exact one ⟨_, _, _⟩ (by simp only [opS, hl, h1, opd]) h2
  · obtain ⟨p, h1, h2⟩ := mK_ex h; exact one ⟨_, _, _⟩ (by simp only [opS, h1, opd]) h2
  · obtain ⟨p, h1, h2⟩ := mK_ex h; exact one ⟨_, _, _⟩ (by simp only [opS, h1, opd]) h2
  · obtain ⟨p, h1, h2⟩ := mK_ex h; exact one ⟨_, _, _⟩ (by simp only [opS, h1, opd]) h2
  · obtain ⟨p, h1, h2⟩ := mK_ex h; exact one ⟨_, _, _⟩ (by simp only [opS, h1, opd]) h2
  · obtain ⟨p, h1, h2⟩ := mK_ex h; exact one ⟨_, _, _⟩ (by simp only [opS, h1, opd]) h2
  · rename_i args ts
    split at h
    · rename_i s x t t' ha ht
      obtain ⟨rfl, h⟩ := h
      obtain ⟨⟨sz, bytes, rows, on⟩, h1, h2, h3⟩ := mK_ex h
      exact one ⟨_, _, _⟩ (by simp only [opS, ha, ht, h1, opd]) h3
    · exact h.elim
  · rename_i args ts
    split at h
    · rename_i x t ha ht
      obtain ⟨p, h1, h2⟩ := mK_ex h
      exact one ⟨_, _, _⟩ (by simp only [opS, ha, ht, h1, opd]) h2
    · exact h.elim
  · rename_i f args ts
    split at h
    · rename_i k caps hf
      obtain ⟨ct, h1, h⟩ := mK_ex h
      obtain ⟨ds, h2, h⟩ := mK_ex h
      obtain ⟨ws, h9, h⟩ := mK_ex h
      simp only [Option.some.injEq] at h9
      subst h9
      obtain ⟨hs, h3, _, h⟩ := plX_F h
      obtain ⟨ds', h4, h⟩ := mK_ex h
      obtain ⟨os, h5, h⟩ := mK_ex h
      obtain ⟨⟨r0, hr0⟩, h6⟩ := oK_ex h
      refine ⟨_, by simp only [opS, hf, h1, opd, h2, h3, h4, h5]; rfl, ?_, ?_⟩
      · obtain ⟨d, h7, h8⟩ := mK_ex (h6 r0 hr0)
        exact ⟨_, r0, hr0, d, h7, rfl⟩
      · rintro e ⟨res, hm, d, hd, rfl⟩
        obtain ⟨d', h7, h8⟩ := mK_ex (h6 res hm)
        rw [hd] at h7; injection h7 with h7; subst h7
        exact h8
    · exact h.elim
  · rename_i s d x
    split at h
    · rename_i b hd hx
      obtain ⟨_, h⟩ := h
      refine ⟨_, by simp only [opS, hd, hx]; rfl, ?_, ?_⟩
      · cases hc : fconv .f64 b .f32 with
        | some n => exact ⟨_, n, .inl rfl, rfl⟩
        | none => exact ⟨_, 0, .inr rfl, rfl⟩
      · rintro e ⟨n, hn, rfl⟩
        rcases hn with hn | hn
        · simp only [cK, hn] at h; exact h
        · simp only [cK, hn] at h; exact h n
    · rename_i hne
      obtain ⟨d, h1, h2⟩ := mK_ex h
      exact one ⟨_, _, _⟩ (by simp only [opS, h1, opd]) h2
  · rename_i op t x ty
    obtain ⟨_, h⟩ := h
    obtain ⟨c, h1, h⟩ := mK_ex h
    refine ⟨_, by simp only [opS, h1, opd]; rfl, ?_, ?_⟩
    · cases c with
      | nil => obtain ⟨b', h2, h3⟩ := mK_ex (t := .mk) h; exact ⟨_, true, b', rfl, h2, rfl⟩
      | view n sz lo len => obtain ⟨b', h2, h3⟩ := mK_ex (t := .mk) h.1; exact ⟨_, false, b', (fun h => by cases h), h2, rfl⟩
      | im i =>
        cases i with
        | sl sz rows => obtain ⟨b', h2, h3⟩ := mK_ex (t := .mk) h.1; exact ⟨_, false, b', (fun h => by cases h), h2, rfl⟩
        | _ => exact h.elim
      | _ => exact h.elim
    · rintro e ⟨b, b', hb, hn, rfl⟩
      have fin : mK (nilOp op b) (fun b => K (some (.c (.im (.bool b)))) [] 0) .mk → K (some (.c (.im (.bool b')))) [] 0 := fun h => by
        obtain ⟨b2, h2, h3⟩ := mK_ex h
        rw [hn] at h2; injection h2 with h2; subst h2; exact h3
      cases c with
      | nil => have hb : b = true := hb; subst hb; exact fin h
      | view n sz lo len =>
        cases b with
        | false => exact fin h.1
        | true => exact fin (h.2 (hb rfl))
      | im i =>
        cases i with
        | sl sz rows =>
          cases b with
          | false => exact fin h.1
          | true => exact fin (h.2 (hb rfl))
        | _ => exact h.elim
      | _ => exact h.elim
  · rename_i o h1 h2 h3 h4 h5 h6 h7 h8 h9 h10 h11
    obtain ⟨d, k1, k2⟩ := mK_ex h
    refine one ⟨_, _, _⟩ ?_ k2
    unfold opS
    split <;> first
      | (exfalso; first | exact h1 _ _ rfl | exact h2 _ _ _ rfl | exact h3 _ rfl | exact h4 _ _ rfl | exact h5 _ _ _ rfl | exact h6 _ _ _ rfl | exact h7 _ _ rfl | exact h8 _ _ _ rfl | exact h8 _ _ rfl | exact h9 _ _ _ rfl | exact h10 _ _ _ rfl | exact h10 _ _ _ _ rfl | exact h11 _ _ _ _ rfl)
      | simp only [k1, opd]
theorem opR_sound {Φ : FuncId → Option Ct} (hΦ : Env P Φ) {S' : Nat → Option D} {H' : Nat → Option Root} {N nm : Nat} {Q : Exit → Act → World → Prop} {o : Oper} {K : Option D → List (Nat × Option Root) → Nat → Prop} {tg : Tag K}
    (h : Rel en g S' H' a w) (hN : a.tmps.size = N) (hS : ∀ t d, S t = some d → S' t = some d) (hH : ∀ n r, H n = some r → H' n = some r)
    (ho : opR P Φ nm S H o.op K tg) (hnm : ∀ val wr cnt, K val wr cnt → ∀ m, g.used m → ¬ (nm ≤ m ∧ m < nm + cnt)) (hdst : ∀ t, o.dst = some t → t < N) :
    o.wp P a w (fun a' w' => ∃ e : Oc, (∀ X, opS P Φ nm S H o.op = some X → X e) ∧ K e.val e.wr e.cnt ∧ ∃ g', (∀ m, g'.used m → g.used m ∨ (nm ≤ m ∧ m < nm + e.cnt)) ∧ Rel en g' (apS o.dst e.val S') (apH e.wr H') a' w' ∧ a'.tmps.size = N) Q := by
  obtain ⟨X0, hX0, _, hX⟩ := opR_S ho
  have det : ∀ (e : Oc), X0 = (fun e' => e' = e) → OpSem P S H nm o.op e.val e.wr e.cnt →
      o.wp P a w (fun a' w' => ∃ e : Oc, (∀ X, opS P Φ nm S H o.op = some X → X e) ∧ K e.val e.wr e.cnt ∧ ∃ g', (∀ m, g'.used m → g.used m ∨ (nm ≤ m ∧ m < nm + e.cnt)) ∧ Rel en g' (apS o.dst e.val S') (apH e.wr H') a' w' ∧ a'.tmps.size = N) Q := by
    intro e he hsem
    have hke : K e.val e.wr e.cnt := hX e (by rw [he])
    refine Oper.wp_mono (fun a' w' hq => ⟨e, fun X hx => ?_, hke, hq⟩) (OpSem.sound h hN hS hH hsem (hnm _ _ _ hke) hdst)
    rw [hX0] at hx; injection hx with hx; subst hx; rw [he]
  have fin : ∀ {o1 : Option (Oc → Prop)} (e : Oc), opS P Φ nm S H o.op = o1 → o1 = some (fun e' => e' = e) → X0 = (fun e' => e' = e) := fun e h1 h2 => by
    rw [hX0, h2] at h1; injection h1
  generalize hop : o.op = op at *
  unfold opR at ho
  split at ho
  · rename_i t x
    split at ho
    · rename_i n i r js hl
      obtain ⟨⟨r', rs⟩, h1, ho⟩ := mK_ex ho
      obtain ⟨d, h2, h3⟩ := mK_ex ho
      refine det ⟨some d, (n, some r') :: addR nm rs, rs.length⟩ (fin _ rfl (by simp only [opS, hl, h1, opd, h2])) ?_
      unfold ldJs at hl
      split at hl
      · rename_i n' sz' i' off' k' hx hk
        split at hl
        · rename_i r0 hr
          split at hl
          · cases hl
          · simp only [Option.some.injEq, Prod.mk.injEq] at hl
            obtain ⟨rfl, rfl, rfl, rfl⟩ := hl
            exact .ldh hx hr h1 h2
        · cases hl
      · cases hl
    · rename_i hl
      obtain ⟨d, h1, h2⟩ := mK_ex ho
      exact det ⟨_, _, _⟩ (fin _ rfl (by simp only [opS, hl, h1, opd])) (.q h1)
  · obtain ⟨p, h1, h2⟩ := mK_ex ho; exact det ⟨_, _, _⟩ (fin _ rfl (by simp only [opS, h1, opd])) (.st h1)
  · obtain ⟨p, h1, h2⟩ := mK_ex ho; exact det ⟨_, _, _⟩ (fin _ rfl (by simp only [opS, h1, opd])) (.mk h1)
  · obtain ⟨p, h1, h2⟩ := mK_ex ho; exact det ⟨_, _, _⟩ (fin _ rfl (by simp only [opS, h1, opd])) (.mk h1)
  · obtain ⟨p, h1, h2⟩ := mK_ex ho; exact det ⟨_, _, _⟩ (fin _ rfl (by simp only [opS, h1, opd])) (.mk h1)
  · obtain ⟨p, h1, h2⟩ := mK_ex ho; exact det ⟨_, _, _⟩ (fin _ rfl (by simp only [opS, h1, opd])) (.mk h1)
  · rename_i args ts
    split at ho
    · rename_i s x t t' ha ht
      obtain ⟨rfl, ho⟩ := ho
      obtain ⟨⟨sz, bytes, rows, on⟩, h1, h2, h3⟩ := mK_ex ho
      have ha' : args = #[s, x] := by rw [← Array.toList_inj]; simpa using ha
      have ht' : ts = #[t, t] := by rw [← Array.toList_inj]; simpa using ht
      subst ha'; subst ht'
      exact det ⟨_, _, _⟩ (fin _ rfl (by simp only [opS, h1, opd])) (.app h1 h2)
    · exact ho.elim
  · rename_i args ts
    split at ho
    · rename_i x t ha ht
      obtain ⟨p, h1, h2⟩ := mK_ex ho
      have ha' : args = #[x] := by rw [← Array.toList_inj]; simpa using ha
      have ht' : ts = #[t] := by rw [← Array.toList_inj]; simpa using ht
      subst ha'; subst ht'
      exact det ⟨_, _, _⟩ (fin _ rfl (by simp only [opS, h1, opd])) (.clr h1)
    · exact ho.elim
  · rename_i f args ts
    split at ho
    · rename_i k caps hf
      obtain ⟨ct, h1, ho⟩ := mK_ex ho
      obtain ⟨ds0, h2, ho⟩ := mK_ex ho
      obtain ⟨⟨ds, fw⟩, h29, ho⟩ := mK_ex ho
      obtain ⟨ws, h9, ho⟩ := mK_ex ho
      simp only [Option.some.injEq] at h9 h29
      subst h9
      obtain ⟨hs, h3, h3', ho⟩ := plX_F ho
      obtain ⟨ds', h4, ho⟩ := mK_ex ho
      obtain ⟨os, h5, ho⟩ := mK_ex ho
      obtain ⟨_, h6⟩ := oK_ex ho
      refine Oper.wp_mono (fun a' w' hq => ?_) (call_sound hΦ (nm := nm) h hN hS hH hop hf h1 h2 h29 rfl ⟨dd_nodup _, h3'.1, h3'.2⟩ h4 h5 hdst)
      obtain ⟨res, hm, hq⟩ := hq
      obtain ⟨d, h7, h8⟩ := mK_ex (h6 res hm)
      obtain ⟨g', q1, q2, q3⟩ := hq d h7 (hnm _ _ _ h8)
      refine ⟨⟨_, _, _⟩, fun X hx => ?_, h8, g', q1, q2, q3⟩
      simp only [opS, hf, h1, opd, h2, h29, h3, h4, h5] at hx
      injection hx with hx; subst hx
      exact ⟨res, hm, d, h7, rfl⟩
    · exact ho.elim
  · rename_i s d x
    split at ho
    · rename_i b hd hx
      obtain ⟨hs, ho⟩ := ho
      cases hc : fconv .f64 b .f32 with
      | some n =>
        simp only [cK, hc] at ho
        have hsem : OpSem P S H nm o.op (some (.c (.im (.flt .f32 n)))) [] 0 := by
          obtain ⟨ss, hss⟩ := Option.isSome_iff_exists.1 hs
          rw [hop]
          exact .q (by simp only [qv, hss, hd, hx, convI, hc])
        refine Oper.wp_mono (fun a' w' hq => ⟨⟨_, _, _⟩, fun X hx' => ?_, ho, hq⟩) (OpSem.sound h hN hS hH hsem (hnm _ _ _ ho) hdst)
        simp only [opS, hd, hx] at hx'
        injection hx' with hx'; subst hx'
        exact ⟨n, .inl hc, rfl⟩
      | none =>
        simp only [cK, hc] at ho
        obtain ⟨ss, hss⟩ := Option.isSome_iff_exists.1 hs
        refine Oper.wp_mono (fun a' w' hq => ?_) (conv_sound h hN hS hH hop hx hss hd hc hdst)
        obtain ⟨n, q1, q2⟩ := hq
        refine ⟨⟨some (.c (.im (.flt .f32 n))), [], 0⟩, fun X hx' => ?_, ho n, g, fun m hm => .inl hm, q1, q2⟩
        simp only [opS, hd, hx] at hx'
        injection hx' with hx'; subst hx'
        exact ⟨n, .inr hc, rfl⟩
    · rename_i hne
      obtain ⟨d, h1, h2⟩ := mK_ex ho
      exact det ⟨_, _, _⟩ (fin ⟨_, _, _⟩ rfl (by simp only [opS, h1, opd])) (.q h1)
  · rename_i op t x ty
    obtain ⟨ht, ho⟩ := ho
    obtain ⟨c, h1, ho⟩ := mK_ex ho
    refine Oper.wp_mono (fun a' w' hq => ?_) (nil_sound h hN hS hH hop h1 ht hdst ?_)
    · obtain ⟨b, b', hb, hn, q1, q2⟩ := hq
      refine ⟨⟨some (.c (.im (.bool b'))), [], 0⟩, fun X hx' => ?_, ?_, g, fun m hm => .inl hm, q1, q2⟩
      · simp only [opS, h1, opd] at hx'
        injection hx' with hx'; subst hx'
        exact ⟨b, b', hb, hn, rfl⟩
      · refine hX ⟨_, _, _⟩ ?_
        simp only [opS, h1, opd] at hX0
        injection hX0 with hX0
        subst hX0
        exact ⟨b, b', hb, hn, rfl⟩
    · cases c with
      | nil => obtain ⟨b', h2, _⟩ := mK_ex (t := .mk) ho; exact ⟨⟨_, _, h2⟩, trivial⟩
      | view n sz lo len => obtain ⟨b', h2, _⟩ := mK_ex (t := .mk) ho.1; exact ⟨⟨_, _, h2⟩, trivial⟩
      | im i =>
        cases i with
        | sl sz rows => obtain ⟨b', h2, _⟩ := mK_ex (t := .mk) ho.1; exact ⟨⟨_, _, h2⟩, trivial⟩
        | _ => exact ho.elim
      | _ => exact ho.elim
  · rename_i o' h1 h2 h3 h4 h5 h6 h7 h8 h9 h10 h11
    obtain ⟨d, k1, k2⟩ := mK_ex ho
    refine det ⟨_, _, _⟩ (fin _ rfl ?_) (.q k1)
    unfold opS
    split <;> first
      | (exfalso; first | exact h1 _ _ rfl | exact h2 _ _ _ rfl | exact h3 _ rfl | exact h4 _ _ rfl | exact h5 _ _ _ rfl | exact h6 _ _ _ rfl | exact h7 _ _ rfl | exact h8 _ _ _ rfl | exact h8 _ _ rfl | exact h9 _ _ _ rfl | exact h10 _ _ _ rfl | exact h10 _ _ _ _ rfl | exact h11 _ _ _ _ rfl)
      | simp only [k1, opd]
def St.eff (st : St) (dst : Option Nat) (val : Option D) (wr : List (Nat × Option Root)) (cnt : Nat) : St := ⟨putS dst val st.s, insW wr st.h, st.n + cnt⟩
def dOk (N : Nat) : Option Nat → Prop
  | some t => t < N
  | none => True
def gSlot (ops : List Oper) (j : Nat) : Option Nat := match ops[j]? with
  | some o => o.dst
  | none => none
def regX (P : Program) (Φ : FuncId → Option Ct) (N : Nat) (ops : List Oper) : List Oper → St → (K : St → Prop) → Tag K → Prop
  | [], st, K, _ => K st
  | o :: r, st, K, t0 => dOk N o.dst ∧ match o.guard with
    | none => opR P Φ st.n (lk st.s) (lk st.h) o.op (fun val wr cnt => regX P Φ N ops r (st.eff o.dst val wr cnt) K t0) .mk
    | some (j, want) => match gSlot ops j with
      | some t => match lk st.s t with
        | some (.c (.im (.bool b))) => gS b want (opR P Φ st.n (lk st.s) (lk st.h) o.op (fun val wr cnt => regX P Φ N ops r (st.eff o.dst val wr cnt) K t0) .mk)
            (regX P Φ N ops r (st.eff o.dst (some (.tup [])) [] 0) K t0) .mk .mk
        | some (.tup _) => regX P Φ N ops r (st.eff o.dst (some (.tup [])) [] 0) K t0
        | _ => False
      | none => False
def RelS (en : En) (N : Nat) (st : St) (a : Act) (w : World) : Prop := ∃ g, (∀ m, g.used m → m < st.n) ∧ Rel en g (lk st.s) (lk st.h) a w ∧ a.tmps.size = N
theorem RelS.eff {N : Nat} {st : St} {dst : Option Nat} {val : Option D} {wr : List (Nat × Option Root)} {cnt : Nat} (hu : ∀ m, g.used m → m < st.n + cnt) (h : Rel en g (apS dst val (lk st.s)) (apH wr (lk st.h)) a w) {N : Nat} (hN : a.tmps.size = N) :
    RelS en N (st.eff dst val wr cnt) a w := by
  refine ⟨g, hu, ?_, hN⟩
  simp only [St.eff]
  rw [lk_putS, lk_insW]; exact h
theorem yielded_slot {ops : List Oper} {j t : Nat} {b : Bool} (h : Rel en g S H a w) (hg : gSlot ops j = some t) (hs : S t = some (.c (.im (.bool b)))) : yielded ops.toArray a.tmps j = some b := by
  unfold gSlot at hg
  split at hg
  · rename_i o ho
    obtain ⟨v, hv, hd⟩ := h.slots t _ hs
    have hvb : v = .bool b := by
      cases hd with | c _ _ hc => cases hc with | im _ _ hi => exact hi.bool_inv
    subst hvb
    simp [yielded, ho, hg, hv]
  · cases hg
theorem DV.undef : DV g (.tup []) Go.undef := .tup [] #[] rfl (fun j x v h => by simp at h)
theorem yielded_tup {ops : List Oper} {j t : Nat} {ds : List D} (h : Rel en g S H a w) (hg : gSlot ops j = some t) (hs : S t = some (.tup ds)) : yielded ops.toArray a.tmps j = none := by
  unfold gSlot at hg
  split at hg
  · rename_i o ho
    obtain ⟨v, hv, hd⟩ := h.slots t _ hs
    obtain ⟨vs, rfl⟩ : ∃ vs, v = .tuple vs := by cases hd with | tup _ vs _ _ => exact ⟨vs, rfl⟩
    simp [yielded, ho, hg, hv]
  · cases hg
theorem regX_sound {Φ : FuncId → Option Ct} (hΦ : Env P Φ) {N : Nat} {ops : List Oper} {Q : Exit → Act → World → Prop} {K : St → Prop} (hK : ∀ st a w, RelS en N st a w → K st → Q .normal a w) :
    ∀ (l : List Oper) (st : St) (tg : Tag K) (a : Act) (w : World), RelS en N st a w → regX P Φ N ops l st K tg → wpList P ops.toArray Q l a w
  | [], st, _, a, w, h, hx => hK st a w h hx
  | o :: r, st, tg, a, w, ⟨g, hu, h, hN⟩, hx => by
    obtain ⟨hd, hx⟩ := hx
    have hdst : ∀ t, o.dst = some t → t < N := fun t ht => by rw [ht] at hd; exact hd
    have run : opR P Φ st.n (lk st.s) (lk st.h) o.op (fun val wr cnt => regX P Φ N ops r (st.eff o.dst val wr cnt) K tg) .mk → o.wp P a w (wpList P ops.toArray Q r) Q := by
      intro hr
      refine Oper.wp_mono (fun a' w' ⟨e, _, hk, g', k1, k2, k3⟩ => ?_) (opR_sound hΦ h hN (fun _ _ h => h) (fun _ _ h => h) hr (fun val wr cnt _ m hm hc => by have := hu m hm; omega) hdst)
      exact regX_sound hΦ hK r _ tg a' w' (RelS.eff (N := N) (fun m hm => (k1 m hm).elim (fun h => by have := hu m h; omega) (fun h => h.2)) k2 k3) hk
    unfold wpList
    cases hg : o.guard with
    | none =>
      simp only [hg] at hx
      rw [if_pos (by simp [Region.wanted, hg])]
      exact .inl (run hx)
    | some jw =>
      obtain ⟨j, want⟩ := jw
      simp only [hg] at hx
      split at hx
      · rename_i t ht
        split at hx
        · rename_i b hb
          have hy := yielded_slot h ht hb
          by_cases e : b = want
          · rw [if_pos (by simp [Region.wanted, hg, hy, e])]
            exact .inl (run (hx.1 e))
          · rw [if_neg (by simp [Region.wanted, hg, hy, e])]
            have e' : b = (!want) := by cases b <;> cases want <;> simp_all
            exact regX_sound hΦ hK r _ tg _ w (RelS.eff (N := N) (cnt := 0) (fun m hm => hu m hm) (h.putD (fun t ht => by rw [hN]; exact hdst t ht) DV.undef) ((put_size _ _ _).trans hN)) (hx.2 e')
        · rename_i ds hb
          have hy := yielded_tup h ht hb
          rw [if_neg (by simp [Region.wanted, hg, hy])]
          exact regX_sound hΦ hK r _ tg _ w (RelS.eff (N := N) (cnt := 0) (fun m hm => hu m hm) (h.putD (fun t ht => by rw [hN]; exact hdst t ht) DV.undef) ((put_size _ _ _).trans hN)) hx
        · exact hx.elim
      · exact hx.elim
end Go.SX
set_option linter.unusedVariables false
set_option linter.unusedSimpArgs false
namespace Go.SX
open Go Go.RowKit
variable {en : En} {g : Gh} {S : Nat → Option D} {H : Nat → Option Root} {a : Act} {w : World} {P : Program}
def Fg {κ V : Type} (W : Nat → κ → Option V) (X : Nat → Bool) (init : κ → V) : Nat → κ → V
  | 0, k => init k
  | n + 1, k => if X n = true then (match W n k with
      | some v => v
      | none => Fg W X init n k) else Fg W X init n k
theorem Fg_same {κ V : Type} {W : Nat → κ → Option V} {X Y : Nat → Bool} {init : κ → V} {k : κ} {i : Nat} : ∀ (n : Nat), i ≤ n → (∀ j, j < n → i ≤ j → X j = true → W j k = none) → (∀ j, j < i → X j ≠ Y j → W j k = none) →
    Fg W X init n k = Fg W Y init i k
  | 0, hi, h1, h2 => by
    have : i = 0 := by omega
    subst this; rfl
  | n + 1, hi, h1, h2 => by
    by_cases e : i = n + 1
    · subst e
      simp only [Fg]
      have ih := Fg_same (W := W) (X := X) (Y := Y) (init := init) (k := k) (i := n) n (Nat.le_refl _) (fun j hj hj' => by omega) (fun j hj => h2 j (by omega))
      rw [ih]
      by_cases hxy : X n = Y n
      · rw [hxy]
      · have := h2 n (by omega) hxy
        rw [this]
        simp
    · have ih := Fg_same (W := W) (X := X) (Y := Y) (init := init) (k := k) (i := i) n (by omega) (fun j hj => h1 j (by omega)) h2
      simp only [Fg]
      split
      · rename_i hx
        rw [h1 n (by omega) (by omega) hx]; exact ih
      · exact ih
theorem Fg_add {κ V : Type} {W : Nat → κ → Option V} {X X' : Nat → Bool} {init : κ → V} {k : κ} {i : Nat} (hX' : ∀ j, X' j = if j = i then true else X j) (hi : X i = false) : ∀ (n : Nat), (∀ j, j < n → i < j → X j = true → W i k = none ∨ W j k = none) →
    Fg W X' init n k = if i < n then (match W i k with
      | some v => v
      | none => Fg W X init n k) else Fg W X init n k
  | 0, h => by simp [Fg]
  | n + 1, h => by
    have ih := Fg_add (W := W) (init := init) (k := k) hX' hi n (fun j hj => h j (by omega))
    simp only [Fg]
    by_cases e : n = i
    · subst e
      have h1 : X' n = true := by rw [hX']; simp
      rw [if_neg (Nat.lt_irrefl _)] at ih
      rw [h1, hi, ih, if_pos (Nat.lt_succ_self _)]
      simp
    · have h1 : X' n = X n := by rw [hX', if_neg e]
      rw [h1]
      by_cases hx : X n = true
      · rw [if_pos hx, if_pos hx, ih]
        by_cases hin : i < n
        · rw [if_pos hin, if_pos (by omega)]
          rcases h n (by omega) hin hx with h2 | h2
          · rw [h2]
          · rw [h2]
        · rw [if_neg hin, if_neg (by omega)]
      · rw [if_neg hx, if_neg hx, ih]
        by_cases hin : i < n
        · rw [if_pos hin, if_pos (by omega)]
        · rw [if_neg hin, if_neg (by omega)]
def memb (t : Nat) : List Nat → Bool
  | [] => false
  | x :: xs => if t = x then true else memb t xs
theorem memb_iff {t : Nat} : ∀ {l : List Nat}, memb t l = true ↔ t ∈ l
  | [] => by simp [memb]
  | x :: xs => by
    simp only [memb]
    split
    · rename_i e; simp [e]
    · rename_i e; rw [memb_iff]; simp [e]
def oT : Operand → List Nat
  | .tmp t => [t]
  | _ => []
def opTm : Op → List Nat
  | .build _ ps => ps.toList.flatMap (fun p => oT p.2)
  | .buildSlice _ _ ps => ps.toList.flatMap (fun p => oT p.2)
  | .call { callee := .value f, args := args, argTypes := _ } => oT f ++ args.toList.flatMap oT
  | .call { callee := .builtin _, args := args, argTypes := _ } => args.toList.flatMap oT
  | .move x | .assign x | .box _ x | .load _ x | .nilCheck x | .unOp _ _ x | .convert _ _ x | .fieldAddr _ x _ | .field _ x _ | .extract x _ => oT x
  | .pick c x y => oT c ++ (oT x ++ oT y)
  | .store _ x y | .binOp _ _ x y _ | .makeSlice _ x y | .indexAddr _ x y | .index _ x y => oT x ++ oT y
  | .slice _ x lo hi _ => oT x ++ ((match lo with | some y => oT y | none => []) ++ (match hi with | some y => oT y | none => []))
  | .makeFunc _ _ caps => caps.toList.flatMap oT
  | _ => []
def lookT (ops : List Oper) (o : Oper) : List Nat := opTm o.op ++ (match o.guard with
  | some (j, _) => (match gSlot ops j with | some t => [t] | none => [])
  | none => [])
def vwC1 : C → List Nat
  | .view n _ _ _ => [n]
  | .ptr n _ _ _ => [n]
  | _ => []
def vwC : C → List Nat
  | .view n _ _ _ => [n]
  | .ptr n _ _ _ => [n]
  | .fn _ caps => caps.flatMap vwC1
  | _ => []
def vwO (S : Nat → Option D) (x : Operand) : List Nat := match ev S x with
  | some (.c c) => vwC c
  | some (.agg cs) => cs.flatMap vwC
  | _ => []
def rdN (S : Nat → Option D) : Op → List Nat
  | .load _ x => vwO S x
  | .store _ x _ => vwO S x
  | .call { callee := .value f, args := args, argTypes := _ } => vwO S f ++ args.toList.flatMap (vwO S)
  | .call { callee := .builtin _, args := args, argTypes := _ } => args.toList.flatMap (vwO S)
  | _ => []
def isCallO : Op → Bool
  | .call { callee := .value _, args := _, argTypes := _ } => true
  | _ => false
def lentT : T → List Nat
  | .lent n _ _ => [n]
  | _ => []
def lentR : Root → List Nat
  | .arr _ rows => rows.flatMap fun r => r.flatMap lentT
  | .box _ => []
def nestH (H : Nat → Option Root) (L : List Nat) : List Nat := L.flatMap fun n => match H n with
  | some r => lentR r
  | none => []
def rdX (S : Nat → Option D) (H : Nat → Option Root) (o : Op) : List Nat := rdN S o ++ (if isCallO o = true then nestH H (rdN S o) else [])
def resF {α : Type} (L : List Nat) (S : Nat → Option α) : Nat → Option α := fun t => if memb t L = true then S t else none
def resH (n0 : Nat) (old : Bool) (L : List Nat) (H : Nat → Option Root) : Nat → Option Root := fun n => if (old = true ∧ n < n0) ∨ memb n L = true then H n else none
structure DI where
  i : Nat
  old : Bool
  rd : List Nat
  wr : List Nat
  deriving Inhabited
def disj (n0 : Nat) (x y : DI) : Bool :=
  x.wr.all (fun n => !(memb n y.wr) && (!(memb n y.rd) && !(y.old && decide (n < n0)))) && y.wr.all (fun n => !(memb n x.rd) && !(x.old && decide (n < n0)))
def bfB (bf : Array Nat) (i j : Nat) : Bool := (bf.getD j 0).testBit i
def rootsOk (ops : List Oper) (n0 : Nat) (acc : List DI) : Bool :=
  let bf := Region.before ops.toArray
  acc.all fun y => acc.all fun x => decide (y.i ≤ x.i) || (bfB bf x.i y.i || disj n0 x y)
def apartT (ops : List Oper) (x y : Oper) : Bool :=
  (match x.dst with
    | some d => !(memb d (lookT ops y)) && (match y.dst with | some d' => decide (d ≠ d') | none => true)
    | none => true) &&
  (match y.dst with
    | some d => !(memb d (lookT ops x))
    | none => true)
def slotsOk (ops : List Oper) : Bool :=
  let bf := Region.before ops.toArray
  ops.zipIdx.all fun (oj, j) =>
    (oj.after.toList.all fun e => !(Region.binds .any e) || decide (e.on < j)) &&
    ops.zipIdx.all fun (oi, i) => decide (j ≤ i) ||
      (if bfB bf i j then oj.after.toList.any fun e => Region.binds .any e && (decide (e.on = i) || (decide (i < e.on) && bfB bf i e.on)) else apartT ops oi oj)
def drX (P : Program) (Φ : FuncId → Option Ct) (N n0 : Nat) (ops : List Oper) : List Oper → Nat → St → List DI → (K : St → List DI → Prop) → Tag K → Prop
  | [], _, st, acc, K, _ => K st acc
  | o :: r, i, st, acc, K, t0 => dOk N o.dst ∧ match o.guard with
    | none => opR P Φ (n0 + 8 * i) (resF (lookT ops o) (lk st.s)) (resH n0 (isCallO o.op) (rdX (lk st.s) (lk st.h) o.op) (lk st.h)) o.op (fun val wr cnt => cnt ≤ 8 ∧ drX P Φ N n0 ops r (i + 1) (st.eff o.dst val wr 0) (⟨i, isCallO o.op, rdX (lk st.s) (lk st.h) o.op, wr.map (·.1)⟩ :: acc) K t0) .mk
    | some (j, want) => match gSlot ops j with
      | some t => match lk st.s t with
        | some (.c (.im (.bool b))) => gS b want (opR P Φ (n0 + 8 * i) (resF (lookT ops o) (lk st.s)) (resH n0 (isCallO o.op) (rdX (lk st.s) (lk st.h) o.op) (lk st.h)) o.op (fun val wr cnt => cnt ≤ 8 ∧ drX P Φ N n0 ops r (i + 1) (st.eff o.dst val wr 0) (⟨i, isCallO o.op, rdX (lk st.s) (lk st.h) o.op, wr.map (·.1)⟩ :: acc) K t0) .mk)
            (drX P Φ N n0 ops r (i + 1) (st.eff o.dst (some (.tup [])) [] 0) (⟨i, false, [], []⟩ :: acc) K t0) .mk .mk
        | some (.tup _) => drX P Φ N n0 ops r (i + 1) (st.eff o.dst (some (.tup [])) [] 0) (⟨i, false, [], []⟩ :: acc) K t0
        | _ => False
      | none => False
structure EI where
  val : Option D
  wr : List (Nat × Option Root)
  old : Bool
  rd : List Nat
  deriving Inhabited
def gOk (ops : List Oper) (s : List (Nat × Option D)) (o : Oper) (b : Bool) : Prop := match o.guard with
  | none => b = true
  | some (j, want) => ∃ t, gSlot ops j = some t ∧ ((∃ b', lk s t = some (.c (.im (.bool b'))) ∧ b = (b' == want)) ∨ (∃ ds, lk s t = some (.tup ds) ∧ b = false))
structure Ok1 (P : Program) (Φ : FuncId → Option Ct) (N n0 : Nat) (ops : List Oper) (o : Oper) (i : Nat) (st : St) (e : EI) : Prop where
  dst : dOk N o.dst
  run : (gOk ops st.s o true ∧ e.old = isCallO o.op ∧ e.rd = rdX (lk st.s) (lk st.h) o.op ∧
      (∃ (K : Option D → List (Nat × Option Root) → Nat → Prop) (tg : Tag K), opR P Φ (n0 + 8 * i) (resF (lookT ops o) (lk st.s)) (resH n0 (isCallO o.op) (rdX (lk st.s) (lk st.h) o.op) (lk st.h)) o.op K tg ∧ ∀ val wr cnt, K val wr cnt → cnt ≤ 8) ∧
      ∃ X cnt, opS P Φ (n0 + 8 * i) (resF (lookT ops o) (lk st.s)) (resH n0 (isCallO o.op) (rdX (lk st.s) (lk st.h) o.op) (lk st.h)) o.op = some X ∧ X ⟨e.val, e.wr, cnt⟩) ∨ (gOk ops st.s o false ∧ e = ⟨some (.tup []), [], false, []⟩)
inductive DRun (P : Program) (Φ : FuncId → Option Ct) (N n0 : Nat) (ops : List Oper) : List Oper → Nat → St → List EI → St → Prop where
  | nil (i : Nat) (st : St) : DRun P Φ N n0 ops [] i st [] st
  | cons {o : Oper} {r : List Oper} {i : Nat} {st st' : St} {e : EI} {es : List EI} (h : Ok1 P Φ N n0 ops o i st e) (hr : DRun P Φ N n0 ops r (i + 1) (st.eff o.dst e.val e.wr 0) es st') : DRun P Φ N n0 ops (o :: r) i st (e :: es) st'
def accL : Nat → List EI → List DI → List DI
  | _, [], acc => acc
  | i, e :: es, acc => accL (i + 1) es (⟨i, e.old, e.rd, e.wr.map (·.1)⟩ :: acc)
theorem drX_step {Φ : FuncId → Option Ct} {N n0 : Nat} {ops : List Oper} {K : St → List DI → Prop} {o : Oper} {r : List Oper} {i : Nat} {st : St} {acc : List DI} {t0 : Tag K} (h : drX P Φ N n0 ops (o :: r) i st acc K t0) :
    (gOk ops st.s o true ∧ ∃ X, opS P Φ (n0 + 8 * i) (resF (lookT ops o) (lk st.s)) (resH n0 (isCallO o.op) (rdX (lk st.s) (lk st.h) o.op) (lk st.h)) o.op = some X ∧ (∃ e, X e) ∧
      ∀ e, X e → Ok1 P Φ N n0 ops o i st ⟨e.val, e.wr, isCallO o.op, rdX (lk st.s) (lk st.h) o.op⟩ ∧ drX P Φ N n0 ops r (i + 1) (st.eff o.dst e.val e.wr 0) (⟨i, isCallO o.op, rdX (lk st.s) (lk st.h) o.op, e.wr.map (·.1)⟩ :: acc) K t0) ∨
    (gOk ops st.s o false ∧ Ok1 P Φ N n0 ops o i st ⟨some (.tup []), [], false, []⟩ ∧ drX P Φ N n0 ops r (i + 1) (st.eff o.dst (some (.tup [])) [] 0) (⟨i, false, [], []⟩ :: acc) K t0) := by
  obtain ⟨hd, h⟩ := h
  have run : gOk ops st.s o true → opR P Φ (n0 + 8 * i) (resF (lookT ops o) (lk st.s)) (resH n0 (isCallO o.op) (rdX (lk st.s) (lk st.h) o.op) (lk st.h)) o.op (fun val wr cnt => cnt ≤ 8 ∧ drX P Φ N n0 ops r (i + 1) (st.eff o.dst val wr 0) (⟨i, isCallO o.op, rdX (lk st.s) (lk st.h) o.op, wr.map (·.1)⟩ :: acc) K t0) .mk →
      ∃ X, opS P Φ (n0 + 8 * i) (resF (lookT ops o) (lk st.s)) (resH n0 (isCallO o.op) (rdX (lk st.s) (lk st.h) o.op) (lk st.h)) o.op = some X ∧ (∃ e, X e) ∧
      ∀ e, X e → Ok1 P Φ N n0 ops o i st ⟨e.val, e.wr, isCallO o.op, rdX (lk st.s) (lk st.h) o.op⟩ ∧ drX P Φ N n0 ops r (i + 1) (st.eff o.dst e.val e.wr 0) (⟨i, isCallO o.op, rdX (lk st.s) (lk st.h) o.op, e.wr.map (·.1)⟩ :: acc) K t0 := by
    intro hg hr
    obtain ⟨X, h1, h2, h3⟩ := opR_S hr
    exact ⟨X, h1, h2, fun e he => ⟨⟨hd, .inl ⟨hg, rfl, rfl, ⟨_, _, hr, fun _ _ _ hk => hk.1⟩, X, e.cnt, h1, he⟩⟩, (h3 e he).2⟩⟩
  split at h
  · rename_i hg
    have hgo : gOk ops st.s o true := by simp [gOk, hg]
    exact .inl ⟨hgo, run hgo h⟩
  · rename_i j want hg
    split at h
    · rename_i t ht
      split at h
      · rename_i b hb
        by_cases e : b = want
        · have hgo : gOk ops st.s o true := by simp only [gOk, hg]; exact ⟨t, ht, .inl ⟨b, hb, by simp [e]⟩⟩
          exact .inl ⟨hgo, run hgo (h.1 e)⟩
        · have e' : b = (!want) := by cases b <;> cases want <;> simp_all
          have hgo : gOk ops st.s o false := by simp only [gOk, hg]; exact ⟨t, ht, .inl ⟨b, hb, by simp [e]⟩⟩
          exact .inr ⟨hgo, ⟨hd, .inr ⟨hgo, rfl⟩⟩, h.2 e'⟩
      · rename_i ds hb
        have hgo : gOk ops st.s o false := by simp only [gOk, hg]; exact ⟨t, ht, .inr ⟨ds, hb, trivial⟩⟩
        exact .inr ⟨hgo, ⟨hd, .inr ⟨hgo, rfl⟩⟩, h⟩
      · exact h.elim
    · exact h.elim
theorem drX_ex {Φ : FuncId → Option Ct} {N n0 : Nat} {ops : List Oper} {K : St → List DI → Prop} : ∀ {l : List Oper} {i : Nat} {st : St} {acc : List DI} {t0 : Tag K}, drX P Φ N n0 ops l i st acc K t0 →
    ∃ es st', DRun P Φ N n0 ops l i st es st' ∧ K st' (accL i es acc)
  | [], i, st, acc, _, h => ⟨[], st, .nil i st, h⟩
  | o :: r, i, st, acc, t0, h => by
    rcases drX_step h with ⟨_, X, _, ⟨e, he⟩, h3⟩ | ⟨_, h2, h3⟩
    · obtain ⟨h4, h5⟩ := h3 e he
      obtain ⟨es, st', h6, h7⟩ := drX_ex h5
      exact ⟨_, st', .cons h4 h6, h7⟩
    · obtain ⟨es, st', h6, h7⟩ := drX_ex h3
      exact ⟨_, st', .cons h2 h6, h7⟩
def wlk : List (Nat × Option Root) → Nat → Option (Option Root)
  | [], _ => none
  | (n, r) :: l, m => if m = n then some r else wlk l m
theorem apH_wlk : ∀ (l : List (Nat × Option Root)) (H : Nat → Option Root) (m : Nat), apH l H m = match wlk l m with
    | some r => r
    | none => H m
  | [], H, m => rfl
  | (n, r) :: l, H, m => by
    simp only [apH, upd, wlk]
    split
    · rfl
    · exact apH_wlk l H m
theorem wlk_none : ∀ {l : List (Nat × Option Root)} {m : Nat}, m ∉ l.map (·.1) → wlk l m = none
  | [], m, h => rfl
  | (n, r) :: l, m, h => by
    simp only [List.map_cons, List.mem_cons, not_or] at h
    simp only [wlk]
    rw [if_neg h.1]
    exact wlk_none h.2
def Ws (ops : List Oper) (es : List EI) (k : Nat) (t : Nat) : Option (Option D) := match gSlot ops k with
  | some d => if t = d then some (es.getD k default).val else none
  | none => none
def Wh (es : List EI) (k : Nat) (n : Nat) : Option (Option Root) := wlk (es.getD k default).wr n
abbrev allT : Nat → Bool := fun _ => true
theorem DRun.all {Φ : FuncId → Option Ct} {N n0 : Nat} {ops : List Oper} {es : List EI} {S0 : Nat → Option D} {H0 : Nat → Option Root} {l : List Oper} {k : Nat} {st st' : St} {es' : List EI} (h : DRun P Φ N n0 ops l k st es' st') :
    l = ops.drop k → es' = es.drop k → lk st.s = Fg (Ws ops es) allT S0 k → lk st.h = Fg (Wh es) allT H0 k → k ≤ ops.length → es.length = ops.length ∨ True →
    (∀ j o, k ≤ j → ops[j]? = some o → ∃ stj, Ok1 P Φ N n0 ops o j stj (es.getD j default) ∧ lk stj.s = Fg (Ws ops es) allT S0 j ∧ lk stj.h = Fg (Wh es) allT H0 j) ∧
    lk st'.s = Fg (Ws ops es) allT S0 ops.length ∧ lk st'.h = Fg (Wh es) allT H0 ops.length := by
  induction h with
  | nil i st =>
    intro hl he hs hh hk _
    have : ops.length ≤ i := by
      have := congrArg List.length hl; simp at this; omega
    have hi : i = ops.length := by omega
    subst hi
    exact ⟨fun j o hj ho => by have := (List.getElem?_eq_some_iff.1 ho).1; omega, hs, hh⟩
  | @cons o r i st st' e es'' h hr ih =>
    intro hl he hs hh hk _
    have hoi : ops[i]? = some o := by
      have := congrArg (·[0]?) hl; simpa using this.symm
    have hei : es[i]? = some e := by
      have := congrArg (·[0]?) he; simpa using this.symm
    have hed : es.getD i default = e := by simp [List.getD, hei]
    have hgs : gSlot ops i = o.dst := by simp [gSlot, hoi]
    have hs' : lk (st.eff o.dst e.val e.wr 0).s = Fg (Ws ops es) allT S0 (i + 1) := by
      funext t
      simp only [St.eff, lk_putS, Fg, if_true, Ws, hgs, hed, hs]
      cases o.dst with
      | none => rfl
      | some d =>
        simp only [apS, upd]
        split <;> rfl
    have hh' : lk (st.eff o.dst e.val e.wr 0).h = Fg (Wh es) allT H0 (i + 1) := by
      funext t
      simp only [St.eff, lk_insW, Fg, if_true, Wh, hed, hh, apH_wlk]
      cases wlk e.wr t <;> rfl
    have hlt : i < ops.length := (List.getElem?_eq_some_iff.1 hoi).1
    obtain ⟨h1, h2⟩ := ih (by rw [← List.drop_drop, ← hl]; rfl) (by rw [← List.drop_drop, ← he]; rfl) hs' hh' (by omega) (.inr trivial)
    refine ⟨fun j o' hj ho' => ?_, h2⟩
    by_cases e1 : j = i
    · subst e1
      rw [hoi] at ho'; injection ho' with ho'; subst ho'
      exact ⟨st, by rw [hed]; exact h, hs, hh⟩
    · exact h1 j o' (by omega) ho'
theorem accL_mem : ∀ {es : List EI} {i : Nat} {acc : List DI}, (∀ x ∈ acc, x ∈ accL i es acc) ∧ ∀ (k : Nat) (e : EI), es[k]? = some e → (⟨i + k, e.old, e.rd, e.wr.map (·.1)⟩ : DI) ∈ accL i es acc
  | [], i, acc => ⟨fun x h => h, fun k e h => by simp at h⟩
  | e0 :: es, i, acc => by
    obtain ⟨h1, h2⟩ := accL_mem (es := es) (i := i + 1) (acc := ⟨i, e0.old, e0.rd, e0.wr.map (·.1)⟩ :: acc)
    refine ⟨fun x hx => h1 x (.tail _ hx), fun k e he => ?_⟩
    cases k with
    | zero => simp at he; subst he; exact h1 _ (.head _)
    | succ k => simp at he; have := h2 k e he; rw [show i + (k + 1) = i + 1 + k by omega]; exact this
end Go.SX
set_option linter.unusedVariables false
set_option linter.unusedSimpArgs false
namespace Go.SX
open Go Go.RowKit
variable {en : En} {g : Gh} {S : Nat → Option D} {H : Nat → Option Root} {a : Act} {w : World} {P : Program}
theorem apartT_spec {ops : List Oper} {x y : Oper} (h : apartT ops x y = true) : (∀ d, x.dst = some d → d ∉ lookT ops y) ∧ (∀ d, x.dst = some d → y.dst ≠ some d) ∧ (∀ d, y.dst = some d → d ∉ lookT ops x) := by
  refine ⟨fun d hd hm => ?_, fun d hd he => ?_, fun d hd hm => ?_⟩
  · rw [← memb_iff] at hm; simp [apartT, hd, hm] at h
  · simp [apartT, hd, he] at h
  · rw [← memb_iff] at hm; simp [apartT, hd, hm] at h
structure SlOk (ops : List Oper) : Prop where
  lt : ∀ (j : Nat) (oj : Oper), ops[j]? = some oj → ∀ e ∈ oj.after, Region.binds .any e = true → e.on < j
  just : ∀ (i j : Nat) (oi oj : Oper), ops[i]? = some oi → ops[j]? = some oj → i < j → bfB (Region.before ops.toArray) i j = true → ∃ e ∈ oj.after, Region.binds .any e = true ∧ (e.on = i ∨ (i < e.on ∧ bfB (Region.before ops.toArray) i e.on = true))
  apart : ∀ (i j : Nat) (oi oj : Oper), ops[i]? = some oi → ops[j]? = some oj → i < j → bfB (Region.before ops.toArray) i j = false → apartT ops oi oj = true
theorem slotsOk_spec {ops : List Oper} (h : slotsOk ops = true) : SlOk ops := by
  simp only [slotsOk, List.all_eq_true] at h
  have hz : ∀ (j : Nat) (o : Oper), ops[j]? = some o → (o, j) ∈ ops.zipIdx := fun j o ho => List.mem_zipIdx_iff_getElem?.2 ho
  refine ⟨fun j oj hj e he hb => ?_, fun i j oi oj hi hj hij hb => ?_, fun i j oi oj hi hj hij hb => ?_⟩
  · have := h _ (hz j oj hj)
    simp only [Bool.and_eq_true, List.all_eq_true] at this
    have := this.1 e (by simpa using he)
    simp [hb] at this
    exact this
  · have := h _ (hz j oj hj)
    simp only [Bool.and_eq_true, List.all_eq_true] at this
    have := this.2 _ (hz i oi hi)
    simp only [hb, if_true, Bool.or_eq_true, decide_eq_true_eq, List.any_eq_true, Bool.and_eq_true] at this
    rcases this with h1 | ⟨e, he, h1, h2⟩
    · omega
    · exact ⟨e, by simpa using he, h1, h2⟩
  · have := h _ (hz j oj hj)
    simp only [Bool.and_eq_true, List.all_eq_true] at this
    have := this.2 _ (hz i oi hi)
    simp only [hb, Bool.false_eq_true, if_false, Bool.or_eq_true, decide_eq_true_eq] at this
    exact this.resolve_left (by omega)
theorem disj_spec {n0 : Nat} {x y : DI} (h : disj n0 x y = true) : (∀ n ∈ x.wr, n ∉ y.wr ∧ n ∉ y.rd ∧ ¬ (y.old = true ∧ n < n0)) ∧ (∀ n ∈ y.wr, n ∉ x.rd ∧ ¬ (x.old = true ∧ n < n0)) := by
  simp only [disj, Bool.and_eq_true, List.all_eq_true, Bool.not_eq_true', Bool.and_eq_false_iff, decide_eq_false_iff_not] at h
  have hm : ∀ {n : Nat} {l : List Nat}, memb n l = false → n ∉ l := fun h hm => by rw [memb_iff.2 hm] at h; cases h
  refine ⟨fun n hn => ?_, fun n hn => ?_⟩
  · obtain ⟨h1, h2, h3⟩ := h.1 n hn
    refine ⟨hm h1, hm h2, fun hc => ?_⟩
    rcases h3 with h3 | h3
    · rw [hc.1] at h3; cases h3
    · exact h3 hc.2
  · obtain ⟨h1, h3⟩ := h.2 n hn
    refine ⟨hm h1, fun hc => ?_⟩
    rcases h3 with h3 | h3
    · rw [hc.1] at h3; cases h3
    · exact h3 hc.2
theorem disj_symm {n0 : Nat} {x y : DI} (h : (∀ n ∈ x.wr, n ∉ y.wr ∧ n ∉ y.rd ∧ ¬ (y.old = true ∧ n < n0)) ∧ (∀ n ∈ y.wr, n ∉ x.rd ∧ ¬ (x.old = true ∧ n < n0))) :
    (∀ n ∈ y.wr, n ∉ x.wr ∧ n ∉ x.rd ∧ ¬ (x.old = true ∧ n < n0)) ∧ (∀ n ∈ x.wr, n ∉ y.rd ∧ ¬ (y.old = true ∧ n < n0)) :=
  ⟨fun n hn => ⟨fun hx => (h.1 n hx).1 hn, h.2 n hn⟩, fun n hn => (h.1 n hn).2⟩
section order
variable {Φ : FuncId → Option Ct} {N n0 : Nat} {ops : List Oper} {es : List EI} {S0 : Nat → Option D} {H0 : Nat → Option Root} {Q : Exit → Act → World → Prop}
def Xof (listed : Array Bool) : Nat → Bool := fun i => listed.getD i false
def Dc (ops : List Oper) (X : Nat → Bool) : Prop := ∀ (j : Nat) (o : Oper), ops[j]? = some o → X j = true → ∀ e ∈ o.after, Region.binds .any e = true → X e.on = true
theorem Dc.anc (hs : SlOk ops) {X : Nat → Bool} (hd : Dc ops X) : ∀ (j i : Nat) (oi oj : Oper), ops[i]? = some oi → ops[j]? = some oj → i < j → X j = true → bfB (Region.before ops.toArray) i j = true → X i = true := by
  intro j
  induction j using Nat.strongRecOn with
  | _ j ih =>
    intro i oi oj hi hj hij hx hb
    obtain ⟨e, he, hbd, h⟩ := hs.just i j oi oj hi hj hij hb
    have hxe := hd j oj hj hx e he hbd
    rcases h with h | ⟨h1, h⟩
    · rw [← h]; exact hxe
    · have hlt := hs.lt j oj hj e he hbd
      have hjl : j < ops.length := (List.getElem?_eq_some_iff.1 hj).1
      exact ih e.on hlt i oi ops[e.on] hi (List.getElem?_eq_getElem (by omega)) h1 hxe h
theorem count_drop {p q : Nat → Bool} {i : Nat} (hq : ∀ j, q j = true → p j = true) (hi : p i = true) (hqi : q i = false) : ∀ {l : List Nat}, i ∈ l → (l.filter q).length < (l.filter p).length := by
  have hle : ∀ l : List Nat, (l.filter q).length ≤ (l.filter p).length := by
    intro l
    induction l with
    | nil => simp
    | cons x l ih =>
      simp only [List.filter_cons]
      by_cases h : q x = true
      · rw [if_pos h, if_pos (hq x h)]; simp; exact ih
      · rw [if_neg h]; split <;> (try simp) <;> omega
  intro l
  induction l with
  | nil => intro h; cases h
  | cons x l ih =>
    intro h
    simp only [List.filter_cons]
    by_cases e : x = i
    · subst e
      rw [if_pos hi, if_neg (by rw [hqi]; simp)]
      have := hle l
      simp; omega
    · have hm : i ∈ l := by
        rcases List.mem_cons.1 h with h | h
        · exact absurd h.symm e
        · exact h
      have := ih hm
      by_cases h2 : q x = true
      · rw [if_pos h2, if_pos (hq x h2)]; simp; exact this
      · rw [if_neg h2]; split <;> (try simp) <;> omega
theorem ready_full (hs : SlOk ops) {listed : Array Bool} (hsz : listed.size = ops.length) (hr : Region.ready .any ops.toArray listed = []) : ∀ i, i < ops.length → Xof listed i = true := by
  intro i
  induction i using Nat.strongRecOn with
  | _ i ih =>
    intro hi
    cases hx : Xof listed i with
    | true => rfl
    | false =>
      have hm : i ∈ Region.ready .any ops.toArray listed := by
        have hoi : ops[i]? = some ops[i] := List.getElem?_eq_getElem hi
        refine mem_ready.2 ⟨?_, ops[i], by simp, fun e he hb => ?_⟩
        · simp only [Xof] at hx
          have hlt : i < listed.size := by omega
          simp [hlt] at hx ⊢; exact hx
        · have hlt := hs.lt i _ hoi e he hb
          exact ih e.on hlt (by omega)
      rw [hr] at hm; cases hm
theorem ev_congr {S S' : Nat → Option D} {x : Operand} (h : ∀ t ∈ oT x, S t = S' t) : ev S x = ev S' x := by
  cases x with
  | tmp t => exact h t (by simp [oT])
  | _ => rfl
theorem vwO_congr {S S' : Nat → Option D} {x : Operand} (h : ∀ t ∈ oT x, S t = S' t) : vwO S x = vwO S' x := by
  unfold vwO; rw [ev_congr h]
theorem flat_congr {S S' : Nat → Option D} : ∀ {l : List Operand}, (∀ t ∈ l.flatMap oT, S t = S' t) → l.flatMap (vwO S) = l.flatMap (vwO S')
  | [], _ => rfl
  | x :: l, h => by
    simp only [List.flatMap_cons, List.mem_append] at h ⊢
    rw [vwO_congr (fun t ht => h t (.inl ht)), flat_congr (fun t ht => h t (.inr ht))]
theorem rdN_congr {S S' : Nat → Option D} {o : Op} (h : ∀ t ∈ opTm o, S t = S' t) : rdN S o = rdN S' o := by
  unfold rdN
  split
  · exact vwO_congr (fun t ht => h t (by simpa [opTm] using ht))
  · exact vwO_congr (fun t ht => h t (by simp only [opTm, List.mem_append]; exact .inl ht))
  · rw [vwO_congr (fun t ht => h t (by simp only [opTm, List.mem_append]; exact .inl ht)), flat_congr (fun t ht => h t (by simp only [opTm, List.mem_append]; exact .inr ht))]
  · exact flat_congr (fun t ht => h t (by simpa only [opTm] using ht))
  · rfl
theorem nestH_congr {H H' : Nat → Option Root} : ∀ {L : List Nat}, (∀ n ∈ L, H n = H' n) → nestH H L = nestH H' L
  | [], _ => rfl
  | n :: L, h => by
    have ih := nestH_congr (L := L) (fun m hm => h m (.tail _ hm))
    simp only [nestH, List.flatMap_cons] at ih ⊢
    rw [h n (.head _), ih]
theorem rdX_congr {S S' : Nat → Option D} {H H' : Nat → Option Root} {o : Op} (h : ∀ t ∈ opTm o, S t = S' t) (hH : ∀ n ∈ rdN S o, H n = H' n) : rdX S H o = rdX S' H' o := by
  unfold rdX
  rw [← rdN_congr h, nestH_congr hH]
theorem resF_congr {α : Type} {L : List Nat} {S S' : Nat → Option α} (h : ∀ t ∈ L, S t = S' t) : resF L S = resF L S' := by
  funext t
  simp only [resF]
  split
  · rename_i hm; exact h t (memb_iff.1 hm)
  · rfl
theorem gOk_congr {s s' : List (Nat × Option D)} {o : Oper} (h : ∀ t ∈ lookT ops o, lk s t = lk s' t) {b : Bool} (hg : gOk ops s o b) : gOk ops s' o b := by
  unfold gOk at hg ⊢
  cases hgu : o.guard with
  | none => simp only [hgu] at hg ⊢; exact hg
  | some jw =>
    obtain ⟨j, want⟩ := jw
    simp only [hgu] at hg ⊢
    obtain ⟨t, ht, hg⟩ := hg
    have hm : t ∈ lookT ops o := by simp [lookT, hgu, ht]
    refine ⟨t, ht, ?_⟩
    rw [← h t hm]; exact hg
theorem gOk_one {s : List (Nat × Option D)} {o : Oper} (h : gOk ops s o true) (h' : gOk ops s o false) : False := by
  unfold gOk at h h'
  split at h
  · rename_i hgu; simp only [hgu] at h'; cases h'
  · rename_i j want hgu
    simp only [hgu] at h'
    obtain ⟨t, ht, h⟩ := h
    obtain ⟨t', ht', h'⟩ := h'
    rw [ht] at ht'; injection ht' with ht'; subst ht'
    rcases h with ⟨b, hb, he⟩ | ⟨ds, hb, he⟩
    · rcases h' with ⟨b', hb', he'⟩ | ⟨ds', hb', he'⟩
      · rw [hb] at hb'
        simp only [Option.some.injEq, D.c.injEq, C.im.injEq, I.bool.injEq] at hb'
        subst hb'
        rw [← he] at he'; cases he'
      · rw [hb] at hb'; cases hb'
    · cases he
theorem rootsOk_pair {acc : List DI} (h : rootsOk ops n0 acc = true) {x y : DI} (hx : x ∈ acc) (hy : y ∈ acc) (hlt : x.i < y.i) (hb : bfB (Region.before ops.toArray) x.i y.i = false) : disj n0 x y = true := by
  simp only [rootsOk, List.all_eq_true] at h
  have := h y hy x hx
  simp only [Bool.or_eq_true, decide_eq_true_eq, hb, Bool.false_eq_true, false_or] at this
  exact this.resolve_left (by omega)
section again
variable {K : St → List DI → Prop} {X : Nat → Bool} {i : Nat}
structure Ag (ops : List Oper) (X : Nat → Bool) (i k : Nat) (st st2 : St) (acc acc2 : List DI) : Prop where
  s : ∀ t, (∀ j oj, j < k → i ≤ j → X j = false → ops[j]? = some oj → oj.dst ≠ some t) → lk st.s t = lk st2.s t
  h : ∀ n, (∀ y ∈ acc, i ≤ y.i → X y.i = false → n ∉ y.wr) → (∀ y ∈ acc2, i ≤ y.i → X y.i = false → n ∉ y.wr) → lk st.h n = lk st2.h n
  lt : ∀ y ∈ acc, y.i < k
  lt2 : ∀ y ∈ acc2, y.i < k
theorem lk_eff_s {st : St} {dst : Option Nat} {val : Option D} {wr : List (Nat × Option Root)} {c t : Nat} (h : dst ≠ some t) : lk (st.eff dst val wr c).s t = lk st.s t := by
  simp only [St.eff, lk_putS]
  cases dst with
  | none => rfl
  | some d => simp only [apS]; exact upd_other _ _ (fun e => h (by rw [e]))
theorem lk_eff_s' {st st2 : St} {dst : Option Nat} {val : Option D} {wr : List (Nat × Option Root)} {c t : Nat} (h : lk st.s t = lk st2.s t) : lk (st.eff dst val wr c).s t = lk (st2.eff dst val wr c).s t := by
  simp only [St.eff, lk_putS]
  cases dst with
  | none => exact h
  | some d => simp only [apS, upd]; split; rfl; exact h
theorem lk_eff_h {st : St} {dst : Option Nat} {val : Option D} {wr : List (Nat × Option Root)} {c n : Nat} (h : n ∉ wr.map (·.1)) : lk (st.eff dst val wr c).h n = lk st.h n := by
  simp only [St.eff, lk_insW, apH_wlk, wlk_none h]
theorem lk_eff_h' {st st2 : St} {dst : Option Nat} {val : Option D} {wr : List (Nat × Option Root)} {c n : Nat} (h : lk st.h n = lk st2.h n) : lk (st.eff dst val wr c).h n = lk (st2.eff dst val wr c).h n := by
  simp only [St.eff, lk_insW, apH_wlk, h]
theorem Ag.same {k : Nat} {st st2 : St} {acc acc2 : List DI} (h : Ag ops X i k st st2 acc acc2) (o : Oper) (e : EI) :
    Ag ops X i (k + 1) (st.eff o.dst e.val e.wr 0) (st2.eff o.dst e.val e.wr 0) (⟨k, e.old, e.rd, e.wr.map (·.1)⟩ :: acc) (⟨k, e.old, e.rd, e.wr.map (·.1)⟩ :: acc2) := by
  refine ⟨fun t ht => lk_eff_s' (h.s t (fun j oj hj => ht j oj (by omega))), fun n h1 h2 => lk_eff_h' (h.h n (fun y hy => h1 y (.tail _ hy)) (fun y hy => h2 y (.tail _ hy))), fun y hy => ?_, fun y hy => ?_⟩
  · rcases List.mem_cons.1 hy with rfl | hy
    · simp
    · have := h.lt y hy; omega
  · rcases List.mem_cons.1 hy with rfl | hy
    · simp
    · have := h.lt2 y hy; omega
theorem Ag.other {k : Nat} {st st2 : St} {acc acc2 : List DI} (h : Ag ops X i k st st2 acc acc2) {o : Oper} (ho : ops[k]? = some o) (hx : X k = false) (hik : i ≤ k) (e e2 : EI) :
    Ag ops X i (k + 1) (st.eff o.dst e.val e.wr 0) (st2.eff o.dst e2.val e2.wr 0) (⟨k, e.old, e.rd, e.wr.map (·.1)⟩ :: acc) (⟨k, e2.old, e2.rd, e2.wr.map (·.1)⟩ :: acc2) := by
  refine ⟨fun t ht => ?_, fun n h1 h2 => ?_, fun y hy => ?_, fun y hy => ?_⟩
  · have hd := ht k o (by omega) hik hx ho
    rw [lk_eff_s hd, lk_eff_s hd]
    exact h.s t (fun j oj hj => ht j oj (by omega))
  · rw [lk_eff_h (h1 _ (.head _) hik hx), lk_eff_h (h2 _ (.head _) hik hx)]
    exact h.h n (fun y hy => h1 y (.tail _ hy)) (fun y hy => h2 y (.tail _ hy))
  · rcases List.mem_cons.1 hy with rfl | hy
    · simp
    · have := h.lt y hy; omega
  · rcases List.mem_cons.1 hy with rfl | hy
    · simp
    · have := h.lt2 y hy; omega
theorem Ok1.ei {o : Oper} {k : Nat} {st : St} {e : EI} (h : Ok1 P Φ N n0 ops o k st e) : (gOk ops st.s o true ∧ e = ⟨e.val, e.wr, isCallO o.op, rdX (lk st.s) (lk st.h) o.op⟩) ∨ (gOk ops st.s o false ∧ e = ⟨some (.tup []), [], false, []⟩) := by
  rcases h.run with ⟨h1, h2, h3, _⟩ | h1
  · exact .inl ⟨h1, by cases e; simp_all⟩
  · exact .inr h1
theorem par (hs : SlOk ops) (hd : Dc ops X) (hxi : X i = false) (hK : ∀ st acc, K st acc → rootsOk ops n0 acc = true) :
    ∀ (l : List Oper) (k : Nat) (st st2 : St) (acc acc2 : List DI) (es : List EI) (st' : St) (tg : Tag K), l = ops.drop k → i < k → DRun P Φ N n0 ops l k st es st' → rootsOk ops n0 (accL k es acc) = true →
      drX P Φ N n0 ops l k st2 acc2 K tg → Ag ops X i k st st2 acc acc2 →
      ∃ es2 st2', DRun P Φ N n0 ops l k st2 es2 st2' ∧ K st2' (accL k es2 acc2) ∧ es2.length = es.length ∧ ∀ j e, X (k + j) = true → es[j]? = some e → es2[j]? = some e
  | [], k, st, st2, acc, acc2, es, st', tg, hl, hik, hold, hro, hnew, hag => by
    cases hold with
    | nil => exact ⟨[], st2, .nil _ _, hnew, rfl, fun j e _ h => by simp at h⟩
  | o :: r, k, st, st2, acc, acc2, es, st', tg, hl, hik, hold, hro, hnew, hag => by
    have hok : ops[k]? = some o := by have := congrArg (·[0]?) hl; simpa using this.symm
    have hr : r = ops.drop (k + 1) := by
      have := congrArg List.tail hl
      simpa [List.tail_drop] using this
    have hkl : k < ops.length := (List.getElem?_eq_some_iff.1 hok).1
    cases hold with
    | cons h1 hrest =>
      rename_i e es
      by_cases hx : X k = true
      ·
        have hbf : ∀ j oj, j < k → X j = false → ops[j]? = some oj → bfB (Region.before ops.toArray) j k = false := fun j oj hj hxj hoj => by
          cases hb : bfB (Region.before ops.toArray) j k with
          | false => rfl
          | true => have := Dc.anc hs hd k j oj o hoj hok hj hx hb; rw [hxj] at this; cases this
        have hsl : ∀ t ∈ lookT ops o, lk st.s t = lk st2.s t := fun t ht => hag.s t (fun j oj hj hij hxj hoj hdt =>
          (apartT_spec (hs.apart j k oj o hoj hok hj (hbf j oj hj hxj hoj))).1 t hdt ht)
        have hsl' : ∀ t ∈ opTm o.op, lk st.s t = lk st2.s t := fun t ht => hsl t (by simp only [lookT, List.mem_append]; exact .inl ht)
        have hF : resF (lookT ops o) (lk st2.s) = resF (lookT ops o) (lk st.s) := (resF_congr hsl).symm
        rcases h1.ei with ⟨hg, hee⟩ | ⟨hg, hee⟩
        · rcases drX_step hnew with ⟨hg2, X2, hX2, ⟨e0, he0⟩, hall2⟩ | ⟨hg2, _⟩
          · have hroots : ∀ n, ((isCallO o.op = true ∧ n < n0) ∨ (n ∈ rdX (lk st.s) (lk st.h) o.op ∧ n ∈ rdX (lk st2.s) (lk st2.h) o.op)) → lk st2.h n = lk st.h n := fun n hn => by
              refine (hag.h n (fun y hy hiy hxy hw => ?_) (fun y hy hiy hxy hw => ?_)).symm
              · have hlt := hag.lt y hy
                obtain ⟨oj, hoj⟩ : ∃ oj, ops[y.i]? = some oj := ⟨_, List.getElem?_eq_getElem (by omega)⟩
                have hm1 : y ∈ accL k (e :: es) acc := accL_mem.1 y hy
                have hm2 : (⟨k, e.old, e.rd, e.wr.map (·.1)⟩ : DI) ∈ accL k (e :: es) acc := by
                  have := (accL_mem (es := e :: es) (i := k) (acc := acc)).2 0 e rfl
                  simpa using this
                have hdj := (disj_spec (rootsOk_pair hro hm1 hm2 hlt (hbf y.i oj hlt hxy hoj))).1 n hw
                rw [hee] at hdj
                rcases hn with hn | hn
                · exact hdj.2.2 hn
                · exact hdj.2.1 hn.1
              · have hlt := hag.lt2 y hy
                obtain ⟨oj, hoj⟩ : ∃ oj, ops[y.i]? = some oj := ⟨_, List.getElem?_eq_getElem (by omega)⟩
                obtain ⟨es3, st3, hd3, hk3⟩ := drX_ex (hall2 e0 he0).2
                have hro3 := hK _ _ hk3
                have hm1 : y ∈ accL (k + 1) es3 (⟨k, isCallO o.op, rdX (lk st2.s) (lk st2.h) o.op, e0.wr.map (·.1)⟩ :: acc2) := accL_mem.1 y (.tail _ hy)
                have hm2 : (⟨k, isCallO o.op, rdX (lk st2.s) (lk st2.h) o.op, e0.wr.map (·.1)⟩ : DI) ∈ accL (k + 1) es3 (⟨k, isCallO o.op, rdX (lk st2.s) (lk st2.h) o.op, e0.wr.map (·.1)⟩ :: acc2) := accL_mem.1 _ (.head _)
                have hdj := (disj_spec (rootsOk_pair hro3 hm1 hm2 hlt (hbf y.i oj hlt hxy hoj))).1 n hw
                rcases hn with hn | hn
                · exact hdj.2.2 hn
                · exact hdj.2.1 hn.2
            have hrd : rdX (lk st2.s) (lk st2.h) o.op = rdX (lk st.s) (lk st.h) o.op := (rdX_congr hsl' (fun n hn => (hroots n (.inr ⟨List.mem_append_left _ hn, List.mem_append_left _ (by rw [← rdN_congr hsl']; exact hn)⟩)).symm)).symm
            have hH : resH n0 (isCallO o.op) (rdX (lk st.s) (lk st.h) o.op) (lk st2.h) = resH n0 (isCallO o.op) (rdX (lk st.s) (lk st.h) o.op) (lk st.h) := by
              funext n
              simp only [resH]
              split
              · rename_i hn
                rw [memb_iff] at hn
                exact hroots n (hn.imp id (fun h => ⟨h, by rw [hrd]; exact h⟩))
              · rfl
            rw [hrd, hF, hH] at hX2
            have hin : ∃ cnt, X2 ⟨e.val, e.wr, cnt⟩ := by
              rcases h1.run with ⟨_, _, _, _, X1, cnt, hX1, hx1⟩ | ⟨hg', _⟩
              · rw [hX1] at hX2; injection hX2 with hX2; subst hX2; exact ⟨cnt, hx1⟩
              · exact (gOk_one hg hg').elim
            obtain ⟨cnt, hin⟩ := hin
            obtain ⟨hok2, hnew2⟩ := hall2 _ hin
            rw [hrd, ← hee] at hok2
            have hag2 := hag.same o e
            rw [show (⟨k, isCallO o.op, rdX (lk st2.s) (lk st2.h) o.op, e.wr.map (·.1)⟩ : DI) = ⟨k, e.old, e.rd, e.wr.map (·.1)⟩ by rw [hrd]; rw [hee]] at hnew2
            obtain ⟨es2, st2', q1, q2, q3, q4⟩ := par hs hd hxi hK r (k + 1) _ _ _ _ es st' tg hr (by omega) hrest hro hnew2 hag2
            refine ⟨e :: es2, st2', .cons hok2 q1, q2, by simp [q3], fun j e1 hxj hj => ?_⟩
            cases j with
            | zero => simpa using hj
            | succ j => exact q4 j e1 (by rw [show k + 1 + j = k + (j + 1) by omega]; exact hxj) hj
          · exact (gOk_one (gOk_congr hsl hg) hg2).elim
        · rcases drX_step hnew with ⟨hg2, _⟩ | ⟨hg2, hok2, hnew2⟩
          · exact (gOk_one hg2 (gOk_congr hsl hg)).elim
          · subst hee
            obtain ⟨es2, st2', q1, q2, q3, q4⟩ := par hs hd hxi hK r (k + 1) _ _ _ _ es st' tg hr (by omega) hrest hro hnew2 (hag.same o ⟨some (.tup []), [], false, []⟩)
            refine ⟨_ :: es2, st2', .cons hok2 q1, q2, by simp [q3], fun j e1 hxj hj => ?_⟩
            cases j with
            | zero => simpa using hj
            | succ j => exact q4 j e1 (by rw [show k + 1 + j = k + (j + 1) by omega]; exact hxj) hj
      · have hx' : X k = false := by simpa using hx
        have go : ∀ (e2 : EI), Ok1 P Φ N n0 ops o k st2 e2 → drX P Φ N n0 ops r (k + 1) (st2.eff o.dst e2.val e2.wr 0) (⟨k, e2.old, e2.rd, e2.wr.map (·.1)⟩ :: acc2) K tg →
            ∃ es2 st2', DRun P Φ N n0 ops (o :: r) k st2 es2 st2' ∧ K st2' (accL k es2 acc2) ∧ es2.length = (e :: es).length ∧ ∀ j e1, X (k + j) = true → (e :: es)[j]? = some e1 → es2[j]? = some e1 := fun e2 hok2 hnew2 => by
          obtain ⟨es2, st2', q1, q2, q3, q4⟩ := par hs hd hxi hK r (k + 1) _ _ _ _ es st' tg hr (by omega) hrest hro hnew2 (hag.other hok hx' (by omega) e e2)
          refine ⟨e2 :: es2, st2', .cons hok2 q1, q2, by simp [q3], fun j e1 hxj hj => ?_⟩
          cases j with
          | zero => rw [Nat.add_zero, hx'] at hxj; cases hxj
          | succ j => exact q4 j e1 (by rw [show k + 1 + j = k + (j + 1) by omega]; exact hxj) hj
        rcases drX_step hnew with ⟨_, X2, _, ⟨e0, he0⟩, hall2⟩ | ⟨_, hok2, hnew2⟩
        · obtain ⟨h4, h5⟩ := hall2 e0 he0
          exact go _ h4 h5
        · exact go _ hok2 hnew2
theorem pre {S0 : Nat → Option D} {H0 : Nat → Option Root} {es : List EI} (hi : i < ops.length) : ∀ (n : Nat) (l : List Oper) (k : Nat) (st : St) (acc : List DI) (es1 : List EI) (st' : St) (tg : Tag K), n = i - k → l = ops.drop k → es1 = es.drop k → k ≤ i → DRun P Φ N n0 ops l k st es1 st' → drX P Φ N n0 ops l k st acc K tg →
      lk st.s = Fg (Ws ops es) allT S0 k → lk st.h = Fg (Wh es) allT H0 k → (∀ y ∈ acc, y.i < k) →
      ∃ (o : Oper) (sti : St) (acci : List DI) (e : EI), ops[i]? = some o ∧ es[i]? = some e ∧ lk sti.s = Fg (Ws ops es) allT S0 i ∧ lk sti.h = Fg (Wh es) allT H0 i ∧ (∀ y ∈ acci, y.i < i) ∧ drX P Φ N n0 ops (ops.drop i) i sti acci K tg ∧ DRun P Φ N n0 ops (ops.drop i) i sti (es.drop i) st' ∧
        accL k es1 acc = accL i (es.drop i) acci ∧ ∀ es2 st2, DRun P Φ N n0 ops (ops.drop i) i sti es2 st2 → DRun P Φ N n0 ops l k st ((es.drop k).take (i - k) ++ es2) st2 ∧ accL k ((es.drop k).take (i - k) ++ es2) acc = accL i es2 acci
  | 0, l, k, st, acc, es1, st', tg, hn, hl, he1, hk, hrun, hx, hs, hh, hlt => by
    have : k = i := by omega
    subst this
    subst hl; subst he1
    have hoi : ops[k]? = some ops[k] := List.getElem?_eq_getElem hi
    obtain ⟨e, hee⟩ : ∃ e, es[k]? = some e := by
      rw [List.drop_eq_getElem_cons hi] at hrun
      generalize hdr : es.drop k = ed at hrun
      cases hrun with
      | cons h1 h2 =>
        rename_i e es'
        exact ⟨e, by have := congrArg (·[0]?) hdr; simpa using this⟩
    exact ⟨_, st, acc, e, hoi, hee, hs, hh, hlt, hx, hrun, rfl, fun es2 st2 h => by simp; exact h⟩
  | n + 1, l, k, st, acc, es1, st', tg, hn, hl, he1, hk, hrun, hx, hs, hh, hlt => by
    have hkl : k < ops.length := by omega
    have hki : k < i := by omega
    rw [List.drop_eq_getElem_cons hkl] at hl
    subst hl
    have hoi : ops[k]? = some ops[k] := List.getElem?_eq_getElem hkl
    generalize ops[k] = o at *
    cases hrun with
    | cons h1 h2 =>
      rename_i e es'
      have hei : es[k]? = some e := by
        have := congrArg (·[0]?) he1; simpa using this.symm
      have hed : es.getD k default = e := by simp [List.getD, hei]
      have hgs : gSlot ops k = o.dst := by simp [gSlot, hoi]
      have hs' : lk (st.eff o.dst e.val e.wr 0).s = Fg (Ws ops es) allT S0 (k + 1) := by
        funext t
        simp only [St.eff, lk_putS, Fg, if_true, Ws, hgs, hed, hs]
        cases o.dst with
        | none => rfl
        | some d =>
          simp only [apS, upd]
          split <;> rfl
      have hh' : lk (st.eff o.dst e.val e.wr 0).h = Fg (Wh es) allT H0 (k + 1) := by
        funext t
        simp only [St.eff, lk_insW, Fg, if_true, Wh, hed, hh, apH_wlk]
        cases wlk e.wr t <;> rfl
      have hnew : drX P Φ N n0 ops (ops.drop (k + 1)) (k + 1) (st.eff o.dst e.val e.wr 0) (⟨k, e.old, e.rd, e.wr.map (·.1)⟩ :: acc) K tg := by
        rcases drX_step hx with ⟨hg2, X2, hX2, _, hall2⟩ | ⟨hg2, hok2, hnew2⟩
        · rcases h1.run with ⟨_, e1, e2, _, X1, cnt, hX1, hx1⟩ | ⟨hg', _⟩
          · rw [hX1] at hX2; injection hX2 with hX2; subst hX2
            have := (hall2 _ hx1).2
            rw [e1, e2]; exact this
          · exact (gOk_one hg2 hg').elim
        · rcases h1.run with ⟨hg', _⟩ | ⟨_, he⟩
          · exact (gOk_one hg' hg2).elim
          · subst he; exact hnew2
      have hdrop : es' = es.drop (k + 1) := by
        have := congrArg List.tail he1
        simpa [List.tail_drop] using this
      obtain ⟨o', sti, acci, ei, q1, q2, q3, q4, q5, q6, q7, q8, q9⟩ := pre hi n _ (k + 1) _ _ es' st' tg (by omega) rfl hdrop (by omega) h2 hnew hs' hh' (fun y hy => by
        rcases List.mem_cons.1 hy with rfl | hy
        · simp
        · have := hlt y hy; omega)
      refine ⟨o', sti, acci, ei, q1, q2, q3, q4, q5, q6, q7, q8, fun es2 st2 hd2 => ?_⟩
      obtain ⟨r1, r2⟩ := q9 es2 st2 hd2
      have hsplit : (es.drop k).take (i - k) = e :: (es.drop (k + 1)).take (i - (k + 1)) := by
        rw [← he1, ← hdrop, show i - k = (i - (k + 1)) + 1 by omega, List.take_succ_cons]
      rw [hsplit]
      exact ⟨.cons h1 r1, r2⟩
end again
theorem Fg_ext {κ V : Type} {W W' : Nat → κ → Option V} {X : Nat → Bool} {init : κ → V} : ∀ (n : Nat), (∀ j, j < n → X j = true → W j = W' j) → Fg W X init n = Fg W' X init n
  | 0, _ => rfl
  | n + 1, h => by
    funext k
    simp only [Fg]
    rw [Fg_ext n (fun j hj => h j (by omega))]
    split
    · rename_i hx; rw [h n (by omega) hx]
    · rfl
theorem DRun.len {l : List Oper} {k : Nat} {st st' : St} {es : List EI} (h : DRun P Φ N n0 ops l k st es st') : es.length = l.length := by
  induction h with
  | nil => rfl
  | cons _ _ ih => simp [ih]
theorem order_any (hΦ : Env P Φ) (hs : SlOk ops) {st0 : St} {Kf : St → Prop} {tg : Tag (fun st acc => rootsOk ops n0 acc = true ∧ Kf st)}
    (hX : drX P Φ N n0 ops ops 0 st0 [] (fun st acc => rootsOk ops n0 acc = true ∧ Kf st) tg)
    (hQ : ∀ st g a w, Kf st → (∀ m, g.used m → m < n0 + 8 * ops.length) → Rel en g (lk st.s) (lk st.h) a w → a.tmps.size = N → Q .normal a w) :
    ∀ (fuel : Nat) (listed : Array Bool) (es : List EI) (st' : St) (g : Gh) (a : Act) (w : World), listed.size = ops.length → Dc ops (Xof listed) → ((List.range ops.length).filter fun i => !Xof listed i).length ≤ fuel →
      DRun P Φ N n0 ops ops 0 st0 es st' → rootsOk ops n0 (accL 0 es []) = true → Kf st' →
      Rel en g (Fg (Ws ops es) (Xof listed) (lk st0.s) ops.length) (Fg (Wh es) (Xof listed) (lk st0.h) ops.length) a w → (∀ m, g.used m → m < n0 ∨ ∃ i, i < ops.length ∧ Xof listed i = true ∧ n0 + 8 * i ≤ m ∧ m < n0 + 8 * i + 8) → a.tmps.size = N →
      wpAny P .any ops.toArray Q fuel listed a w := by
  have hfull : ∀ (listed : Array Bool) (es : List EI) (st' : St) (g : Gh) (a : Act) (w : World), listed.size = ops.length → DRun P Φ N n0 ops ops 0 st0 es st' → Kf st' → Rel en g (Fg (Ws ops es) (Xof listed) (lk st0.s) ops.length) (Fg (Wh es) (Xof listed) (lk st0.h) ops.length) a w →
      (∀ m, g.used m → m < n0 ∨ ∃ i, i < ops.length ∧ Xof listed i = true ∧ n0 + 8 * i ≤ m ∧ m < n0 + 8 * i + 8) → a.tmps.size = N → Region.ready .any ops.toArray listed = [] → Q .normal a w := by
    intro listed es st' g a w hsz hrun hk h hu hN hr
    have hXf := ready_full hs hsz hr
    obtain ⟨k1, k2, k3⟩ := DRun.all (es := es) (S0 := lk st0.s) (H0 := lk st0.h) hrun rfl rfl rfl rfl (Nat.zero_le _) (.inr trivial)
    refine hQ st' g a w hk (fun m hm => ?_) ?_ hN
    · rcases hu m hm with h1 | ⟨i, h1, _, _, h2⟩ <;> omega
    · rw [k2, k3]
      have e1 : ∀ t, Fg (Ws ops es) (Xof listed) (lk st0.s) ops.length t = Fg (Ws ops es) allT (lk st0.s) ops.length t := fun t => Fg_same _ (Nat.le_refl _) (fun j hj hj' => by omega) (fun j hj hne => absurd (hXf j hj) hne)
      have e2 : ∀ t, Fg (Wh es) (Xof listed) (lk st0.h) ops.length t = Fg (Wh es) allT (lk st0.h) ops.length t := fun t => Fg_same _ (Nat.le_refl _) (fun j hj hj' => by omega) (fun j hj hne => absurd (hXf j hj) hne)
      exact h.less (fun t d ht => by rw [e1]; exact ht) (fun t d ht => by rw [e2]; exact ht)
  intro fuel
  induction fuel with
  | zero =>
    intro listed es st' g a w hsz hd hc hrun hro hk h hu hN
    have hr : Region.ready .any ops.toArray listed = [] := by
      cases hr : Region.ready .any ops.toArray listed with
      | nil => rfl
      | cons i l =>
        exfalso
        have hm : i ∈ Region.ready .any ops.toArray listed := by rw [hr]; exact .head _
        obtain ⟨h1, o, ho, _⟩ := mem_ready.1 hm
        have hi : i < ops.length := by simpa using (Array.getElem?_eq_some_iff.1 ho).1
        have : i ∈ (List.range ops.length).filter fun i => !Xof listed i := by
          refine List.mem_filter.2 ⟨List.mem_range.2 hi, ?_⟩
          have hlt : i < listed.size := by omega
          simp [hlt] at h1
          simp [Xof, hlt, h1]
        have hl := List.length_pos_of_mem this
        omega
    exact ⟨hr, hfull listed es st' g a w hsz hrun hk h hu hN hr⟩
  | succ fuel ih =>
    intro listed es st' g a w hsz hd hc hrun hro hk h hu hN
    refine ⟨fun hr => hfull listed es st' g a w hsz hrun hk h hu hN hr, fun i hi => ?_⟩
    obtain ⟨h1, o, ho', hpre⟩ := mem_ready.1 hi
    have ho : ops[i]? = some o := by simpa using ho'
    have hil : i < ops.length := (List.getElem?_eq_some_iff.1 ho).1
    have hxi : Xof listed i = false := by
      have hlt : i < listed.size := by omega
      simp [hlt] at h1
      simp [Xof, hlt, h1]
    have hafter : ∀ j oj, ops[j]? = some oj → i < j → Xof listed j = true → bfB (Region.before ops.toArray) i j = false := fun j oj hj hij hxj => by
      cases hb : bfB (Region.before ops.toArray) i j with
      | false => rfl
      | true => have := Dc.anc hs hd j i o oj ho hj hij hxj hb; rw [hxi] at this; cases this
    have hbefore : ∀ j oj, ops[j]? = some oj → j < i → Xof listed j = false → bfB (Region.before ops.toArray) j i = false := fun j oj hj hij hxj => by
      cases hb : bfB (Region.before ops.toArray) j i with
      | false => rfl
      | true =>
        obtain ⟨e, he, hbd, h2⟩ := hs.just j i oj o hj ho hij hb
        have hxe : Xof listed e.on = true := hpre e he hbd
        rcases h2 with h2 | ⟨h2, h3⟩
        · rw [h2] at hxe; rw [hxe] at hxj; cases hxj
        · have hlt := hs.lt i o ho e he hbd
          have := Dc.anc hs hd e.on j oj ops[e.on] hj (List.getElem?_eq_getElem (by omega)) h2 hxe h3
          rw [this] at hxj; cases hxj
    have hslot : ∀ (es : List EI) j t, j < ops.length → j ≠ i → ((i < j ∧ Xof listed j = true) ∨ (j < i ∧ Xof listed j = false)) → (t ∈ lookT ops o ∨ o.dst = some t) → Ws ops es j t = none := fun es j t hj hne hc' ht => by
      have hoj : ops[j]? = some ops[j] := List.getElem?_eq_getElem hj
      have key : ∀ d, ops[j].dst = some d → t ≠ d := fun d hdj htd => by
        subst htd
        rcases hc' with ⟨hlt, hx⟩ | ⟨hlt, hx⟩
        · obtain ⟨k1, k2, k3⟩ := apartT_spec (hs.apart i j o _ ho hoj hlt (hafter j _ hoj hlt hx))
          rcases ht with ht | ht
          · exact k3 t hdj ht
          · exact k2 t ht hdj
        · obtain ⟨k1, k2, k3⟩ := apartT_spec (hs.apart j i _ o hoj ho hlt (hbefore j _ hoj hlt hx))
          rcases ht with ht | ht
          · exact k1 t hdj ht
          · exact k2 t hdj ht
      have hg : gSlot ops j = ops[j].dst := by simp [gSlot, hoj]
      simp only [Ws, hg]
      cases hdj : ops[j].dst with
      | none => rfl
      | some d => simp only []; rw [if_neg (key d hdj)]
    have hroot : ∀ (es : List EI), es.length = ops.length → rootsOk ops n0 (accL 0 es []) = true → ∀ j, j < ops.length → j ≠ i → ((i < j ∧ Xof listed j = true) ∨ (j < i ∧ Xof listed j = false)) →
        (∀ n ∈ (es.getD j default).wr.map (·.1), n ∉ (es.getD i default).wr.map (·.1) ∧ n ∉ (es.getD i default).rd ∧ ¬ ((es.getD i default).old = true ∧ n < n0)) := fun es hle hro j hj hne hc' n hn => by
      have hdi : ∀ (k : Nat), k < ops.length → (⟨k, (es.getD k default).old, (es.getD k default).rd, (es.getD k default).wr.map (·.1)⟩ : DI) ∈ accL 0 es [] := fun k hk => by
        have hek : es[k]? = some es[k] := List.getElem?_eq_getElem (by omega)
        have := (accL_mem (es := es) (i := 0) (acc := [])).2 k _ hek
        simpa [List.getD, hek] using this
      have hoj : ops[j]? = some ops[j] := List.getElem?_eq_getElem hj
      rcases hc' with ⟨hlt, hx⟩ | ⟨hlt, hx⟩
      · exact (disj_symm (disj_spec (rootsOk_pair hro (hdi i hil) (hdi j hj) hlt (hafter j _ hoj hlt hx)))).1 n hn
      · exact (disj_spec (rootsOk_pair hro (hdi j hj) (hdi i hil) hlt (hbefore j _ hoj hlt hx))).1 n hn
    obtain ⟨o9, sti, acci, ei, ho9, hei, hss, hhh, hacci, hXi, hRi, hacc, hglue⟩ := pre (K := fun st acc => rootsOk ops n0 acc = true ∧ Kf st) (es := es) (S0 := lk st0.s) (H0 := lk st0.h) hil i ops 0 st0 [] es st' tg (by omega) rfl rfl (Nat.zero_le _) hrun hX rfl rfl (by simp)
    rw [ho] at ho9; injection ho9 with ho9; subst ho9
    have hlenes : es.length = ops.length := DRun.len hrun
    have hed : es.getD i default = ei := by simp [List.getD, hei]
    have h1' : ops.drop i = o :: ops.drop (i + 1) := by
      rw [List.drop_eq_getElem_cons hil]
      rw [List.getElem?_eq_getElem hil] at ho; injection ho with ho; rw [ho]
    have h2' : es.drop i = ei :: es.drop (i + 1) := by
      have hl' : i < es.length := by omega
      rw [List.drop_eq_getElem_cons hl']
      rw [List.getElem?_eq_getElem hl'] at hei; injection hei with hei; rw [hei]
    obtain ⟨hok, hRr⟩ : Ok1 P Φ N n0 ops o i sti ei ∧ DRun P Φ N n0 ops (ops.drop (i + 1)) (i + 1) (sti.eff o.dst ei.val ei.wr 0) (es.drop (i + 1)) st' := by
      rw [h1', h2'] at hRi
      cases hRi with
      | cons a b => exact ⟨a, b⟩
    rw [h1'] at hXi
    have hroi : rootsOk ops n0 (accL (i + 1) (es.drop (i + 1)) (⟨i, ei.old, ei.rd, ei.wr.map (·.1)⟩ :: acci)) = true := by
      rw [hacc, h2'] at hro; exact hro
    have hXY : ∀ j, j < i → Xof listed j ≠ allT j → Xof listed j = false := fun j _ hne => by
      cases hx : Xof listed j with
      | false => rfl
      | true => exact absurd hx hne
    have hSp : ∀ t d, resF (lookT ops o) (lk sti.s) t = some d → Fg (Ws ops es) (Xof listed) (lk st0.s) ops.length t = some d := fun t d ht => by
      simp only [resF] at ht
      split at ht
      · rename_i hm
        rw [memb_iff] at hm
        rw [hss] at ht
        rw [← ht]
        refine Fg_same _ (Nat.le_of_lt hil) (fun j hj hij hx => ?_) (fun j hj hne => ?_)
        · have hne : j ≠ i := fun e => by subst e; rw [hxi] at hx; cases hx
          exact hslot es j t hj hne (.inl ⟨by omega, hx⟩) (.inl hm)
        · exact hslot es j t (by omega) (by omega) (.inr ⟨hj, hXY j hj hne⟩) (.inl hm)
      · cases ht
    have hHp : ∀ n r, resH n0 (es.getD i default).old (es.getD i default).rd (lk sti.h) n = some r → Fg (Wh es) (Xof listed) (lk st0.h) ops.length n = some r := fun n r ht => by
      simp only [resH] at ht
      split at ht
      · rename_i hm
        rw [memb_iff] at hm
        rw [hhh] at ht
        rw [← ht]
        have hw : ∀ j, j < ops.length → j ≠ i → ((i < j ∧ Xof listed j = true) ∨ (j < i ∧ Xof listed j = false)) → Wh es j n = none := fun j hj hne hc' => wlk_none (fun hn => by
          obtain ⟨_, k2, k3⟩ := hroot es hlenes hro j hj hne hc' n hn
          rcases hm with hm | hm
          · exact k3 hm
          · exact k2 hm)
        refine Fg_same _ (Nat.le_of_lt hil) (fun j hj hij hx => ?_) (fun j hj hne => ?_)
        · have hne : j ≠ i := fun e => by subst e; rw [hxi] at hx; cases hx
          exact hw j hj hne (.inl ⟨by omega, hx⟩)
        · exact hw j (by omega) (by omega) (.inr ⟨hj, hXY j hj hne⟩)
      · cases ht
    have hX' : ∀ j, Xof (listed.setIfInBounds i true) j = if j = i then true else Xof listed j := fun j => by
      simp only [Xof, Array.getD_eq_getD_getElem?, Array.getElem?_setIfInBounds]
      by_cases e : i = j
      · subst e; simp [show i < listed.size by omega]
      · simp [e, Ne.symm e]
    have hbehind : ∀ (es2 : List EI), es2.length = ops.length → rootsOk ops n0 (accL 0 es2 []) = true → (∀ j, j < ops.length → Xof listed j = true → es2.getD j default = es.getD j default) →
        Fg (Ws ops es2) (Xof (listed.setIfInBounds i true)) (lk st0.s) ops.length = apS o.dst (es2.getD i default).val (Fg (Ws ops es) (Xof listed) (lk st0.s) ops.length) ∧
        Fg (Wh es2) (Xof (listed.setIfInBounds i true)) (lk st0.h) ops.length = apH (es2.getD i default).wr (Fg (Wh es) (Xof listed) (lk st0.h) ops.length) := fun es2 hl2 hro2 hsame => by
      have q1 : Fg (Ws ops es) (Xof listed) (lk st0.s) ops.length = Fg (Ws ops es2) (Xof listed) (lk st0.s) ops.length := Fg_ext _ (fun j hj hx => by funext t; simp only [Ws, hsame j hj hx])
      have q2 : Fg (Wh es) (Xof listed) (lk st0.h) ops.length = Fg (Wh es2) (Xof listed) (lk st0.h) ops.length := Fg_ext _ (fun j hj hx => by funext t; simp only [Wh, hsame j hj hx])
      rw [q1, q2]
      refine ⟨?_, ?_⟩
      · funext t
        have hg : gSlot ops i = o.dst := by simp [gSlot, ho]
        rw [Fg_add hX' hxi ops.length (fun j hj hij hx => by
          by_cases hw : Ws ops es2 i t = none
          · exact .inl hw
          · refine .inr (hslot es2 j t hj (by omega) (.inl ⟨hij, hx⟩) (.inr ?_))
            simp only [Ws, hg] at hw
            cases hd : o.dst with
            | none => simp [hd] at hw
            | some d =>
              simp only [hd] at hw
              by_cases e : t = d
              · rw [e]
              · rw [if_neg e] at hw; exact absurd rfl hw), if_pos hil]
        simp only [Ws, hg]
        cases hd : o.dst with
        | none => rfl
        | some d =>
          simp only [apS, upd]
          by_cases e : t = d
          · rw [if_pos e, if_pos e]
          · rw [if_neg e, if_neg e]
      · funext n
        rw [Fg_add hX' hxi ops.length (fun j hj hij hx => by
          by_cases hw : n ∈ (es2.getD i default).wr.map (·.1)
          · exact .inr (wlk_none (fun hn => (hroot es2 hl2 hro2 j hj (by omega) (.inl ⟨hij, hx⟩) n hn).1 hw))
          · exact .inl (wlk_none hw)), if_pos hil, apH_wlk]
        simp only [Wh]
        cases wlk (es2.getD i default).wr n <;> rfl
    have hsz' : (listed.setIfInBounds i true).size = ops.length := by simpa using hsz
    have hd' : Dc ops (Xof (listed.setIfInBounds i true)) := fun j oj hj hx e he hb => by
      rw [hX'] at hx ⊢
      by_cases e1 : e.on = i
      · rw [if_pos e1]
      · rw [if_neg e1]
        by_cases e2 : j = i
        · subst e2
          rw [ho] at hj; injection hj with hj; subst hj
          exact hpre e he hb
        · rw [if_neg e2] at hx; exact hd j oj hj hx e he hb
    have hc' : ((List.range ops.length).filter fun i_1 => !Xof (listed.setIfInBounds i true) i_1).length ≤ fuel := by
      have := count_drop (p := fun j => !Xof listed j) (q := fun j => !Xof (listed.setIfInBounds i true) j) (i := i) (fun j hj => by
        simp only [hX'] at hj
        by_cases e : j = i
        · simp [e] at hj
        · simpa [e] using hj) (by simp [hxi]) (by simp [hX']) (l := List.range ops.length) (List.mem_range.2 hil)
      omega
    have hnext : ∀ {es2 : List EI} {st2 : St} {g' : Gh} {a' : Act} {w' : World}, DRun P Φ N n0 ops ops 0 st0 es2 st2 → rootsOk ops n0 (accL 0 es2 []) = true → Kf st2 → (∀ j, j < ops.length → Xof listed j = true → es2.getD j default = es.getD j default) →
        (∀ m, g'.used m → g.used m ∨ (n0 + 8 * i ≤ m ∧ m < n0 + 8 * i + 8)) → Rel en g' (apS o.dst (es2.getD i default).val (Fg (Ws ops es) (Xof listed) (lk st0.s) ops.length)) (apH (es2.getD i default).wr (Fg (Wh es) (Xof listed) (lk st0.h) ops.length)) a' w' → a'.tmps.size = N →
        wpAny P .any ops.toArray Q fuel (listed.setIfInBounds i true) a' w' := fun {es2 st2 g' a' w'} r1 r2 r3 r4 k1 k2 k3 => by
      obtain ⟨b1, b2⟩ := hbehind es2 (DRun.len r1) r2 r4
      refine ih (listed.setIfInBounds i true) es2 st2 _ _ _ hsz' hd' hc' r1 r2 r3 (by rw [b1, b2]; exact k2) (fun m hm => ?_) k3
      rcases k1 m hm with hm | hm
      · rcases hu m hm with hm | ⟨j, h1, h2, h3⟩
        · exact .inl hm
        · exact .inr ⟨j, h1, by rw [hX']; split <;> simp [h2], h3⟩
      · exact .inr ⟨i, hil, by rw [hX']; simp, hm⟩
    have hdst : ∀ t, o.dst = some t → t < N := fun t ht => by have := hok.dst; rw [ht] at this; exact this
    have hgd : ∀ b, gOk ops sti.s o b → Region.wanted o (yielded ops.toArray a.tmps) = b := fun b hg => by
      unfold gOk at hg
      cases hgu : o.guard with
      | none => rw [hgu] at hg; simp only [] at hg; simp [Region.wanted, hgu, hg]
      | some jw =>
        obtain ⟨j, want⟩ := jw
        rw [hgu] at hg
        obtain ⟨t, ht, hg⟩ := hg
        have hlt : t ∈ lookT ops o := by simp [lookT, hgu, ht]
        rcases hg with ⟨b', hb', rfl⟩ | ⟨ds, hb', rfl⟩
        · have hv := hSp t _ (by simp only [resF]; rw [if_pos (memb_iff.2 hlt)]; exact hb')
          have hy := yielded_slot h ht hv
          simp [Region.wanted, hgu, hy]
        · have hv := hSp t _ (by simp only [resF]; rw [if_pos (memb_iff.2 hlt)]; exact hb')
          have hy := yielded_tup h ht hv
          simp [Region.wanted, hgu, hy]
    unfold wpOp
    simp only [ho']
    rcases hok.ei with ⟨hg, hee⟩ | ⟨hg, hee⟩
    · rw [if_pos (hgd true hg)]
      have hold : ei.old = isCallO o.op := by rw [hee]
      have hrd : ei.rd = rdX (lk sti.s) (lk sti.h) o.op := by rw [hee]
      rw [hed, hold, hrd] at hHp
      rcases hok.run with ⟨_, _, _, ⟨K', tg', hopR, hle⟩, _⟩ | ⟨hg', _⟩
      · refine .inl (Oper.wp_mono (fun a' w' hq => ?_) (opR_sound hΦ h hN hSp hHp hopR (fun val wr cnt hk' m hm hc => ?_) hdst))
        · obtain ⟨e, hXe, hKe, g', k1, k2, k3⟩ := hq
          rcases drX_step hXi with ⟨_, X2, hX2, _, hall2⟩ | ⟨hg2, _⟩
          · obtain ⟨hok2, hnew2⟩ := hall2 e (hXe X2 hX2)
            have hag : Ag ops (Xof listed) i i sti sti acci acci := ⟨fun _ _ => rfl, fun _ _ _ => rfl, hacci, hacci⟩
            obtain ⟨es2, st2, q1, ⟨q2, q2'⟩, q3, q4⟩ := par hs hd hxi (fun st acc hk => hk.1) _ (i + 1) _ _ _ _ _ st' tg rfl (by omega) hRr hroi hnew2 (hag.other ho hxi (Nat.le_refl _) ei ⟨e.val, e.wr, isCallO o.op, rdX (lk sti.s) (lk sti.h) o.op⟩)
            obtain ⟨r1, r2⟩ := hglue (⟨e.val, e.wr, isCallO o.op, rdX (lk sti.s) (lk sti.h) o.op⟩ :: es2) st2 (by rw [h1']; exact .cons hok2 q1)
            simp only [List.drop_zero, Nat.sub_zero] at r1 r2
            have hti : (es.take i).length = i := by rw [List.length_take]; omega
            have hgi : (es.take i ++ (⟨e.val, e.wr, isCallO o.op, rdX (lk sti.s) (lk sti.h) o.op⟩ : EI) :: es2).getD i default = ⟨e.val, e.wr, isCallO o.op, rdX (lk sti.s) (lk sti.h) o.op⟩ := by
              simp [List.getD, List.getElem?_append_right (show (es.take i).length ≤ i by omega), hti]
            refine hnext r1 (by rw [r2]; exact q2) q2' (fun j hj hx => ?_) (fun m hm => (k1 m hm).imp id (fun h => ⟨h.1, by have := hle _ _ _ hKe; omega⟩)) (by rw [hgi]; exact k2) k3
            have hji : j ≠ i := fun e => by subst e; rw [hxi] at hx; cases hx
            by_cases hlt : j < i
            · simp only [List.getD]
              rw [List.getElem?_append_left (by omega), List.getElem?_take, if_pos hlt]
            · have hej : es[j]? = some es[j] := List.getElem?_eq_getElem (by omega)
              have h9 : (es.drop (i + 1))[j - (i + 1)]? = some es[j] := by rw [List.getElem?_drop, show i + 1 + (j - (i + 1)) = j by omega]; exact hej
              have h8 := q4 (j - (i + 1)) es[j] (by rw [show i + 1 + (j - (i + 1)) = j by omega]; exact hx) h9
              simp only [List.getD]
              rw [List.getElem?_append_right (by omega), hti, show j - i = (j - (i + 1)) + 1 by omega, List.getElem?_cons_succ, h8, hej]
          · exact (gOk_one hg hg2).elim
        · have := hle _ _ _ hk'
          rcases hu m hm with hm | ⟨j, h1, h2, h3, h4⟩
          · omega
          · have : j = i := by omega
            subst this; rw [hxi] at h2; cases h2
      · exact (gOk_one hg hg').elim
    · rw [if_neg (by rw [hgd false hg]; simp)]
      refine hnext hrun hro hk (fun j _ _ => rfl) (fun m hm => .inl hm) ?_ ((put_size _ _ _).trans hN)
      rw [hed, hee]
      exact h.putD (fun t ht => by rw [hN]; exact hdst t ht) DV.undef
end order
end Go.SX
set_option linter.unusedVariables false
set_option linter.unusedSimpArgs false
namespace Go.SX
open Go Go.RowKit
variable {en : En} {g : Gh} {S : Nat → Option D} {H : Nat → Option Root} {a : Act} {w : World} {P : Program}
def mapC1 (f : Nat → Nat) : C → C
  | .view n sz lo len => .view (f n) sz lo len
  | .ptr n sz i off => .ptr (f n) sz i off
  | c => c
def mapC (f : Nat → Nat) : C → C
  | .view n sz lo len => .view (f n) sz lo len
  | .ptr n sz i off => .ptr (f n) sz i off
  | .fn k caps => .fn k (caps.map (mapC1 f))
  | c => c
def NmC1 (H : Nat → Option Root) : C → Prop
  | .view n _ _ _ => (H n).isSome = true
  | .ptr n _ _ _ => (H n).isSome = true
  | .fn _ caps => caps = []
  | _ => True
def NmC (H : Nat → Option Root) : C → Prop
  | .view n _ _ _ => (H n).isSome = true
  | .ptr n _ _ _ => (H n).isSome = true
  | .fn _ caps => ∀ c ∈ caps, NmC1 H c
  | _ => True
def mapD (f : Nat → Nat) : D → D
  | .c x => .c (mapC f x)
  | .agg xs => .agg (xs.map (mapC f))
  | d => d
def NmD (H : Nat → Option Root) : D → Prop
  | .c x => NmC H x
  | .agg xs => ∀ x ∈ xs, NmC H x
  | .tup _ => False
def mapTt (f : Nat → Nat) : T → T
  | .lent n sz len => .lent (f n) sz len
  | t => t
def NmT (H : Nat → Option Root) : T → Prop
  | .lent n _ _ => (H n).isSome = true
  | .own _ rows => ∀ r ∈ rows, ∀ t ∈ r, Mv false t
  | _ => True
def mapB (f : Nat → Nat) : B → B
  | .t x => .t (mapTt f x)
  | .v x => .v (mapC f x)
def NmB (H : Nat → Option Root) : B → Prop
  | .t x => NmT H x
  | .v x => NmC H x
def mapR (f : Nat → Nat) : Root → Root
  | .box cells => .box (cells.map (mapB f))
  | .arr sz rows => .arr sz (rows.map (fun r => r.map (mapTt f)))
def NmR (H : Nat → Option Root) : Root → Prop
  | .box cells => ∀ x ∈ cells, NmB H x
  | .arr _ rows => ∀ r ∈ rows, ∀ t ∈ r, NmT H t
theorem mapR_get {f : Nat → Nat} {r : Root} {i j : Nat} {x : B} (h : r.get i j = some x) : (mapR f r).get i j = some (mapB f x) := by
  cases r with
  | box cells => cases i <;> simp_all [Root.get, mapR]
  | arr sz rows =>
    simp only [Root.get] at h
    cases hr : rows[i]? with
    | none => simp [hr] at h
    | some row =>
      simp only [hr, Option.map_eq_some_iff] at h
      obtain ⟨y, hy, rfl⟩ := h
      simp [Root.get, mapR, hr, hy, mapB]
theorem NmR_get {r : Root} (hm : NmR H r) {i j : Nat} {x : B} (h : r.get i j = some x) : NmB H x := by
  cases r with
  | box cells =>
    cases i with
    | zero => exact hm x (List.mem_of_getElem? (by simpa [Root.get] using h))
    | succ i => simp [Root.get] at h
  | arr sz rows =>
    simp only [Root.get] at h
    cases hr : rows[i]? with
    | none => simp [hr] at h
    | some row =>
      simp only [hr, Option.map_eq_some_iff] at h
      obtain ⟨y, hy, rfl⟩ := h
      exact hm row (List.mem_of_getElem? hr) y (List.mem_of_getElem? hy)
open Classical in
noncomputable def Gh.rn (g : Gh) (U : Nat → Prop) (f : Nat → Nat) : Gh :=
  { used := U, rb := fun n => g.rb (f n), base := fun n => g.base (f n), rc := fun n => g.rc (f n), fz := g.fz
    own := fun b => match g.own b with
      | some (m, p) => if h : ∃ n, U n ∧ f n = m then some (Classical.choose h, p) else none
      | none => none }
theorem Gh.rn_own {U : Nat → Prop} {f : Nat → Nat} (hinj : ∀ n m, U n → U m → f n = f m → n = m) {b n : Nat} {p : Pth} (hn : U n) (h : g.own b = some (f n, p)) : (g.rn U f).own b = some (n, p) := by
  have hex : ∃ n', U n' ∧ f n' = f n := ⟨n, hn, rfl⟩
  simp only [Gh.rn, h]
  rw [dif_pos hex]
  have := Classical.choose_spec hex
  rw [hinj _ _ this.1 hn this.2]
theorem Gh.rn_none {U : Nat → Prop} {f : Nat → Nat} {b : Nat} (h : g.own b = none) : (g.rn U f).own b = none := by simp only [Gh.rn, h]
theorem CV.rn1 {U : Nat → Prop} {f : Nat → Nat} (hU : ∀ n, (H n).isSome = true → U n) {c : C} {v : Value} (hn : NmC1 H c) (h : CV g (mapC1 f c) v) : CV (g.rn U f) c v := by
  cases c with
  | im i => cases h with | im _ _ hi => exact .im _ _ hi
  | nil => cases h; exact .nil
  | view n sz lo len =>
    have hu := hU n hn
    simp only [mapC1] at h
    cases h with
    | view0 _ _ _ A _ => exact .view0 _ _ _ A hu
    | view _ _ _ _ cap _ hb hl hc => exact CV.view (g := g.rn U f) n sz lo len cap hu hb hl hc
  | ptr n sz i off =>
    simp only [mapC1] at h
    cases h with | ptr _ _ _ _ _ => exact CV.ptr (g := g.rn U f) n sz i off (hU n hn)
  | iptr row off => cases h with | iptr _ _ b o vs hx hr => exact .iptr row off b o vs hx hr
  | fn k caps =>
    simp only [NmC1] at hn
    subst hn
    cases h with | fn _ _ vs hs hr => exact .fn k [] vs hs (fun j x v hj => by simp at hj)
theorem CV.rn {U : Nat → Prop} {f : Nat → Nat} (hU : ∀ n, (H n).isSome = true → U n) {c : C} {v : Value} (hn : NmC H c) (h : CV g (mapC f c) v) : CV (g.rn U f) c v := by
  cases c with
  | fn k caps =>
    simp only [mapC] at h
    cases h with
    | fn _ _ vs hs hr =>
      refine .fn k caps vs (by simpa using hs) (fun j x v hj hv => ?_)
      exact CV.rn1 hU (hn x (List.mem_of_getElem? hj)) (hr j (mapC1 f x) v (by simp [hj]) hv)
  | im i => exact CV.rn1 (c := .im i) hU trivial h
  | nil => exact CV.rn1 (c := .nil) hU trivial h
  | view n sz lo len => exact CV.rn1 (c := .view n sz lo len) hU hn h
  | ptr n sz i off => exact CV.rn1 (c := .ptr n sz i off) hU hn h
  | iptr row off => exact CV.rn1 (c := .iptr row off) hU trivial h
theorem DV.rn {U : Nat → Prop} {f : Nat → Nat} (hU : ∀ n, (H n).isSome = true → U n) {d : D} {v : Value} (hn : NmD H d) (h : DV g (mapD f d) v) : DV (g.rn U f) d v := by
  cases d with
  | c x => cases h with | c _ _ hc => exact .c _ _ (hc.rn hU hn)
  | agg xs =>
    simp only [mapD] at h
    cases h with
    | agg _ vs hs hr => exact .agg _ _ (by simpa using hs) (fun j x v hj hv => (hr j (mapC f x) v (by simp [hj]) hv).rn hU (hn x (List.mem_of_getElem? hj)))
  | tup ds => exact hn.elim
theorem Rel.rename (h : Rel en g S H a w) (f : Nat → Nat) {S' : Nat → Option D} {H' : Nat → Option Root} (hp : ∀ k, en.g0.used k → f k = k)
    (hinj : ∀ n m r r', H' n = some r → H' m = some r' → f n = f m → n = m) (hinjp : ∀ n r k, H' n = some r → en.g0.used k → f n = k → n = k)
    (hs : ∀ t d, S' t = some d → S t = some (mapD f d) ∧ NmD H' d)
    (hh : ∀ n r, H' n = some r → (H (f n) = some r ∧ MvR false r) ∨ (H (f n) = some (mapR f r) ∧ NmR H' r)) :
    ∃ g', (∀ m, g'.used m → en.g0.used m ∨ ∃ r, H' m = some r) ∧ Rel en g' S' H' a w := by
  let U : Nat → Prop := fun m => en.g0.used m ∨ ∃ r, H' m = some r
  have hU : ∀ n, (H' n).isSome = true → U n := fun n hn => .inr (Option.isSome_iff_exists.1 hn)
  have hi : ∀ n m, U n → U m → f n = f m → n = m := by
    rintro n m (hn | ⟨r, hn⟩) (hm | ⟨r', hm⟩) e
    · rw [hp n hn, hp m hm] at e; exact e
    · rw [hp n hn] at e; exact (hinjp m r' n hm hn e.symm).symm
    · rw [hp m hm] at e; exact hinjp n r m hn hm e
    · exact hinj n m r r' hn hm e
  refine ⟨g.rn U f, fun m hm => hm, ⟨⟨h.fr.os, h.fr.tape, h.fr.output, h.fr.size, ⟨fun n hn => .inl hn, fun n hn => ?_, fun n hn => ?_, fun n hn => ?_, h.fr.gle.fz⟩, fun b hb ho => ?_, fun b k hb => ?_, h.fr.fzn⟩, h.df, fun b x hx => ?_, fun b o v hv => ?_, fun t d ht => ?_, fun n r hn => ?_, fun n r b hn hb => ?_⟩⟩
  · simp only [Gh.rn]; rw [hp n hn]; exact h.fr.gle.rb n hn
  · simp only [Gh.rn]; rw [hp n hn]; exact h.fr.gle.base n hn
  · simp only [Gh.rn]; rw [hp n hn]; exact h.fr.gle.rc n hn
  · obtain ⟨h1, h2⟩ := h.fr.old b hb ho; exact ⟨Gh.rn_none h1, h2⟩
  · obtain ⟨h0, h1, h2⟩ := h.fr.place b k hb
    exact ⟨h0, Gh.rn_own hi (.inl h0) (by rw [hp k h0]; exact h1), h2⟩
  · cases ho : g.own b with
    | none => rw [Gh.rn_none ho] at hx; cases hx
    | some y => exact h.lt b y ho
  · obtain ⟨h1, h2⟩ := h.fz b o v hv; exact ⟨h1, Gh.rn_none h2⟩
  · obtain ⟨h1, h2⟩ := hs t d ht
    obtain ⟨v, hv, hd⟩ := h.slots t _ h1
    exact ⟨v, hv, hd.rn hU h2⟩
  · have hUn : U n := .inr ⟨r, hn⟩
    refine ⟨hUn, ?_⟩
    rcases hh n r hn with ⟨h1, h2⟩ | ⟨h1, h2⟩
    · exact RootR.mv (g := g) (n := f n) (g' := g.rn U f) h2 (fun _ _ _ _ h => h) rfl rfl rfl (h.roots _ _ h1).2 (fun ho => Gh.rn_own hi hUn ho) (fun b x p ho => Gh.rn_own hi hUn ho)
    · obtain ⟨hu, hR⟩ := h.roots _ _ h1
      generalize hr' : mapR f r = r' at hR
      cases hR with
      | mk _ cs e hh' ho hf hr =>
        subst hr'
        have hsz : (mapR f r).sz = r.sz := by cases r <;> rfl
        refine .mk r cs e hh' (Gh.rn_own hi hUn ho) ?_ (fun i j x hx => ?_)
        · cases r with
          | box cells => exact trivial
          | arr sz rows =>
            obtain ⟨f1, f2, f3, f4⟩ := hf
            refine ⟨f1, f2, by simp at f3; exact f3, fun i r hr2 => ?_⟩
            have := f4 i (r.map (mapTt f)) (by simp [hr2])
            simpa using this
        · obtain ⟨v, hv, hb⟩ := hr i j _ (mapR_get hx)
          rw [hsz] at hv
          refine ⟨v, hv, ?_⟩
          have hnm := NmR_get h2 hx
          cases x with
          | t x =>
            simp only [mapB] at hb
            refine .t _ _ ?_
            cases hb with
            | t _ _ ht =>
              cases x with
              | im i => cases ht with | im _ _ _ hi' => exact .im _ _ _ hi'
              | nil => cases ht; exact .nil _
              | dead => exact .dead _ _
              | own sz rows =>
                simp only [mapTt] at ht
                exact TR.mv (g := g) (g' := g.rn U f) (n := f n) (.own sz rows hnm) (fun _ _ _ _ h => h) ht (fun b p hp' => Gh.rn_own hi hUn hp')
              | lent m sz len =>
                simp only [mapTt] at ht
                cases ht with | lent _ _ _ _ _ hc => exact .lent _ _ _ _ _ (CV.rn (c := .view m sz 0 len) hU hnm hc)
          | v x =>
            simp only [mapB] at hb
            cases hb with | v _ _ hc => exact .v _ _ (hc.rn hU hnm)
      | arr0 sz hs0 hc =>
        cases r with
        | box cells => simp [mapR] at hr'
        | arr sz' rows =>
          simp only [mapR, Root.arr.injEq, List.map_eq_nil_iff] at hr'
          obtain ⟨rfl, rfl⟩ := hr'
          exact .arr0 _ hs0 hc
  · have h0 := (h.fr.place b n hb).1
    have hfn := hp n h0
    rcases hh n r hn with ⟨h1, h2⟩ | ⟨h1, h2⟩
    · rw [hfn] at h1; exact h.wd n r b h1 hb
    · rw [hfn] at h1
      obtain ⟨c, hc, hl⟩ := h.wd n _ b h1 hb
      cases r with
      | box cells => simp only [mapR, Root.box.injEq] at hc; subst hc; exact ⟨cells, rfl, by simpa using hl⟩
      | arr sz rows => simp [mapR] at hc
end Go.SX
set_option linter.unusedVariables false
set_option linter.unusedSimpArgs false
namespace Go.SX
open Go Go.RowKit
variable {en : En} {g : Gh} {S : Nat → Option D} {H : Nat → Option Root} {a : Act} {w : World} {P : Program}
def rho : List (Nat × Option Root) → List Nat → Nat → Nat
  | (k, _) :: h, m :: ρ, n => if n = k then m else rho h ρ n
  | _, _, n => n
def reF (pn : Nat) (h : List (Nat × Option Root)) (ρ : List Nat) : Nat → Nat := fun n => if n < pn then n else rho h ρ n
def sOk (S : Nat → Option D) (H' : Nat → Option Root) (f : Nat → Nat) : List (Nat × Option D) → Prop
  | [] => True
  | (_, none) :: r => sOk S H' f r
  | (t, some d) :: r => S t = some (mapD f d) ∧ NmD H' d ∧ sOk S H' f r
def hOk (H H' : Nat → Option Root) (f : Nat → Nat) : List (Nat × Option Root) → Prop
  | [] => True
  | (_, none) :: r => hOk H H' f r
  | (n, some x) :: r => ((H (f n) = some x ∧ MvR false x) ∨ (H (f n) = some (mapR f x) ∧ NmR H' x)) ∧ hOk H H' f r
def nms : List (Nat × Option Root) → List Nat
  | [] => []
  | (_, none) :: r => nms r
  | (n, some _) :: r => n :: nms r
def subOk (pn : Nat) (st st' : St) (ρ : List Nat) : Prop :=
  sOk (lk st.s) (lk st'.h) (reF pn st'.h ρ) st'.s ∧ hOk (lk st.h) (lk st'.h) (reF pn st'.h ρ) st'.h ∧ ((nms st'.h).map (reF pn st'.h ρ)).Nodup ∧ (∀ n ∈ nms st'.h, pn ≤ n → pn ≤ reF pn st'.h ρ n) ∧ pn ≤ st'.n ∧ (∀ n ∈ nms st'.h, n < st'.n)
inductive Fl where
  | s (t : Nat)
  | a (t j : Nat)
  | b (m i j : Nat)
def frC (o : Option Nat) (sz len : Nat) (is : List (List I)) : C → Option C
  | .view n' sz' lo l => match o with
    | some n => if n' = n ∧ sz' = sz ∧ lo = 0 ∧ l = len then some (.im (.sl sz is)) else none
    | none => none
  | .nil => match o with
    | none => some (.im (.sl sz []))
    | some _ => none
  | _ => none
def frT (o : Option Nat) (sz len : Nat) (is : List (List I)) : T → Option T
  | .lent n' sz' l => match o with
    | some n => if n' = n ∧ sz' = sz ∧ l = len then some (.im (.sl sz is)) else none
    | none => none
  | .nil => match o with
    | none => some (.im (.sl sz []))
    | some _ => none
  | _ => none
def frzLs (o : Option Nat) (sz len : Nat) (is : List (List I)) : List Fl → St → Option St
  | [], st => some st
  | .s t :: ls, st => match lk st.s t with
    | some (.c c) => match frC o sz len is c with
      | some c' => frzLs o sz len is ls ⟨(t, some (.c c')) :: st.s, st.h, st.n⟩
      | none => none
    | _ => none
  | .a t j :: ls, st => match lk st.s t with
    | some (.agg cs) => match cs[j]? with
      | some c => match frC o sz len is c with
        | some c' => frzLs o sz len is ls ⟨(t, some (.agg (cs.set j c'))) :: st.s, st.h, st.n⟩
        | none => none
      | none => none
    | _ => none
  | .b m i j :: ls, st => match lk st.h m with
    | some r => match r.get i j with
      | some (.t x) => match frT o sz len is x with
        | some x' => frzLs o sz len is ls ⟨st.s, ins m (some (r.setT i j x')) st.h, st.n⟩
        | none => none
      | _ => none
    | none => none
inductive Wk where
  | fold (n i j : Nat)
  | nilT (n i j sz : Nat)
  | nilS (t sz : Nat)
  | unf (n i j : Nat)
  | nilA (t j sz : Nat)
  | frz (n : Nat) (ls : List Fl)
  | nilI (sz : Nat) (ls : List Fl)
def wk1 (pn : Nat) (st : St) : Wk → Option St
  | .fold n i j => match lk st.h n with
    | some r => match r.get i j with
      | some (.t (.lent m sz len)) => match lk st.h m with
        | some (.arr sz' rows) => if sz' = sz ∧ rows.length = len ∧ m ≠ n ∧ pn ≤ m then some ⟨st.s, ins n (some (r.setT i j (.own sz rows))) (ins m none st.h), st.n⟩ else none
        | _ => none
      | _ => none
    | none => none
  | .nilT n i j sz => match lk st.h n with
    | some r => match r.get i j with
      | some (.t .nil) => some ⟨st.s, ins n (some (r.setT i j (.own sz []))) st.h, st.n⟩
      | _ => none
    | none => none
  | .nilS t sz => match lk st.s t with
    | some (.c .nil) => if 0 < sz ∧ pn ≤ st.n then some ⟨(t, some (.c (.view st.n sz 0 0))) :: st.s, ins st.n (some (.arr sz [])) st.h, st.n + 1⟩ else none
    | _ => none
  | .unf n i j => match lk st.h n with
    | some r => match r.get i j with
      | some (.t (.own sz rows)) => if 0 < sz then some ⟨st.s, ins st.n (some (.arr sz rows)) (ins n (some (r.setT i j (.lent st.n sz rows.length))) st.h), st.n + 1⟩ else none
      | _ => none
    | none => none
  | .nilA t j sz => match lk st.s t with
    | some (.agg cs) => match cs[j]? with
      | some .nil => if 0 < sz then some ⟨(t, some (.agg (cs.set j (.view st.n sz 0 0)))) :: st.s, ins st.n (some (.arr sz [])) st.h, st.n + 1⟩ else none
      | _ => none
    | _ => none
  | .frz n ls => match lk st.h n with
    | some (.arr sz rows) => match mapO (mapO imT) rows with
      | some is => frzLs (some n) sz rows.length is ls ⟨st.s, ins n none st.h, st.n⟩
      | none => none
    | _ => none
  | .nilI sz ls => frzLs none sz 0 [] ls st
def folds (pn : Nat) : List Wk → St → Option St
  | [], st => some st
  | f :: fs, st => match wk1 pn st f with
    | some st' => folds pn fs st'
    | none => none
def subF (pn : Nat) (st st' : St) (fs : List Wk) (ρ : List Nat) : Prop := match folds pn fs st with
  | some st1 => subOk pn st1 st' ρ
  | none => False
def Sub (pn : Nat) (st st' : St) : Prop := ∃ fs ρ, subF pn st st' fs ρ
theorem Rel.nilT (h : Rel en g S H a w) {n i j sz : Nat} {r : Root} (hn : H n = some r) (hc : r.get i j = some (.t .nil)) : Rel en g S (upd H n (some (r.setT i j (.own sz [])))) a w := by
  refine ⟨h.fr, h.df, h.lt, h.fz, h.slots, fun k r1 hk => ?_, fun k r1 b hk hb => ?_⟩
  · unfold upd at hk
    by_cases e : k = n
    · subst e
      rw [if_pos rfl] at hk
      injection hk with hk
      subst hk
      obtain ⟨hu, hR⟩ := h.roots k r hn
      refine ⟨hu, ?_⟩
      cases hR with
      | mk r cs e hh ho hf hr =>
        refine .mk _ cs e hh ho (Root.setT_form i j _ hf) (fun i' j' x hx => ?_)
        rw [Root.setT_sz]
        rw [Root.setT_get _ hc] at hx
        split at hx
        · rename_i he
          obtain ⟨rfl, rfl⟩ := he
          injection hx with hx
          subst hx
          obtain ⟨v, hv, hb⟩ := hr i' j' _ hc
          refine ⟨v, hv, .t _ _ ?_⟩
          cases hb with
          | t _ _ ht => cases ht; exact .own0 _ _ _
        · exact hr i' j' x hx
      | arr0 sz hs hc0 => simp [Root.get] at hc
    · rw [if_neg e] at hk
      exact h.roots k r1 hk
  · unfold upd at hk
    by_cases e : k = n
    · subst e
      rw [if_pos rfl] at hk
      injection hk with hk
      subst hk
      obtain ⟨c0, rfl, hl⟩ := h.wd k r b hn hb
      obtain ⟨c1, h1, h2⟩ := Root.setT_box c0 i j (.own sz [])
      exact ⟨c1, h1, by rw [h2]; exact hl⟩
    · rw [if_neg e] at hk; exact h.wd k r1 b hk hb
theorem Rel.cellT (h : Rel en g S H a w) {n i j : Nat} {r : Root} {x x' : T} (hn : H n = some r) (hc : r.get i j = some (.t x)) (hx0 : ∀ v, TR w g n [(i, j)] x v → TR w g n [(i, j)] x' v) : Rel en g S (upd H n (some (r.setT i j x'))) a w := by
  refine ⟨h.fr, h.df, h.lt, h.fz, h.slots, fun k r1 hk => ?_, fun k r1 b hk hb => ?_⟩
  · unfold upd at hk
    by_cases e : k = n
    · subst e
      rw [if_pos rfl] at hk
      injection hk with hk
      subst hk
      obtain ⟨hu, hR⟩ := h.roots k r hn
      refine ⟨hu, ?_⟩
      cases hR with
      | mk r cs e hh ho hf hr =>
        refine .mk _ cs e hh ho (Root.setT_form i j _ hf) (fun i' j' x hx => ?_)
        rw [Root.setT_sz]
        rw [Root.setT_get _ hc] at hx
        split at hx
        · rename_i he
          obtain ⟨rfl, rfl⟩ := he
          injection hx with hx
          subst hx
          obtain ⟨v, hv, hb⟩ := hr i' j' _ hc
          refine ⟨v, hv, .t _ _ ?_⟩
          cases hb with
          | t _ _ ht => exact hx0 v ht
        · exact hr i' j' x hx
      | arr0 sz hs hc0 => simp [Root.get] at hc
    · rw [if_neg e] at hk
      exact h.roots k r1 hk
  · unfold upd at hk
    by_cases e : k = n
    · subst e
      rw [if_pos rfl] at hk
      injection hk with hk
      subst hk
      obtain ⟨c0, rfl, hl⟩ := h.wd k r b hn hb
      obtain ⟨c1, h1, h2⟩ := Root.setT_box c0 i j x'
      exact ⟨c1, h1, by rw [h2]; exact hl⟩
    · rw [if_neg e] at hk; exact h.wd k r1 b hk hb
def frO (g : Gh) (o : Option Nat) (sz len : Nat) (is : List (List I)) : Prop := match o with
  | some n => ∀ v, CV g (.view n sz 0 len) v → CV g (.im (.sl sz is)) v
  | none => True
theorem frC_sound {o : Option Nat} {sz len : Nat} {is : List (List I)} (h : frO g o sz len is) {c c' : C} (hc : frC o sz len is c = some c') {v : Value} (hv : CV g c v) : CV g c' v := by
  cases c with
  | view n' sz' lo l =>
    cases o with
    | none => simp [frC] at hc
    | some n =>
      simp only [frC] at hc
      split at hc
      · rename_i e
        obtain ⟨rfl, rfl, rfl, rfl⟩ := e
        injection hc with hc
        subst hc
        exact h v hv
      · cases hc
  | nil =>
    cases o with
    | some n => simp [frC] at hc
    | none =>
      simp only [frC, Option.some.injEq] at hc
      subst hc
      cases hv
      exact .im _ _ (.sl0 _ _ _)
  | im i => simp [frC] at hc
  | ptr _ _ _ _ => simp [frC] at hc
  | iptr _ _ => simp [frC] at hc
  | fn _ _ => simp [frC] at hc
theorem frT_sound {o : Option Nat} {sz len : Nat} {is : List (List I)} (h : frO g o sz len is) {x x' : T} (hc : frT o sz len is x = some x') {n : Nat} {q : Pth} {v : Value} (hv : TR w g n q x v) : TR w g n q x' v := by
  cases x with
  | lent n' sz' l =>
    cases o with
    | none => simp [frT] at hc
    | some n0 =>
      simp only [frT] at hc
      split at hc
      · rename_i e
        obtain ⟨rfl, rfl, rfl⟩ := e
        injection hc with hc
        subst hc
        cases hv with
        | lent _ _ _ _ _ hv => cases h v hv with | im _ _ hi => exact .im _ _ _ hi
      · cases hc
  | nil =>
    cases o with
    | some n0 => simp [frT] at hc
    | none =>
      simp only [frT, Option.some.injEq] at hc
      subst hc
      cases hv
      exact .im _ _ _ (.sl0 _ _ _)
  | im i => simp [frT] at hc
  | dead => simp [frT] at hc
  | own _ _ => simp [frT] at hc
theorem frzLs_sound {o : Option Nat} {sz len : Nat} {is : List (List I)} (hO : frO g o sz len is) : ∀ {ls : List Fl} {st st' : St}, Rel en g (lk st.s) (lk st.h) a w → frzLs o sz len is ls st = some st' → Rel en g (lk st'.s) (lk st'.h) a w ∧ st'.n = st.n
  | [], st, st', hR, hf => by simp only [frzLs, Option.some.injEq] at hf; subst hf; exact ⟨hR, rfl⟩
  | .s t :: ls, st, st', hR, hf => by
    simp only [frzLs] at hf
    split at hf
    · rename_i c ht
      split at hf
      · rename_i c' hc
        refine frzLs_sound hO (ls := ls) (st := ⟨(t, some (.c c')) :: st.s, st.h, st.n⟩) ?_ hf
        simp only []
        rw [lk_cons]
        refine hR.moreS (fun t' d hd => ?_)
        simp only [upd] at hd
        split at hd
        · rename_i e
          subst e
          injection hd with hd
          subst hd
          obtain ⟨v, hv, hdv⟩ := hR.slots t' _ ht
          refine ⟨v, hv, ?_⟩
          cases hdv with | c _ _ h => exact .c _ _ (frC_sound hO hc h)
        · exact hR.slots t' d hd
      · cases hf
    · cases hf
  | .a t j :: ls, st, st', hR, hf => by
    simp only [frzLs] at hf
    split at hf
    · rename_i cs ht
      split at hf
      · rename_i c hj
        split at hf
        · rename_i c' hc
          refine frzLs_sound hO (ls := ls) (st := ⟨(t, some (.agg (cs.set j c'))) :: st.s, st.h, st.n⟩) ?_ hf
          simp only []
          rw [lk_cons]
          refine hR.moreS (fun t' d hd => ?_)
          simp only [upd] at hd
          split at hd
          · rename_i e
            subst e
            injection hd with hd
            subst hd
            obtain ⟨v, hv, hdv⟩ := hR.slots t' _ ht
            refine ⟨v, hv, ?_⟩
            cases hdv with
            | agg _ vs hsz hr =>
              refine .agg _ vs (by simp [hsz]) (fun j' x v' hx hv' => ?_)
              by_cases e : j = j'
              · subst e
                have hlt : j < cs.length := (List.getElem?_eq_some_iff.1 hj).1
                rw [List.getElem?_set_self hlt] at hx
                injection hx with hx
                subst hx
                exact frC_sound hO hc (hr j _ v' hj hv')
              · rw [List.getElem?_set_ne e] at hx
                exact hr j' x v' hx hv'
          · exact hR.slots t' d hd
        · cases hf
      · cases hf
    · cases hf
  | .b m i j :: ls, st, st', hR, hf => by
    simp only [frzLs] at hf
    split at hf
    · rename_i r hm
      split at hf
      · rename_i x hx
        split at hf
        · rename_i x' hc
          refine frzLs_sound hO (ls := ls) (st := ⟨st.s, ins m (some (r.setT i j x')) st.h, st.n⟩) ?_ hf
          simp only []
          rw [lk_ins]
          exact hR.cellT hm hx (fun v hv => frT_sound hO hc hv)
        · cases hf
      · cases hf
    · cases hf
theorem wk1_sound {N pn : Nat} (hpn : ∀ n, en.g0.used n → n < pn) {st st' : St} {f : Wk} (hR : RelS en N st a w) (hf : wk1 pn st f = some st') : RelS en N st' a w := by
  obtain ⟨g, hu, hR, hN⟩ := hR
  cases f with
  | fold n i j =>
    simp only [wk1] at hf
    split at hf
    · rename_i r hr
      split at hf
      · rename_i m sz len hc
        split at hf
        · rename_i sz' rows hm
          split at hf
          · rename_i hcc
            obtain ⟨rfl, rfl, hmn, hp⟩ := hcc
            injection hf with hf
            subst hf
            have := hR.fold hr hm hmn hc
            refine ⟨g.into m n [(i, j)], hu, ?_, hN⟩
            simp only []
            rw [lk_ins, lk_ins]
            exact this
          · cases hf
        · cases hf
      · cases hf
    · cases hf
  | nilT n i j sz =>
    simp only [wk1] at hf
    split at hf
    · rename_i r hr
      split at hf
      · rename_i hc
        injection hf with hf
        subst hf
        refine ⟨g, hu, ?_, hN⟩
        simp only []
        rw [lk_ins]
        exact hR.nilT hr hc
      · cases hf
    · cases hf
  | nilS t sz =>
    simp only [wk1] at hf
    split at hf
    · rename_i ht
      split at hf
      · rename_i hcc
        injection hf with hf
        subst hf
        have hnu : ¬ g.used st.n := fun hm => by have := hu _ hm; omega
        obtain ⟨g', k1, k2, k3, k4⟩ := hR.new0 hnu hcc.1 st.n
        refine ⟨g', fun m hm => ?_, ?_, hN⟩
        · rcases k3 m hm with e | hm
          · simp only []; omega
          · have := hu m hm; simp only []; omega
        · simp only []
          rw [lk_ins, lk_cons]
          have e1 : upd (upd (lk st.h) st.n none) st.n (some (.arr sz [])) = upd (lk st.h) st.n (some (.arr sz [])) := by
            funext m; simp only [upd]; split <;> rfl
          rw [e1] at k4
          refine k4.moreS (fun t' d hd => ?_)
          simp only [upd] at hd
          split at hd
          · rename_i e
            subst e
            injection hd with hd
            subst hd
            obtain ⟨v, hv, hdv⟩ := k4.slots t' _ ht
            refine ⟨v, hv, .c _ _ ?_⟩
            cases hdv with | c _ _ hc => cases hc; exact .view0 _ _ _ _ k2
          · exact k4.slots t' d hd
      · cases hf
    · cases hf
  | unf n i j =>
    simp only [wk1] at hf
    split at hf
    · rename_i r hr
      split at hf
      · rename_i sz rows hc
        split at hf
        · rename_i hs
          injection hf with hf
          subst hf
          have hnu : ¬ g.used st.n := fun hm => by have := hu _ hm; omega
          obtain ⟨g', k1, k2, k3, k4⟩ := hR.hoist hr hnu hs hc
          refine ⟨g', fun m hm => ?_, ?_, hN⟩
          · rcases k3 m hm with e | hm
            · simp only []; omega
            · have := hu m hm; simp only []; omega
          · simp only []
            rw [lk_ins, lk_ins]
            exact k4
        · cases hf
      · cases hf
    · cases hf
  | nilA t j sz =>
    simp only [wk1] at hf
    split at hf
    · rename_i cs ht
      split at hf
      · rename_i hj
        split at hf
        · rename_i hs
          injection hf with hf
          subst hf
          have hnu : ¬ g.used st.n := fun hm => by have := hu _ hm; omega
          obtain ⟨g', k1, k2, k3, k4⟩ := hR.new0 hnu hs st.n
          refine ⟨g', fun m hm => ?_, ?_, hN⟩
          · rcases k3 m hm with e | hm
            · simp only []; omega
            · have := hu m hm; simp only []; omega
          · simp only []
            rw [lk_ins, lk_cons]
            have e1 : upd (upd (lk st.h) st.n none) st.n (some (.arr sz [])) = upd (lk st.h) st.n (some (.arr sz [])) := by
              funext m; simp only [upd]; split <;> rfl
            rw [e1] at k4
            refine k4.moreS (fun t' d hd => ?_)
            simp only [upd] at hd
            split at hd
            · rename_i e
              subst e
              injection hd with hd
              subst hd
              obtain ⟨v, hv, hdv⟩ := k4.slots t' _ ht
              refine ⟨v, hv, ?_⟩
              cases hdv with
              | agg _ vs hsz hr =>
                refine .agg _ vs (by simp [hsz]) (fun j' x v' hx hv' => ?_)
                by_cases e : j = j'
                · subst e
                  have hlt : j < cs.length := (List.getElem?_eq_some_iff.1 hj).1
                  rw [List.getElem?_set_self hlt] at hx
                  injection hx with hx
                  subst hx
                  have hc := hr j _ v' hj hv'
                  cases hc
                  exact .view0 _ _ _ _ k2
                · rw [List.getElem?_set_ne e] at hx
                  exact hr j' x v' hx hv'
            · exact k4.slots t' d hd
        · cases hf
      · cases hf
    · cases hf
  | frz n ls =>
    simp only [wk1] at hf
    split at hf
    · rename_i sz rows hr
      split at hf
      · rename_i is his
        obtain ⟨g', k1, k2, k3, k4⟩ := hR.frz hr his
        generalize rows.length = L at k4 hf
        have hO : frO g' (some n) sz L is := fun v hv => by
          refine k4 v ?_
          cases hv with
          | view0 _ _ _ A hu' => exact .view0 _ _ _ A (by rw [← k2]; exact hu')
          | view _ _ _ _ cap hu' hb hl hc =>
            have hu0 : g.used n := by rw [← k2]; exact hu'
            rw [k1.base n hu0] at hb
            rw [k1.rc n hu0] at hc
            rw [k1.rb n hu0]
            exact .view _ _ _ _ cap hu0 hb hl hc
        have hR' : Rel en g' (lk st.s) (lk (ins n none st.h)) a w := by rw [lk_ins]; exact k3
        obtain ⟨q1, q2⟩ := frzLs_sound (st := ⟨st.s, ins n none st.h, st.n⟩) hO hR' hf
        exact ⟨g', fun m hm => by rw [q2]; exact hu m (by rw [← k2]; exact hm), q1, hN⟩
      · cases hf
    · cases hf
  | nilI sz ls =>
    simp only [wk1] at hf
    obtain ⟨q1, q2⟩ := frzLs_sound (o := none) (g := g) trivial hR hf
    exact ⟨g, fun m hm => by rw [q2]; exact hu m hm, q1, hN⟩
theorem folds_sound {N pn : Nat} (hpn : ∀ n, en.g0.used n → n < pn) : ∀ {fs : List Wk} {st st' : St}, RelS en N st a w → folds pn fs st = some st' → RelS en N st' a w
  | [], st, st', hR, hf => by simp only [folds, Option.some.injEq] at hf; subst hf; exact hR
  | f :: fs, st, st', hR, hf => by
    simp only [folds] at hf
    split at hf
    · rename_i st1 hf1
      exact folds_sound hpn (wk1_sound hpn hR hf1) hf
    · cases hf
theorem lk_mem {α : Type} : ∀ {l : List (Nat × Option α)} {t : Nat} {d : α}, lk l t = some d → (t, some d) ∈ l
  | [], t, d, h => by cases h
  | (k, x) :: r, t, d, h => by
    simp only [lk] at h
    split at h
    · rename_i e; subst e; subst h; exact .head _
    · exact .tail _ (lk_mem h)
theorem sOk_at {H' : Nat → Option Root} {f : Nat → Nat} : ∀ {l : List (Nat × Option D)} {t : Nat} {d : D}, sOk S H' f l → (t, some d) ∈ l → S t = some (mapD f d) ∧ NmD H' d
  | (k, none) :: r, t, d, h, hm => by
    rcases List.mem_cons.1 hm with e | hm
    · cases e
    · exact sOk_at (l := r) h hm
  | (k, some x) :: r, t, d, h, hm => by
    rcases List.mem_cons.1 hm with e | hm
    · cases e; exact ⟨h.1, h.2.1⟩
    · exact sOk_at (l := r) h.2.2 hm
theorem hOk_at {H' : Nat → Option Root} {f : Nat → Nat} : ∀ {l : List (Nat × Option Root)} {t : Nat} {d : Root}, hOk H H' f l → (t, some d) ∈ l → (H (f t) = some d ∧ MvR false d) ∨ (H (f t) = some (mapR f d) ∧ NmR H' d)
  | (k, none) :: r, t, d, h, hm => by
    rcases List.mem_cons.1 hm with e | hm
    · cases e
    · exact hOk_at (l := r) h hm
  | (k, some x) :: r, t, d, h, hm => by
    rcases List.mem_cons.1 hm with e | hm
    · cases e; exact h.1
    · exact hOk_at (l := r) h.2 hm
theorem nms_at : ∀ {l : List (Nat × Option Root)} {t : Nat} {d : Root}, (t, some d) ∈ l → t ∈ nms l
  | (k, none) :: r, t, d, hm => by
    rcases List.mem_cons.1 hm with e | hm
    · cases e
    · exact nms_at (l := r) hm
  | (k, some x) :: r, t, d, hm => by
    rcases List.mem_cons.1 hm with e | hm
    · cases e; exact .head _
    · exact .tail _ (nms_at (l := r) hm)
theorem nodup_inj {f : Nat → Nat} : ∀ {l : List Nat} {n m : Nat}, (l.map f).Nodup → n ∈ l → m ∈ l → f n = f m → n = m
  | x :: l, n, m, hd, hn, hm, e => by
    simp only [List.map_cons, List.nodup_cons] at hd
    rcases List.mem_cons.1 hn with hn | hn
    · rcases List.mem_cons.1 hm with hm | hm
      · rw [hn, hm]
      · rw [hn] at e; exact absurd (List.mem_map.2 ⟨m, hm, e.symm⟩) hd.1
    · rcases List.mem_cons.1 hm with hm | hm
      · rw [hm] at e; exact absurd (List.mem_map.2 ⟨n, hn, e⟩) hd.1
      · exact nodup_inj hd.2 hn hm e
theorem RelS.sub {N pn : Nat} {st st' : St} (hpn : ∀ n, en.g0.used n → n < pn) (h : RelS en N st a w) (hs : Sub pn st st') : RelS en N st' a w := by
  obtain ⟨fs, ρ, hs⟩ := hs
  unfold subF at hs
  split at hs
  rotate_left
  · exact hs.elim
  rename_i st1 hfo
  obtain ⟨g, hu, hR, hN⟩ := folds_sound hpn h hfo
  obtain ⟨h1, h2, h3, h4, h5, h6⟩ := hs
  have hfp : ∀ n, n < pn → reF pn st'.h ρ n = n := fun n hn => by simp only [reF]; rw [if_pos hn]
  obtain ⟨g', k1, k2⟩ := hR.rename (reF pn st'.h ρ) (S' := lk st'.s) (H' := lk st'.h) (fun k hk => hfp k (hpn k hk))
    (fun n m r r' hn hm e => nodup_inj h3 (nms_at (lk_mem hn)) (nms_at (lk_mem hm)) e)
    (fun n r k hn hk e => by
      by_cases hlt : n < pn
      · rw [hfp n hlt] at e; exact e
      · have := h4 n (nms_at (lk_mem hn)) (by omega)
        have := hpn k hk
        omega)
    (fun t d ht => sOk_at h1 (lk_mem ht)) (fun n r hn => hOk_at h2 (lk_mem hn))
  exact ⟨g', fun m hm => (k1 m hm).elim (fun h => by have := hpn m h; omega) (fun ⟨r, hr⟩ => h6 m (nms_at (lk_mem hr))), k2, hN⟩
inductive Ex where
  | norm
  | exit (id : Nat)
  | ret
def loopP (pn : Nat) (body : (Ex → St → Prop) → St → Prop) (K : Ex → St → Prop) (_ : Tag body) (_ : Tag K) (st : St) : Prop :=
  ∃ (ι : Type) (F : ι → St) (μ : ι → Nat) (i0 : ι), Sub pn st (F i0) ∧ ∀ i, body (fun e st' => match e with
      | .norm => ∃ j, μ j < μ i ∧ Sub pn st' (F j)
      | e => K e st') (F i)
def sx (P : Program) (Φ : FuncId → Option Ct) (N pn : Nat) : Code → (K : Ex → St → Prop) → Tag K → St → Prop
  | .skip, K, _, st => K .norm st
  | .region _ ops draw, K, _, st => match draw with
    | false => regX P Φ N ops.toList ops.toList st (fun st' => K .norm st') .mk
    | true => slotsOk ops.toList = true ∧ drX P Φ N st.n ops.toList ops.toList 0 st [] (fun st' acc => rootsOk ops.toList st.n acc = true ∧ K .norm ⟨st'.s, st'.h, st.n + 8 * ops.toList.length⟩) .mk
  | .seq x y, K, t0, st => sx P Φ N pn x (fun e st' => match e with
      | .norm => sx P Φ N pn y K t0 st'
      | e => K e st') .mk st
  | .cond c x y, K, t0, st => match evI (lk st.s) c with
    | some (.bool b) => gS b true (sx P Φ N pn x K t0 st) (sx P Φ N pn y K t0 st) .mk .mk
    | _ => False
  | .block id c, K, _, st => sx P Φ N pn c (fun e st' => match e with
      | .exit id' => if id' = id then K .norm st' else K (.exit id') st'
      | e => K e st') .mk st
  | .loop c, K, _, st => loopP pn (fun K' st' => sx P Φ N pn c K' .mk st') K .mk .mk st
  | .scope c, K, t0, st => sx P Φ N pn c K t0 st
  | .exit id, K, _, st => K (.exit id) st
  | .ret, K, _, st => K .ret st
  | _, _, _, _ => False
def post (en : En) (N : Nat) (K : Ex → St → Prop) : Exit → Act → World → Prop
  | .normal, a, w => ∃ st, RelS en N st a w ∧ K .norm st
  | .exit id, a, w => ∃ st, RelS en N st a w ∧ K (.exit id) st
  | .ret, a, w => ∃ st, RelS en N st a w ∧ K .ret st
  | _, _, _ => False
theorem RelS.world {N : Nat} {st : St} (h : RelS en N st a w) {w' : World} (h1 : w'.heap = w.heap) (h2 : w'.os = w.os) (h3 : w'.tape = w.tape) (h4 : w'.output = w.output) : RelS en N st a w' := by
  obtain ⟨g, hu, hR, hN⟩ := h
  exact ⟨g, hu, hR.world h1 h2 h3 h4, hN⟩
theorem sx_sound {Φ : FuncId → Option Ct} (hΦ : Env P Φ) (hm : P.follows .mixedOrders = true) {N pn : Nat} (hpn : ∀ n, en.g0.used n → n < pn) :
    ∀ (c : Code) (K : Ex → St → Prop) (t0 : Tag K) (st : St) (a : Act) (w : World), RelS en N st a w → sx P Φ N pn c K t0 st → c.wp P (post en N K) a w
  | .skip, K, t0, st, a, w, h, hx => wp_skip ⟨st, h, hx⟩
  | .region id ops false, K, t0, st, a, w, h, hx => by
    refine wp_region_list (regX_sound hΦ (K := fun st' => K .norm st') (fun st a w h1 h2 => ⟨st, h1, h2⟩) ops.toList st .mk a w h ?_)
    simpa [sx] using hx
  | .region id ops true, K, t0, st, a, w, h, hx => by
    simp only [sx] at hx
    obtain ⟨hsl, hx⟩ := hx
    obtain ⟨es, st', hrun, hro, hk⟩ := drX_ex hx
    have hs := slotsOk_spec hsl
    obtain ⟨g, hu, hR, hN⟩ := h
    have hops : ops = ops.toList.toArray := by simp
    have hdraw := (RelS.world (en := en) (N := N) ⟨g, hu, hR, hN⟩ (w' := { w with drawn := w.drawn + 1 }) rfl rfl rfl rfl)
    obtain ⟨g1, hu1, hR1, hN1⟩ := hdraw
    rw [hops]
    refine wp_region_any hm ?_
    have hrep : ∀ j, Xof (Array.replicate ops.toList.toArray.size false) j = false := fun j => by
      simp only [Xof, Array.getD_eq_getD_getElem?, Array.getElem?_replicate]
      split <;> rfl
    have e1 : ∀ {κ V : Type} (W : Nat → κ → Option V) (init : κ → V) (n : Nat), Fg W (Xof (Array.replicate ops.toList.toArray.size false)) init n = init := fun W init n => by
      funext k
      induction n with
      | zero => rfl
      | succ n ih => simp only [Fg, hrep n]; simp [ih]
    refine order_any (n0 := st.n) (N := N) (Kf := fun st' => K .norm ⟨st'.s, st'.h, st.n + 8 * ops.toList.length⟩) hΦ hs hx (fun st2 g a w hk hug hRg hNg => ⟨⟨st2.s, st2.h, st.n + 8 * ops.toList.length⟩, ⟨g, hug, hRg, hNg⟩, hk⟩) _ _ es st' g1 a _ (by simp) (fun j o _ hx => by rw [hrep] at hx; cases hx) (Nat.le_trans (List.length_filter_le _ _) (by simp)) hrun hro hk (by rw [e1, e1]; exact hR1) (fun m hm => .inl (hu1 m hm)) hN1
  | .seq x y, K, t0, st, a, w, h, hx => by
    refine wp_seq (Code.wp_mono (fun e a w hq => ?_) (sx_sound hΦ hm hpn x _ .mk st a w h hx))
    cases e with
    | normal => obtain ⟨st', h1, h2⟩ := hq; exact sx_sound hΦ hm hpn y K t0 st' a w h1 h2
    | exit id => exact hq
    | ret => exact hq
    | _ => exact hq.elim
  | .cond c x y, K, t0, st, a, w, h, hx => by
    simp only [sx] at hx
    split at hx
    · rename_i b hb
      obtain ⟨g, hu, hR, hN⟩ := h
      have hv := (evI_sound hR hb).bool_inv
      exact wp_cond_split hv (fun ht => sx_sound hΦ hm hpn x K t0 st a w ⟨g, hu, hR, hN⟩ (hx.1 ht)) (fun ht => sx_sound hΦ hm hpn y K t0 st a w ⟨g, hu, hR, hN⟩ (hx.2 ht))
    · exact hx.elim
  | .block id c, K, t0, st, a, w, h, hx => by
    refine wp_block (Code.wp_mono (fun e a w hq => ?_) (sx_sound hΦ hm hpn c _ .mk st a w h hx))
    cases e with
    | normal => exact hq
    | exit id' =>
      obtain ⟨st', h1, h2⟩ := hq
      simp only [Exit.inBlock]
      split
      · rename_i e; simp only [e, if_true] at h2; exact ⟨st', h1, h2⟩
      · rename_i e; simp only [e, if_false] at h2; exact ⟨st', h1, h2⟩
    | ret => exact hq
    | _ => exact hq.elim
  | .loop c, K, t0, st, a, w, h, hx => by
    obtain ⟨ι, F, μ, i0, h0, hr⟩ := hx
    have key : ∀ (n : Nat) (i : ι) (a : Act) (w : World), μ i = n → RelS en N (F i) a w → ∀ (b : Frame) (k : List Item) (cs : List Frame),
        ∃ e a' w', post en N K e a' w' ∧ Arrives P (lone (b.at a (.code c :: .inLoop c :: k)) cs w) b k cs e a' w' := by
      intro n
      induction n using Nat.strongRecOn with
      | _ n ih =>
        intro i a w hn hi b k cs
        obtain ⟨e, a₁, w₁, hq, harr⟩ := sx_sound hΦ hm hpn c _ .mk (F i) a w hi (hr i) b (.inLoop c :: k) cs
        cases e with
        | normal =>
          obtain ⟨st', h1, j, hlt, hsub⟩ := hq
          obtain ⟨e₂, a₂, w₂, hq₂, harr₂⟩ := ih (μ j) (hn ▸ hlt) j a₁ w₁ rfl (h1.sub hpn hsub) b k cs
          exact ⟨e₂, a₂, w₂, hq₂, .of_steps (Steps.trans harr (.one step_inLoop)) harr₂⟩
        | exit id => exact ⟨.exit id, a₁, w₁, hq, .pass (x := .inLoop c) rfl (fun _ _ => .inl (by simp)) harr⟩
        | goto l => exact hq.elim
        | ret => exact ⟨.ret, a₁, w₁, hq, .pass (x := .inLoop c) rfl (fun _ _ => .inl (by simp)) harr⟩
        | panic ch => exact hq.elim
        | outgrown => exact hq.elim
    intro b k cs
    obtain ⟨e, a', w', hq, harr⟩ := key _ i0 a w rfl (h.sub hpn h0) b k cs
    exact ⟨e, a', w', hq, .of_steps (.one step_loop) harr⟩
  | .scope c, K, t0, st, a, w, h, hx => by
    refine wp_scope_straight (Code.wp_mono (fun e a w hq => ?_) (sx_sound hΦ hm hpn c K t0 st a w h hx))
    cases e <;> first | exact hq | exact hq.elim
  | .exit id, K, t0, st, a, w, h, hx => wp_exit ⟨st, h, hx⟩
  | .ret, K, t0, st, a, w, h, hx => wp_ret ⟨st, h, hx⟩
  | .rangeFunc _ _ _ _, K, t0, st, a, w, h, hx => by simp [sx] at hx
  | .label _, K, t0, st, a, w, h, hx => by simp [sx] at hx
  | .goto _, K, t0, st, a, w, h, hx => by simp [sx] at hx
  | .refuse _, K, t0, st, a, w, h, hx => by simp [sx] at hx
theorem loadAt_as {t : TypeId} {v u : Value} {w' : World} (h : (Instr.loadAt t v).run P w = .ok u w') : (do loadVar t (← asAddr v)).run P w = .ok u w' := by
  cases v with
  | pointer o =>
    cases o with
    | some ad => simpa [Instr.loadAt, Instr.sureAddr, asAddr] using h
    | none => simp [Instr.loadAt, Instr.sureAddr] at h
  | _ => simp [Instr.loadAt, Instr.sureAddr] at h
def resD (P : Program) (S : Nat → Option D) (H : Nat → Option Root) : ResultVar → Option D
  | .tmp t => S t
  | .cell t ty => loadD P ty S H (.tmp t)
def resV : List D → D
  | [d] => d
  | ds => .tup ds
def resM (a : Act) (r : ResultVar) : Sem Value := match r with
  | .tmp t => pure (a.tmps.getD t undef)
  | .cell c t => do loadVar t (← asAddr (a.tmps.getD c undef))
theorem resD_sound (h : Rel en g S H a w) : ∀ {rs : List ResultVar} {ds : List D}, mapO (resD P S H) rs = some ds →
    ∃ vs : List Value, (rs.mapM (resM a)).run P w = .ok vs w ∧ vs.length = ds.length ∧ ∀ (j : Nat) (d : D) (v : Value), ds[j]? = some d → vs[j]? = some v → DV g d v
  | [], ds, hd => by simp only [mapO, Option.some.injEq] at hd; subst hd; exact ⟨[], by simp, rfl, fun j d v h => by simp at h⟩
  | r :: rs, ds, hd => by
    simp only [mapO] at hd
    split at hd
    · rename_i d0 h0
      split at hd
      · rename_i ds' hds
        injection hd with hd
        subst hd
        obtain ⟨vs, h1, h2, h3⟩ := resD_sound h hds
        have hone : ∃ v, (resM a r).run P w = .ok v w ∧ DV g d0 v := by
          cases r with
          | tmp t =>
            obtain ⟨v, hv, hdv⟩ := h.slots t d0 h0
            exact ⟨v, by simp [resM, Array.getD_eq_getD_getElem?, hv], hdv⟩
          | cell c t =>
            obtain ⟨v, k1, k2⟩ := loadD_sound h h0
            exact ⟨v, loadAt_as k1, k2⟩
        obtain ⟨v, k1, k2⟩ := hone
        refine ⟨v :: vs, ?_, by simp [h2], fun j d u hj hu => ?_⟩
        · rw [List.mapM_cons]
          simp only [Sem.run_bind, k1, Result.andThen_ok, h1]
          rfl
        · cases j with
          | zero => simp at hj hu; subst hj; subst hu; exact k2
          | succ j => simp at hj hu; exact h3 j d u hj hu
      · cases hd
    · cases hd
theorem results_run {fn : Func} (h : Rel en g S H a w) {ds : List D} (hd : mapO (resD P S H) fn.results.toList = some ds) : ∃ v, (results fn a.tmps).run P w = .ok v w ∧ DV g (resV ds) v := by
  obtain ⟨vs, h1, h2, h3⟩ := resD_sound h hd
  refine ⟨if h : vs.toArray.size = 1 then vs.toArray[0] else .tuple vs.toArray, ?_, ?_⟩
  · have hr : results fn a.tmps = (do
        let vs ← fn.results.mapM (resM a)
        pure (if h : vs.size = 1 then vs[0] else .tuple vs)) := by
      unfold results
      congr 1
    rw [hr, Array.mapM_eq_mapM_toList]
    simp only [Sem.run_bind, Sem.run_map, h1]
    rfl
  · by_cases e : vs.toArray.size = 1
    · rw [dif_pos e]
      have e1 : vs.length = 1 := by simpa using e
      obtain ⟨v, rfl⟩ := List.length_eq_one_iff.1 e1
      obtain ⟨d, rfl⟩ := List.length_eq_one_iff.1 (h2.symm.trans e1)
      exact h3 0 d v rfl rfl
    · rw [dif_neg e]
      have hne : ds.length ≠ 1 := by rw [← h2]; simpa using e
      have : resV ds = .tup ds := by
        match ds, hne with
        | [], _ => rfl
        | [d], h => simp at h
        | _ :: _ :: _, _ => rfl
      rw [this]
      exact .tup _ _ (by simp [h2]) (fun j x v hj hv => h3 j x v hj (by simpa using hv))
def rtOk (H : Nat → Option Root) : List Root → List Nat → Prop
  | [], [] => True
  | r :: rs, m :: ns => H m = some r ∧ rtOk H rs ns
  | _, _ => False
def plK (H : Nat → Option Root) : Nat → List (List B) → Prop
  | _, [] => True
  | k, c :: cs => H k = some (.box c) ∧ plK H (k + 1) cs
def finX (P : Program) (rs : List ResultVar) (pn : Nat) (res : Res) (st : St) : Prop :=
  mK (mapO (resD P (lk st.s) (lk st.h)) rs) (fun ds => plK (lk st.h) 0 res.places ∧ match res.roots with
    | [] => reD (fun n => ([] : List Nat).getD n 0) res.val = some (resV ds)
    | _ => ∃ ns : List Nat, ns.Nodup ∧ (∀ m ∈ ns, pn ≤ m) ∧ rtOk (lk st.h) res.roots ns ∧ reD (fun n => ns.getD n 0) res.val = some (resV ds)) .mk
theorem rtOk_at : ∀ {rs : List Root} {ns : List Nat}, rtOk H rs ns → ns.length = rs.length ∧ ∀ (k : Nat) (r : Root) (m : Nat), rs[k]? = some r → ns[k]? = some m → H m = some r
  | [], [], _ => ⟨rfl, fun k r m h => by simp at h⟩
  | r :: rs, m :: ns, h => by
    obtain ⟨h1, h2⟩ := rtOk_at h.2
    refine ⟨by simp [h1], fun k r' m' hr hm => ?_⟩
    cases k with
    | zero => simp at hr hm; subst hr; subst hm; exact h.1
    | succ k => simp at hr hm; exact h2 k r' m' hr hm
  | [], _ :: _, h => h.elim
  | _ :: _, [], h => h.elim
theorem plK_at : ∀ {cs : List (List B)} {k : Nat}, plK H k cs → ∀ (j : Nat) (c : List B), cs[j]? = some c → H (k + j) = some (.box c)
  | [], k, _, j, c, h => by simp at h
  | c0 :: cs, k, h, j, c, hc => by
    cases j with
    | zero => simp at hc; subst hc; exact h.1
    | succ j => simp at hc; have := plK_at h.2 j c hc; rw [show k + (j + 1) = k + 1 + j by omega]; exact this
def entS {α β : Type} (f : α → β) : Nat → List α → List (Nat × Option β)
  | _, [] => []
  | i, d :: ds => (i, some (f d)) :: entS f (i + 1) ds
theorem lk_entS {α β : Type} (f : α → β) : ∀ (l : List α) (i t : Nat), lk (entS f i l) t = if i ≤ t then (l[t - i]?).map f else none
  | [], i, t => by simp [entS, lk]
  | d :: l, i, t => by
    simp only [entS, lk]
    by_cases e : t = i
    · subst e; simp
    · rw [if_neg e, lk_entS f l (i + 1) t]
      by_cases h : i + 1 ≤ t
      · rw [if_pos h, if_pos (by omega), show t - i = (t - (i + 1)) + 1 by omega]; simp
      · rw [if_neg h, if_neg (by omega)]
def St.entry (ds : List D) (hs : List (List B)) : St := ⟨entS id 0 ds, entS Root.box 0 hs, hs.length⟩
def finO (P : Program) (rs : List ResultVar) (pn : Nat) (o : Outs) (st : St) : Prop := match o with
  | .one r => finX P rs pn r st
  | .any _ f => ∃ i, finX P rs pn (f i) st
def finF (P : Program) (rs : List ResultVar) (pn : Nat) (o : Outs) (st : St) : Prop := ∃ fs st1, folds pn fs st = some st1 ∧ finO P rs pn o st1
def finK (P : Program) (rs : List ResultVar) (pn : Nat) (o : Outs) : Ex → St → Prop
  | .norm, st => finO P rs pn o st
  | .ret, st => finO P rs pn o st
  | .exit _, _ => False
def finKF (P : Program) (rs : List ResultVar) (pn : Nat) (o : Outs) : Ex → St → Prop
  | .norm, st => finF P rs pn o st
  | .ret, st => finF P rs pn o st
  | .exit _, _ => False
theorem good_ofK {Φ : FuncId → Option Ct} (hΦ : Env P Φ) (hm : P.follows .mixedOrders = true) {f : FuncId} {fn : Func} {c : Code} (hf : P.funcs[f]? = some fn) (hb : fn.body = some c) (hnm : (fn.name == "runtime.NumGoroutine") = false) {ct : Ct}
    (KK : Nat → Outs → Ex → St → Prop) (hKK : ∀ pn o e st, KK pn o e st → finKF P fn.results.toList pn o e st)
    (h : ∀ ds hs o, ct.run ds hs = some o → (∀ res, o.mem res → OkR ct.sc res) ∧ ds.length ≤ fn.ntmps ∧ ∃ fs st0, folds hs.length fs (St.entry ds hs) = some st0 ∧ sx P Φ fn.ntmps hs.length c (KK hs.length o) .mk st0) :
    Good P f ct ∧ ∃ fn : Func, P.funcs[f]? = some fn ∧ (fn.name == "runtime.NumGoroutine") = false ∧ fn.body.isNone = false := by
  refine ⟨⟨fun ds hs o hr => (h ds hs o hr).1, fun ds hs o hr en args hal hpn hR => ?_⟩, fn, hf, hnm, by rw [hb]; rfl⟩
  obtain ⟨hok, hlen, fs0, st0, hf0, hx⟩ := h ds hs o hr
  have hN : args.toArray.size ≤ fn.ntmps := by simpa [hal] using hlen
  have hS : RelS en fn.ntmps (St.entry ds hs) { tmps := args.toArray ++ Array.replicate (fn.ntmps - args.toArray.size) undef, defers := [] } en.w0 := by
    refine ⟨en.g0, hpn, ⟨hR.fr, rfl, hR.lt, hR.fz, fun t d ht => ?_, fun n r hn => ?_, fun n r b hn hb => ?_⟩, by simp; omega⟩
    · simp only [St.entry, lk_entS, Nat.zero_le, if_true, Nat.sub_zero] at ht
      obtain ⟨v, hv, hd⟩ := hR.slots t d (by simpa using ht)
      refine ⟨v, ?_, hd⟩
      simp only [] at hv
      have hlt : t < args.toArray.size := (Array.getElem?_eq_some_iff.1 hv).1
      rw [Array.getElem?_append_left hlt]; exact hv
    · simp only [St.entry, lk_entS, Nat.zero_le, if_true, Nat.sub_zero] at hn
      exact hR.roots n r hn
    · simp only [St.entry, lk_entS, Nat.zero_le, if_true, Nat.sub_zero] at hn
      exact hR.wd n r b hn hb
  refine calls_of_wp hf hb (Code.wp_mono (fun e a w hq => ?_) (sx_sound hΦ hm hpn c _ .mk _ _ _ (folds_sound hpn hS hf0) hx))
  have fin0 : ∀ st res, RelS en fn.ntmps st a w → finX P fn.results.toList hs.length res st → a.defers = [] ∧ ∃ v, (results fn a.tmps).run P w = .ok v w ∧ ∃ v', Ending.returned v = .returned v' ∧ Done en res v' w := by
    rintro st res ⟨g, hu, hRg, hNg⟩ hfin
    obtain ⟨dl, h1, h2, h3⟩ := mK_ex hfin
    obtain ⟨v, k1, k2⟩ := results_run hRg h1
    refine ⟨hRg.df, v, k1, v, rfl, ?_⟩
    split at h3
    · rename_i hr0
      refine ⟨g, [], lk st.s, lk st.h, a, _, hRg, .nil, by simp [hr0], fun m hm => by simp at hm, fun k r m hr _ => ?_, fun k c hc => by have := plK_at h2 k c hc; simpa using this, h3, k2⟩
      rw [hr0] at hr; simp at hr
    · obtain ⟨ns, q1, q2, q3, q4⟩ := h3
      obtain ⟨q5, q6⟩ := rtOk_at q3
      refine ⟨g, ns, lk st.s, lk st.h, a, _, hRg, q1, q5, fun m hm hu' => ?_, q6, fun k c hc => by have := plK_at h2 k c hc; simpa using this, q4, k2⟩
      have := q2 m hm; have := hpn m hu'; omega
  have fin : ∀ st, RelS en fn.ntmps st a w → finF P fn.results.toList hs.length o st → a.defers = [] ∧ ∃ v, (results fn a.tmps).run P w = .ok v w ∧ ∃ v', Ending.returned v = .returned v' ∧ ∃ res, o.mem res ∧ Done en res v' w := by
    rintro st hst ⟨fs, st1, hfo, hfin⟩
    have hst1 := folds_sound hpn hst hfo
    cases o with
    | one r =>
      obtain ⟨k1, v, k2, v', k3, k4⟩ := fin0 st1 r hst1 hfin
      exact ⟨k1, v, k2, v', k3, r, rfl, k4⟩
    | any ι f =>
      obtain ⟨i, hfin⟩ := hfin
      obtain ⟨k1, v, k2, v', k3, k4⟩ := fin0 st1 (f i) hst1 hfin
      exact ⟨k1, v, k2, v', k3, f i, ⟨i, rfl⟩, k4⟩
  cases e with
  | normal => obtain ⟨st, h1, h2⟩ := hq; exact fin st h1 (hKK _ _ _ _ h2)
  | ret => obtain ⟨st, h1, h2⟩ := hq; exact fin st h1 (hKK _ _ _ _ h2)
  | exit id => obtain ⟨st, h1, h2⟩ := hq; exact (hKK _ _ _ _ h2).elim
  | _ => exact hq.elim
theorem good_ofF {Φ : FuncId → Option Ct} (hΦ : Env P Φ) (hm : P.follows .mixedOrders = true) {f : FuncId} {fn : Func} {c : Code} (hf : P.funcs[f]? = some fn) (hb : fn.body = some c) (hnm : (fn.name == "runtime.NumGoroutine") = false) {ct : Ct}
    (h : ∀ ds hs o, ct.run ds hs = some o → (∀ res, o.mem res → OkR ct.sc res) ∧ ds.length ≤ fn.ntmps ∧ sx P Φ fn.ntmps hs.length c (finKF P fn.results.toList hs.length o) .mk (St.entry ds hs)) :
    Good P f ct ∧ ∃ fn : Func, P.funcs[f]? = some fn ∧ (fn.name == "runtime.NumGoroutine") = false ∧ fn.body.isNone = false :=
  good_ofK hΦ hm hf hb hnm (fun pn o => finKF P fn.results.toList pn o) (fun _ _ _ _ h => h) (fun ds hs o hr => ⟨(h ds hs o hr).1, (h ds hs o hr).2.1, [], _, rfl, (h ds hs o hr).2.2⟩)
theorem good_of {Φ : FuncId → Option Ct} (hΦ : Env P Φ) (hm : P.follows .mixedOrders = true) {f : FuncId} {fn : Func} {c : Code} (hf : P.funcs[f]? = some fn) (hb : fn.body = some c) (hnm : (fn.name == "runtime.NumGoroutine") = false) {ct : Ct}
    (h : ∀ ds hs o, ct.run ds hs = some o → (∀ res, o.mem res → OkR ct.sc res) ∧ ds.length ≤ fn.ntmps ∧ sx P Φ fn.ntmps hs.length c (finK P fn.results.toList hs.length o) .mk (St.entry ds hs)) :
    Good P f ct ∧ ∃ fn : Func, P.funcs[f]? = some fn ∧ (fn.name == "runtime.NumGoroutine") = false ∧ fn.body.isNone = false :=
  good_ofK hΦ hm hf hb hnm (fun pn o => finK P fn.results.toList pn o) (fun pn o e st h => by
    cases e with
    | norm => exact ⟨[], st, rfl, h⟩
    | ret => exact ⟨[], st, rfl, h⟩
    | exit id => exact h.elim) (fun ds hs o hr => ⟨(h ds hs o hr).1, (h ds hs o hr).2.1, [], _, rfl, (h ds hs o hr).2.2⟩)
end Go.SX
