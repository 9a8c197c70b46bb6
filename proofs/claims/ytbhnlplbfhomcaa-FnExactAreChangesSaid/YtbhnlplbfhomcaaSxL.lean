/-
  SX, part L: the operations that make a block: a variable, a literal, make.
  No condition. Plain definitions and theorems over any program.
-/
import Derived.Test.YtbhnlplbfhomcaaSxK
set_option linter.unusedVariables false
set_option linter.unusedSimpArgs false
namespace Go.SX
open Go Go.RowKit
variable {en : En} {g : Gh} {S : Nat → Option D} {H : Nat → Option Root} {a : Act} {w : World} {P : Program}

/-- What an operation that makes a block turns: its value, the new root. -/
def mkOp (P : Program) (S : Nat → Option D) (o : Op) (nm : Nat) : Option (D × Root) :=
  match o with
  | .alloc t => match tzr P t with
    | some cs => some (.c (.ptr nm 0 0 0), .box (cs.map toB))
    | none => none
  | .box t x => match ev S x with
    | some d => match dCs d with
      | some cs => some (.c (.ptr nm 0 0 0), .box (cs.map toB))
      | none => none
    | none => none
  | .buildSlice t len parts => match tel P t with
    | some e => match tsz P e, tzr P e with
      | some sz, some zc => if zc.length = sz ∧ 0 < sz ∧ len * sz ≤ 16777216 then match rowsD sz S parts.toList (List.replicate len zc) with
          | some rows => match mapTs rows with
            | some ts => some (.c (.view nm sz 0 len), .arr sz ts)
            | none => none
          | none => none
        else none
      | _, _ => none
    | none => none
  | .makeSlice t l c => match tel P t with
    | some e => match tsz P e, tby P e, tzr P e with
      | some sz, some by_, some zc => match mapT zc with
        | some zt => if zc.length = sz ∧ 0 < sz then match evI S l, evI S c with
            | some (.int _ n), some (.int _ m) => if 0 ≤ n ∧ n ≤ m ∧ m ≤ 9223372036854775807 ∧ (by_ : Int) * m ≤ 281474976710656 then some (.c (.view nm sz 0 n.toNat), .arr sz (List.replicate n.toNat zt)) else none
            | _, _ => none
          else none
        | none => none
      | _, _, _ => none
    | none => none
  | _ => none

theorem toB_map_len {cs : List C} {vs : List Value} (h : CVs g cs vs) : vs.toArray.size = cs.length := by simp [h.1]

theorem tby_info {e : TypeId} {sz by_ : Nat} {zc : List C} (hs : tsz P e = some sz) (hb : tby P e = some by_) (hz : tzr P e = some zc) :
    ∃ i z, P.info? e = some i ∧ i.size = sz ∧ i.bytes = by_ ∧ i.zero = some z ∧ mapCV z.cells.toList = some zc := by
  unfold tsz at hs
  unfold tby at hb
  unfold tzr at hz
  cases hi : P.info? e with
  | none => simp [hi] at hs
  | some i =>
    simp only [hi, Option.some.injEq] at hs hb hz
    cases hzz : i.zero with
    | none => simp [hzz] at hz
    | some z => simp only [hzz] at hz; exact ⟨i, z, rfl, hs, hb, hzz, hz⟩
theorem tsz_info {e : TypeId} {sz : Nat} {zc : List C} (hs : tsz P e = some sz) (hz : tzr P e = some zc) :
    ∃ i z, P.info? e = some i ∧ i.size = sz ∧ i.zero = some z ∧ mapCV z.cells.toList = some zc := by
  unfold tsz at hs
  unfold tzr at hz
  cases hi : P.info? e with
  | none => simp [hi] at hs
  | some i =>
    simp only [hi, Option.some.injEq] at hs hz
    cases hzz : i.zero with
    | none => simp [hzz] at hz
    | some z => simp only [hzz] at hz; exact ⟨i, z, rfl, hs, hzz, hz⟩

theorem mapTs_replicate {zc : List C} {zt : List T} (h : mapT zc = some zt) : ∀ n, mapTs (List.replicate n zc) = some (List.replicate n zt)
  | 0 => rfl
  | n + 1 => by simp [List.replicate_succ, mapTs, h, mapTs_replicate h n]

theorem mkOp_sound (h : Rel en g S H a w) {o : Oper} {nm : Nat} {d : D} {r : Root} (hnm : ¬ g.used nm) (hd : mkOp P S o.op nm = some (d, r)) :
    ∃ v w' g', (execOp a.eval o).run P w = .ok (.value v) w' ∧ Made en g g' nm S (upd H nm (some r)) a w' d v := by
  obtain ⟨dst, op, type, pos, after, guard⟩ := o
  simp only at hd
  unfold mkOp at hd
  split at hd
  · rename_i t
    split at hd
    · rename_i cs hz
      simp only [Option.some.injEq, Prod.mk.injEq] at hd
      obtain ⟨rfl, rfl⟩ := hd
      obtain ⟨z, hzr, hzc⟩ := tzr_sound (g := g) hz
      refine ⟨_, _, _, ?_, new_box h hnm hzc t⟩
      simp [execOp, Instr.alloc, hzr, newVar, newRow]
    · cases hd
  · rename_i t x
    split at hd
    · rename_i d0 he
      split at hd
      · rename_i cs hcs
        simp only [Option.some.injEq, Prod.mk.injEq] at hd
        obtain ⟨rfl, rfl⟩ := hd
        refine ⟨_, _, _, ?_, new_box h hnm (dCs_sound (ev_sound h he) hcs) t⟩
        simp [execOp, Instr.box, newVar, newRow]
      · cases hd
    · cases hd
  · rename_i t len parts
    split at hd
    · rename_i e ht
      split at hd
      · rename_i sz zc hsz hz
        split at hd
        · rename_i hc
          split at hd
          · rename_i rows hrows
            split at hd
            · rename_i ts hts
              simp only [Option.some.injEq, Prod.mk.injEq] at hd
              obtain ⟨rfl, rfl⟩ := hd
              obtain ⟨i, z, hi, his, hiz, hmc⟩ := tsz_info hsz hz
              have hzc : CVs g zc z.cells.toList := mapCV_sound hmc
              obtain ⟨hzl, hs0, hlim⟩ := hc
              have hF := flat_zero (g := g) hzc hzl hs0 len
              obtain ⟨A', h1, h2, h3⟩ := rowsD_sound h parts.toList _ _ _ hF hrows
              obtain ⟨k1, k2, k3⟩ := flat_T h2 hts
              have hlen : ts.length = len := by rw [k1, h3]; simp
              have := new_arr h hnm k2 k3 e len (by omega) (by rw [h2.1, h3]; simp)
              refine ⟨_, _, _, ?_, by rw [hlen] at this; exact this⟩
              have e1 : (Array.map (fun (p : Nat × Operand) => (p.1, a.eval p.2)) parts).toList = parts.toList.map fun (p : Nat × Operand) => (p.1, a.eval p.2) := by simp
              have hnl : ¬ (2 ^ 24 < len * sz) := by omega
              by_cases hn : len * sz = 0
              · have hm : madeCells z.cells (len * sz) = #[] := by simp [hn, madeCells, Array.range_zero']
                rw [hm] at h1
                simp [execOp, Instr.buildSlice, run_underlying (tel_under ht), run_sizeOf hsz, hn, newRow, Array.range_zero', h1]
              · have hm : (Array.range (len * sz)).map (z.cells[· % z.cells.size]!) = madeCells z.cells (len * sz) := rfl
                simp [execOp, Instr.buildSlice, run_underlying (tel_under ht), run_sizeOf hsz, hn, hnl, newRow, zeroValue, typeInfo, hi, hiz, hm, h1]
            · cases hd
          · cases hd
        · cases hd
      · cases hd
    · cases hd
  · rename_i t l c
    split at hd
    · rename_i e ht
      split at hd
      · rename_i sz by_ zc hsz hby hz
        split at hd
        · rename_i zt hzt
          split at hd
          · rename_i hc
            split at hd
            · rename_i kl n kc m hl hm
              split at hd
              · rename_i hb
                simp only [Option.some.injEq, Prod.mk.injEq] at hd
                obtain ⟨rfl, rfl⟩ := hd
                obtain ⟨i, z, hi, his, hib, hiz, hmc⟩ := tby_info hsz hby hz
                have hzc : CVs g zc z.cells.toList := mapCV_sound hmc
                obtain ⟨hzl, hs0⟩ := hc
                obtain ⟨hb1, hb2, hb3, hb4⟩ := hb
                have hF := flat_zero (g := g) hzc hzl hs0 m.toNat
                obtain ⟨k1, k2, k3⟩ := flat_T hF (mapTs_replicate hzt _)
                have hnm' : n.toNat ≤ m.toNat := by omega
                have hrep : ∀ (i : Nat) (r : List T), (List.replicate n.toNat zt)[i]? = some r → (List.replicate m.toNat zt)[i]? = some r := fun i r hr => by
                  rw [List.getElem?_replicate] at hr ⊢
                  split at hr
                  · rw [if_pos (by omega)]; exact hr
                  · cases hr
                have := new_arr h hnm (rows := List.replicate n.toNat zt) (fun i r hr => k2 i r (hrep i r hr)) (fun i r j x hr hx => k3 i r j x (hrep i r hr) hx) e m.toNat (by simpa using hnm') (by rw [hF.1]; simp)
                rw [List.length_replicate] at this
                refine ⟨_, _, _, ?_, this⟩
                have hrun := run_make (P := P) w t e i z (tel_under ht) hi hiz kl kc n m hb1 hb2 (by rw [hib]; exact hb4) hb3
                rw [his] at hrun
                simp only [execOp, (evI_sound h hl).int_inv, (evI_sound h hm).int_inv, Sem.run_bind, hrun, Result.andThen_ok]
                rfl
              · cases hd
            · cases hd
          · cases hd
        · cases hd
      · cases hd
    · cases hd
  · cases hd
end Go.SX
