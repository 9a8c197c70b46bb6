/-
  SX, part K: the operations that write, each with what it turns in the ideal state.
  No condition. Plain definitions and theorems over any program.
-/
import Derived.Test.YtbhnlplbfhomcaaSxJ
set_option linter.unusedVariables false
set_option linter.unusedSimpArgs false
namespace Go.SX
open Go Go.RowKit
variable {en : En} {g : Gh} {S : Nat → Option D} {H : Nat → Option Root} {a : Act} {w : World} {P : Program}

def tby (P : Program) (t : TypeId) : Option Nat := match P.info? t with | some i => some i.bytes | none => none

theorem elT {t e : TypeId} {sz bytes : Nat} {zc : List C} (ht : tel P t = some e) (hs : tsz P e = some sz) (hb : tby P e = some bytes) (hz : tzr P e = some zc) (hl : zc.length = sz) : ElT P t e sz bytes := by
  refine ⟨tel_under ht, ?_⟩
  unfold tsz at hs
  unfold tby at hb
  unfold tzr at hz
  cases hi : P.info? e with
  | none => simp [hi] at hs
  | some i =>
    simp only [hi, Option.some.injEq] at hs hb hz
    cases hzz : i.zero with
    | none => simp [hzz] at hz
    | some z =>
      simp only [hzz] at hz
      have := (mapCV_sound (g := ⟨fun _ => False, fun _ => 0, fun _ => 0, fun _ => 0, fun _ => none, fun _ _ => none⟩) hz).1
      exact ⟨i, z, rfl, hs, hb, hzz, by rw [← hl, ← this]; simp⟩

/-- append: the roots that it turns, and the new length. -/
def appendH (P : Program) (t : TypeId) (S : Nat → Option D) (H : Nat → Option Root) (s x : Operand) : Option (Nat × Nat × List (List T) × Option Nat) :=
  match tel P t with
  | some e => match tsz P e, tby P e, tzr P e with
    | some sz, some bytes, some zc => if zc.length = sz ∧ 0 < sz ∧ 0 < bytes then match srcRows S H x sz with
        | some src => match evC S s with
          | some (.view n sz' 0 len) => if sz' = sz then match H n with
              | some (.arr sz2 rows) => if sz2 = sz ∧ rows.length = len then some (sz, bytes, rows ++ src, some n) else none
              | _ => none
            else none
          | some .nil => some (sz, bytes, src, none)
          | _ => none
        | none => none
      else none
    | _, _, _ => none
  | none => none

theorem appendH_sound (h : Rel en g S H a w) {t ty : TypeId} {s x : Operand} {sz bytes nm : Nat} {rows : List (List T)} {on : Option Nat} (hd : appendH P t S H s x = some (sz, bytes, rows, on)) (hnm : ¬ g.used nm)
    (hb : rows.length * bytes ≤ 140737488355328) :
    ∃ v w', (Builtin.append_ #[t, t] ty #[a.eval s, a.eval x]).run P w = .ok v w' ∧ Grown en g nm S (match on with | some n => upd H n none | none => H) a w' sz rows v := by
  unfold appendH at hd
  split at hd
  · rename_i e ht
    split at hd
    · rename_i sz1 bytes1 zc hsz hby hzr
      split at hd
      · rename_i hc
        obtain ⟨hzl, hs0, hb0⟩ := hc
        split at hd
        · rename_i src hsrc
          have he := elT ht hsz hby hzr hzl
          obtain ⟨A, c, news, hx, hS⟩ := srcRows_sound h hs0 hsrc
          have hz : ∀ k, (Builtin.zeroCells (((P.info? e).bind (·.zero)).getD undef).cells k).size = k * sz1 := fun k => by
            obtain ⟨i, z, hi, _, _, hzz, hzs⟩ := he.info
            simp [hi, hzz, size_zeroCells, hzs]
          have hNone : ∀ (n : Nat) (A' : Option Addr), a.eval s = .slice A' 0 0 → rows = src → sz = sz1 → bytes = bytes1 → (∀ b', en.g0.own b' ≠ some (n, [])) →
              ∃ v w', (Builtin.append_ #[t, t] ty #[a.eval s, a.eval x]).run P w = .ok v w' ∧ Grown en g nm S (upd H n none) a w' sz rows v := by
            rintro n A' hev rfl rfl rfl hpl
            rcases Nat.eq_zero_or_pos rows.length with hk | hk
            · have hr0 : rows = [] := List.eq_nil_of_length_eq_zero hk
              subst hr0
              obtain ⟨g', h1, h2, h3, h4⟩ := h.new0 hnm hs0 n
              exact ⟨_, w, by rw [hev, hx]; exact run_append_zero he A' A 0 0 c (Nat.le_refl _) w, g', h1, h3, h4, .view0 nm sz 0 A' h2⟩
            · rcases hS.at_ with h0 | ⟨b, o, rfl, hat⟩
              · omega
              · obtain ⟨cap', hc1, hrun⟩ := run_append_more (ty := ty) (B := A') (len := 0) (cap := 0) (olds := []) he w (by simp) (.inl rfl) (fun _ => rfl) hk hS.len hat (by omega) hb0 (by rw [Nat.zero_add]; exact hb)
                have hG := grow_rel (ty := ty) h he hs0 hnm hpl hS (rows := []) (olds := []) (fun i r hr => by simp at hr) (by simp) (fun i r j x hr => by simp at hr) (cap' := cap') (by simpa using hc1)
                  (Builtin.zeroCells (((P.info? e).bind (·.zero)).getD undef).cells (cap' - ([].length + rows.length))) (by rw [hz])
                simp only [List.length_nil, Nat.zero_add, List.nil_append] at hG hrun
                exact ⟨_, _, by rw [hev, hx]; exact hrun, hG⟩
          split at hd
          · rename_i n sz' len hsv
            split at hd
            · rename_i hsz'
              rw [hsz'] at hsv
              clear hsz'
              split at hd
              · rename_i sz2 rows0 hn
                split at hd
                · rename_i hc2
                  obtain ⟨hc21, hc22⟩ := hc2
                  rw [hc21] at hn
                  rw [← hc22] at hsv
                  clear hc21 hc22
                  simp only [Option.some.injEq, Prod.mk.injEq] at hd
                  obtain ⟨rfl, rfl, rfl, rfl⟩ := hd
                  have hpl : ∀ b', en.g0.own b' ≠ some (n, []) := fun b' hb' => by
                    obtain ⟨c0, hc0, _⟩ := h.wd n _ b' hn hb'
                    cases hc0
                  have hv := evC_sound h hsv
                  obtain ⟨hu, hR⟩ := h.roots n _ hn
                  have hlenr : (rows0 ++ src).length = rows0.length + src.length := by simp
                  generalize hlen : rows0.length = len0 at hv
                  generalize hev : a.eval s = u at hv
                  cases hv with
                  | view0 _ _ _ A' hu' =>
                    have hr0 : rows0 = [] := List.eq_nil_of_length_eq_zero hlen
                    subst hr0
                    have := hNone n A' hev rfl rfl rfl hpl
                    rw [hev] at this
                    exact this
                  | view _ _ _ _ cap hu' hbase hl hc' =>
                    subst hlen
                    rw [Nat.zero_mul] at hev ⊢
                    rw [Nat.zero_add] at hc'
                    cases hR with
                    | arr0 _ hs' h0 =>
                      have hcap0 : cap = 0 := by
                        rcases Nat.eq_zero_or_pos cap with h1 | h1
                        · exact h1
                        · have := Nat.mul_pos h1 hs0; omega
                      subst hcap0
                      have := hNone n _ hev rfl rfl rfl hpl
                      rw [hev] at this
                      exact this
                    | mk _ cs e' hh hon hf hr =>
                      obtain ⟨hb9, hcs, hrl, hrows⟩ := hf
                      by_cases hroom : rows0.length + src.length ≤ cap
                      · -- there is room
                        have hfit : rows0.length * sz1 + 0 + news.length ≤ cs.size := by
                          rw [hS.len, Nat.add_zero, ← Nat.add_mul, hcs]
                          exact Nat.le_trans (Nat.mul_le_mul_right _ hroom) hc'
                        have hone : ∀ v ∈ news, v.oneCell' = true := fun v hv => by
                          obtain ⟨p, hp, rfl⟩ := List.mem_iff_getElem.1 hv
                          rw [hS.len] at hp
                          have hi : p / sz1 < src.length := Nat.div_lt_of_lt_mul (by rw [Nat.mul_comm]; exact hp)
                          have hj : p % sz1 < sz1 := Nat.mod_lt _ hs0
                          have h1 := hS.row _ _ (List.getElem?_eq_getElem hi)
                          obtain ⟨v, hv, htf⟩ := hS.val (p / sz1) _ (p % sz1) _ (List.getElem?_eq_getElem hi) (List.getElem?_eq_getElem (show p % sz1 < (src[p / sz1]).length by omega))
                          rw [Nat.mul_comm, Nat.div_add_mod] at hv
                          rw [(List.getElem?_eq_some_iff.1 hv).2]
                          exact htf.one
                        have hst := run_storeCells_sets P (g.rb n) (rows0.length * sz1) e' news 0 cs w hh hfit hone
                        rw [Nat.add_zero] at hst
                        obtain ⟨i, z, hi, his, hib, hiz, hzs⟩ := he.info
                        have hfc : (Builtin.firstCells sz1 src.length (.slice A src.length c)).run P w = .ok news.toArray w := by
                          rcases hS.at_ with h0 | ⟨b, o, rfl, hat⟩
                          · have hn0 : news = [] := List.eq_nil_of_length_eq_zero (by rw [hS.len, h0, Nat.zero_mul])
                            subst hn0
                            rw [h0]
                            cases A <;> simp [Builtin.firstCells, loadCells, loadCellsFrom]
                          · exact run_firstCells_some (P := P) w sz1 src.length ⟨b, o, none⟩ src.length c news hS.len (fun j v hv => by rw [add_plain]; exact hat j v hv)
                        refine ⟨.slice (some ⟨g.rb n, 0, none⟩) (rows0.length + src.length) cap, w.setRow (g.rb n) (setsA cs (rows0.length * sz1) news), ?_, ?_⟩
                        · rw [hx]
                          simp [Builtin.append_, run_underlying he.under, sizeOf, typeInfo, hi, his, Builtin.lenOf, hroom, hfc, add_plain, hst]
                        · exact room_rel h hs0 hnm hpl hS hh hon ⟨hb9, hcs, hrl, hrows⟩ hr hroom hc'
                      · -- a new array is made
                        have hcell : ∀ p, p < rows0.length * sz1 → ∃ v, cs[p]? = some v := fun p hp => ⟨_, Array.getElem?_eq_getElem (by omega)⟩
                        obtain ⟨olds, ho1, ho2⟩ := at_list hcell
                        have hk : 0 < src.length := by omega
                        rcases hS.at_ with h0 | ⟨b, o, rfl, hat⟩
                        · omega
                        · have hAt : At w (g.rb n) 0 olds := fun j v hv => by
                            have hj : j < rows0.length * sz1 := by rw [← ho1]; exact (List.getElem?_eq_some_iff.1 hv).1
                            rw [ho2 j hj] at hv
                            rw [cell_of_row w _ _ cs e' _ hh, Nat.zero_add]; exact hv
                          obtain ⟨cap', hc1, hrun⟩ := run_append_more (ty := ty) (B := some ⟨g.rb n, 0, none⟩) (len := rows0.length) (cap := cap) (olds := olds) he w ho1 (.inr ⟨_, _, rfl, hAt⟩) (fun h9 => by cases h9) hk hS.len hat (by omega) hb0 (by rw [hlenr] at hb; exact hb)
                          have hG := grow_rel (ty := ty) h he hs0 hnm hpl hS (rows := rows0) (olds := olds) hrows ho1 (fun i r j y hr' hy => by
                              obtain ⟨v, hv, hbr⟩ := hr i j (.t y) (by simp [Root.get, hr', hy])
                              rw [hb9, Nat.zero_add] at hv
                              simp only [Root.sz] at hv
                              have hjs : j < sz1 := by rw [← hrows i r hr']; exact (List.getElem?_eq_some_iff.1 hy).1
                              have hil : i < rows0.length := (List.getElem?_eq_some_iff.1 hr').1
                              have hlt : i * sz1 + j < rows0.length * sz1 := by
                                have h2 := Nat.mul_le_mul_right sz1 (show i + 1 ≤ rows0.length by omega)
                                rw [Nat.add_mul] at h2; omega
                              exact ⟨v, by rw [ho2 _ hlt]; exact hv, by cases hbr with | t _ _ h => exact h⟩) (cap' := cap') hc1
                            (Builtin.zeroCells (((P.info? e).bind (·.zero)).getD undef).cells (cap' - (rows0.length + src.length))) (hz _)
                          exact ⟨_, _, by rw [hx]; exact hrun, hG⟩
                · cases hd
              · cases hd
            · cases hd
          · rename_i hsv
            simp only [Option.some.injEq, Prod.mk.injEq] at hd
            obtain ⟨rfl, rfl, rfl, rfl⟩ := hd
            have hv := evC_sound h hsv
            generalize hev : a.eval s = u at hv
            cases hv with
            | nil =>
              have hpl : ∀ b', en.g0.own b' ≠ some (nm, []) := fun b' hb' => hnm (h.fr.gle.used nm (h.fr.place b' nm hb').1)
              obtain ⟨v, w', h1, g', h2, h3, h4, h5⟩ := hNone nm none hev rfl rfl rfl hpl
              rw [hev] at h1
              refine ⟨v, w', h1, g', h2, h3, h4.less (fun _ _ h => h) (fun k r hk => ?_), h5⟩
              unfold upd at hk ⊢
              by_cases e' : k = nm
              · rw [if_pos e'] at hk ⊢; exact hk
              · rw [if_neg e'] at hk ⊢; rw [if_neg e']; exact hk
          · cases hd
        · cases hd
      · cases hd
    · cases hd
  · cases hd
end Go.SX
