/-
  SX, part I: append.
  No condition. Plain definitions and theorems over any program.
-/
import Derived.Test.YtbhnlplbfhomcaaSxH
set_option linter.unusedVariables false
set_option linter.unusedSimpArgs false
namespace Go.SX
open Go Go.RowKit
variable {en : En} {g : Gh} {S : Nat → Option D} {H : Nat → Option Root} {a : Act} {w : World} {P : Program}

/-- Root n's blocks are booked under nm; its own array is block b. -/
def Gh.ren (g : Gh) (n nm b size : Nat) : Gh :=
  { used := fun m => m = nm ∨ g.used m, rb := upd g.rb nm b, base := upd g.base nm 0, rc := upd g.rc nm size, fz := g.fz,
    own := fun b' => if b' = b then some (nm, []) else match g.own b' with
      | some (m, x :: p) => if m = n then some (nm, x :: p) else some (m, x :: p)
      | o => o }
theorem Gh.ren_le {g : Gh} {n nm b size : Nat} (h : ¬ g.used nm) : g.le (g.ren n nm b size) :=
  ⟨fun n hn => .inr hn, fun n hn => upd_other _ _ (fun e => h (e ▸ hn)), fun n hn => upd_other _ _ (fun e => h (e ▸ hn)), fun n hn => upd_other _ _ (fun e => h (e ▸ hn)), fun _ _ _ hv => hv⟩
theorem Gh.ren_b {g : Gh} {n nm b size : Nat} : (g.ren n nm b size).own b = some (nm, []) := by simp [Gh.ren]
theorem Gh.ren_n {g : Gh} {n nm b size b' : Nat} {x : Nat × Nat} {p : Pth} (hb : b' ≠ b) (h : g.own b' = some (n, x :: p)) : (g.ren n nm b size).own b' = some (nm, x :: p) := by simp [Gh.ren, hb, h]
theorem Gh.ren_m {g : Gh} {n nm b size b' m : Nat} {p : Pth} (hb : b' ≠ b) (hm : m ≠ n) (h : g.own b' = some (m, p)) : (g.ren n nm b size).own b' = some (m, p) := by cases p <;> simp [Gh.ren, hb, h, hm]
theorem Gh.ren_none {g : Gh} {n nm b size b' : Nat} (hb : b' ≠ b) (h : g.own b' = none) : (g.ren n nm b size).own b' = none := by simp [Gh.ren, hb, h]

theorem Rel.ren (h : Rel en g S H a w) {n nm b size : Nat} {r' : Root} {w' : World} (hnm : ¬ g.used nm) (hpl : ∀ b', en.g0.own b' ≠ some (n, []))
    (hb : b = w.heap.size ∨ g.own b = some (n, [])) (hlt : b < w'.heap.size) (hsz : w.heap.size ≤ w'.heap.size) (hos : w'.os = w.os) (htp : w'.tape = w.tape) (hout : w'.output = w.output)
    (hold : ∀ b', b' < w.heap.size → b' ≠ b → w'.heap[b']? = w.heap[b']?) (hr : RootR w' (g.ren n nm b size) nm r') :
    Rel en (g.ren n nm b size) S (upd (upd H n none) nm (some r')) a w' := by
  have hle := Gh.ren_le (n := n) (b := b) (size := size) hnm
  have hne : ∀ b' m p, g.own b' = some (m, p) → m ≠ n → b' ≠ b := by
    rintro b' m p h1 hm rfl
    rcases hb with rfl | hb
    · exact absurd (h.lt _ _ h1) (by omega)
    · rw [hb] at h1; injection h1 with h1; injection h1 with h1 _; exact hm h1.symm
  have hne0 : ∀ b', b' < w.heap.size → g.own b' = none → b' ≠ b := by
    rintro b' hl h1 rfl
    rcases hb with rfl | hb
    · omega
    · rw [hb] at h1; cases h1
  refine ⟨⟨hos.trans h.fr.os, htp.trans h.fr.tape, hout.trans h.fr.output, Nat.le_trans h.fr.size hsz, h.fr.gle.trans hle, fun b' hb' hb0 => ?_, fun b' k hb' => ?_, h.fr.fzn⟩, h.df, fun b' x hx => ?_, fun b' o v hv => ?_, fun t d ht => ?_, fun k r1 hk => ?_, fun k r1 b' hk hb' => ?_⟩
  · obtain ⟨h1, h2⟩ := h.fr.old b' hb' hb0
    have hl : b' < w.heap.size := Nat.lt_of_lt_of_le hb' h.fr.size
    have := hne0 b' hl h1
    exact ⟨Gh.ren_none this h1, (hold b' hl this).trans h2⟩
  · obtain ⟨h0, h1, c1, c2, e1, h2, h3, h4⟩ := h.fr.place b' k hb'
    have hk : k ≠ n := fun e => hpl b' (e ▸ hb')
    have hb'' := hne b' k [] h1 hk
    exact ⟨h0, Gh.ren_m hb'' hk h1, c1, c2, e1, h2, (hold b' (h.lt _ _ h1) hb'').trans h3, h4⟩
  · by_cases e : b' = b
    · rw [e]; exact hlt
    · cases ho : g.own b' with
      | none => rw [Gh.ren_none e ho] at hx; cases hx
      | some y => exact Nat.lt_of_lt_of_le (h.lt b' y ho) hsz
  · obtain ⟨h1, h2⟩ := h.fz b' o v hv
    have hl : b' < w.heap.size := World.block_lt_of_cell? w _ h1
    have hb'' := hne0 b' hl h2
    exact ⟨(World.cell?_of_block (w := w) (a := ⟨b', o, none⟩) (hold b' hl hb'')).trans h1, Gh.ren_none hb'' h2⟩
  · obtain ⟨v, hv, hd⟩ := h.slots t d ht; exact ⟨v, hv, hd.mono hle⟩
  · unfold upd at hk
    by_cases e : k = nm
    · subst e
      rw [if_pos rfl] at hk
      injection hk with hk
      subst hk
      exact ⟨.inl rfl, hr⟩
    · rw [if_neg e] at hk
      by_cases e' : k = n
      · rw [if_pos e'] at hk; cases hk
      · rw [if_neg e'] at hk
        obtain ⟨hu, hR⟩ := h.roots k r1 hk
        exact ⟨.inr hu, hR.keep hu hle (fun b' p hp => by have h9 := hne b' k p hp e'; exact ⟨Gh.ren_m h9 e' hp, hold b' (h.lt _ _ hp) h9⟩)⟩
  · unfold upd at hk
    by_cases e : k = nm
    · subst e; exact absurd (h.fr.gle.used k (h.fr.place b' k hb').1) hnm
    · rw [if_neg e] at hk
      by_cases e' : k = n
      · rw [if_pos e'] at hk; cases hk
      · rw [if_neg e'] at hk; exact h.wd k r1 b' hk hb'

/-- What an append takes over: rows of cells that may stand anywhere. -/
structure Src (g : Gh) (w : World) (sz : Nat) (src : List (List T)) (A : Option Addr) (news : List Value) : Prop where
  len : news.length = src.length * sz
  row : ∀ (i : Nat) (r : List T), src[i]? = some r → r.length = sz
  at_ : src.length = 0 ∨ ∃ b o, A = some ⟨b, o, none⟩ ∧ At w b o news
  val : ∀ (i : Nat) (r : List T) (j : Nat) (x : T), src[i]? = some r → r[j]? = some x → ∃ v, news[i * sz + j]? = some v ∧ TF g x v

def okT : T → Bool
  | .im _ => true
  | .nil => true
  | .lent _ _ _ => true
  | _ => false
theorem okT_TF {n : Nat} {q : Pth} {x : T} {v : Value} (h : TR w g n q x v) (hx : okT x = true) : TF g x v := by
  cases h with
  | im q i v h => exact ⟨.im i, rfl, .im _ _ h⟩
  | nil => exact ⟨.nil, rfl, .nil⟩
  | lent q m sz len v h => exact ⟨.view m sz 0 len, rfl, h⟩
  | _ => simp [okT] at hx

def srcRows (S : Nat → Option D) (H : Nat → Option Root) (x : Operand) (sz : Nat) : Option (List (List T)) :=
  match evC S x with
  | some (.view m sz' lo k) => if sz' = sz then match H m with
      | some (.arr sz2 rows) => if sz2 = sz ∧ lo + k ≤ rows.length ∧ ((rows.drop lo).take k).all (fun r => r.all okT) = true then some ((rows.drop lo).take k) else none
      | _ => none
    else none
  | some (.im (.sl sz' rows)) => if sz' = sz then some (rows.map (fun r => r.map T.im)) else none
  | some .nil => some []
  | _ => none

theorem at_list {f : Nat → Option Value} {k : Nat} (h : ∀ p, p < k → ∃ v, f p = some v) : ∃ vs : List Value, vs.length = k ∧ ∀ p, p < k → vs[p]? = f p := by
  refine ⟨(List.range k).map fun p => (f p).getD undef, by simp, fun p hp => ?_⟩
  obtain ⟨v, hv⟩ := h p hp
  simp [hp, hv]

theorem srcRows_sound (h : Rel en g S H a w) {x : Operand} {sz : Nat} {src : List (List T)} (hs0 : 0 < sz) (hd : srcRows S H x sz = some src) :
    ∃ A c news, a.eval x = .slice A src.length c ∧ Src g w sz src A news := by
  have hnil : ∀ A c, a.eval x = .slice A 0 c → src = [] → ∃ A c news, a.eval x = .slice A src.length c ∧ Src g w sz src A news := by
    rintro A c h1 rfl
    exact ⟨A, c, [], h1, by simp, fun i r hr => by simp at hr, .inl rfl, fun i r j x hr => by simp at hr⟩
  unfold srcRows at hd
  split at hd
  · rename_i m sz' lo k hx
    split at hd
    · rename_i hsz
      subst hsz
      split at hd
      · rename_i sz2 rows hm
        split at hd
        · rename_i hc
          obtain ⟨rfl, hk, hok⟩ := hc
          injection hd with hd
          have hv := evC_sound h hx
          obtain ⟨hu, hR⟩ := h.roots m _ hm
          generalize hev : a.eval x = u at hv
          cases hv with
          | view0 _ _ _ A hu' => exact hev ▸ hnil A 0 hev (by rw [← hd]; simp)
          | view _ _ _ _ cap hu' hb hl hc' =>
            have hlen : src.length = k := by rw [← hd]; simp; omega
            cases hR with
            | arr0 _ hs' h0 =>
              simp only [List.length_nil] at hk
              have : k = 0 := by omega
              subst this
              exact hev ▸ hnil _ cap hev (by rw [← hd]; simp)
            | mk _ cs e hh ho hf hr =>
              obtain ⟨hb0, hcs, hrl, hrows⟩ := hf
              have hcell : ∀ p, p < k * sz2 → ∃ v, cs[lo * sz2 + p]? = some v := by
                intro p hp
                have : lo * sz2 + p < cs.size := by
                  have h1 := Nat.mul_le_mul_right sz2 hk
                  rw [Nat.add_mul] at h1
                  omega
                exact ⟨_, Array.getElem?_eq_getElem this⟩
              obtain ⟨news, hn1, hn2⟩ := at_list hcell
              refine ⟨_, cap, news, by rw [hlen], by rw [hn1, hlen], fun i r hr' => ?_, .inr ⟨_, _, rfl, fun j v hv => ?_⟩, fun i r j y hr' hy => ?_⟩
              · rw [← hd, List.getElem?_take] at hr'
                split at hr'
                · rw [List.getElem?_drop] at hr'; exact hrows _ r hr'
                · cases hr'
              · have hj : j < k * sz2 := by rw [← hn1]; exact (List.getElem?_eq_some_iff.1 hv).1
                rw [hn2 j hj] at hv
                rw [cell_of_row w _ _ cs e _ hh]; exact hv
              · have hr2 : rows[lo + i]? = some r ∧ i < k := by
                  rw [← hd, List.getElem?_take] at hr'
                  split at hr'
                  · rename_i hik; rw [List.getElem?_drop] at hr'; exact ⟨hr', hik⟩
                  · cases hr'
                have hjs : j < sz2 := by rw [← hrows _ r hr2.1]; exact (List.getElem?_eq_some_iff.1 hy).1
                have hp : i * sz2 + j < k * sz2 := by
                  have h1 := Nat.mul_le_mul_right sz2 (show i + 1 ≤ k by omega)
                  rw [Nat.add_mul] at h1; omega
                obtain ⟨v, hv, hbr⟩ := hr (lo + i) j (.t y) (by simp [Root.get, hr2.1, hy])
                rw [hb0, Nat.zero_add] at hv
                have hokr : okT y = true := by
                  rw [List.all_eq_true] at hok
                  have h1 := hok r (by rw [hd]; exact List.mem_of_getElem? hr')
                  rw [List.all_eq_true] at h1
                  exact h1 y (List.mem_of_getElem? hy)
                refine ⟨v, ?_, by cases hbr with | t _ _ ht => exact okT_TF ht hokr⟩
                rw [hn2 _ hp, ← hv]
                simp only [Root.sz]
                rw [Nat.add_mul, Nat.add_assoc]
        · cases hd
      · cases hd
    · cases hd
  · rename_i sz' rows hx
    split at hd
    · rename_i hsz
      subst hsz
      injection hd with hd
      have hv := evC_sound h hx
      generalize hev : a.eval x = u at hv
      cases hv with
      | im _ _ hv =>
        rcases hv.sl_inv with ⟨h9, A, c, rfl⟩ | ⟨b, off, c, vs, rfl, hc, hlr, hx', hr⟩
        · exact hev ▸ hnil A c hev (by rw [← hd, h9]; rfl)
        · have hlen : src.length = rows.length := by rw [← hd]; simp
          have hcell : ∀ p, p < rows.length * sz' → ∃ v, w.cell? ⟨b, off + p, none⟩ = some v := by
            intro p hp
            have hi : p / sz' < rows.length := Nat.div_lt_of_lt_mul (by rw [Nat.mul_comm]; exact hp)
            have hj : p % sz' < sz' := Nat.mod_lt _ hs0
            have h1 := hlr _ _ (List.getElem?_eq_getElem hi)
            have h2 := hx' (p / sz') _ (p % sz') _ (List.getElem?_eq_getElem hi) (List.getElem?_eq_getElem (show p % sz' < (rows[p / sz']).length by omega))
            have h3 := (h.fz _ _ _ h2).1
            rw [Nat.add_assoc, Nat.mul_comm, Nat.div_add_mod] at h3
            exact ⟨_, h3⟩
          obtain ⟨news, hn1, hn2⟩ := at_list hcell
          refine ⟨_, c, news, by rw [hlen], by rw [hn1, hlen], fun i r hr' => ?_, .inr ⟨_, _, rfl, fun j v hv => ?_⟩, fun i r j y hr' hy => ?_⟩
          · rw [← hd, List.getElem?_map, Option.map_eq_some_iff] at hr'
            obtain ⟨r0, hr0, rfl⟩ := hr'
            simpa using hlr i r0 hr0
          · have hj : j < rows.length * sz' := by rw [← hn1]; exact (List.getElem?_eq_some_iff.1 hv).1
            rw [hn2 j hj] at hv; exact hv
          · rw [← hd, List.getElem?_map, Option.map_eq_some_iff] at hr'
            obtain ⟨r0, hr0, rfl⟩ := hr'
            rw [List.getElem?_map, Option.map_eq_some_iff] at hy
            obtain ⟨i0, hi0, rfl⟩ := hy
            have hj : j < sz' := by rw [← hlr i r0 hr0]; exact (List.getElem?_eq_some_iff.1 hi0).1
            have hil : i < rows.length := (List.getElem?_eq_some_iff.1 hr0).1
            have hp : i * sz' + j < rows.length * sz' := by
              have h1 := Nat.mul_le_mul_right sz' (show i + 1 ≤ rows.length by omega)
              rw [Nat.add_mul] at h1; omega
            refine ⟨vs i j, ?_, .im i0, rfl, .im _ _ (hr i r0 j i0 hr0 hi0)⟩
            rw [hn2 _ hp, ← (h.fz _ _ _ (hx' i r0 j i0 hr0 hi0)).1, Nat.add_assoc]
    · cases hd
  · rename_i hx
    injection hd with hd
    have hv := evC_sound h hx
    generalize hev : a.eval x = u at hv
    cases hv with
    | nil => exact hev ▸ hnil none 0 hev hd.symm
  · cases hd
end Go.SX
