/-
  slices.Grow at a nil slice: by the kit's own walk.
  No condition.
-/
import Derived.Test.YtbhnlplbfhomcaaRlB
import Derived.Below
import Derived.WalkKit
import Derived.Lib.Walk
import Derived.Lib.SliceRun
import Derived.Lib.AppendZerosOnto
set_option linter.unusedVariables false
set_option linter.unusedSimpArgs false
namespace Go.Proofs
open Go.Lib Go.RowKit

set_option maxHeartbeats 4000000 in
set_option maxRecDepth 100000 in
theorem grow_calls (n : Nat) (h1 : 1 ≤ n) (h2 : n ≤ 1000) (w : World) (i0 : TypeInfo) (z : Value) (hi0 : Try.prog.info? 47 = some i0) (hz0 : i0.zero = some z) (hs0 : 0 < i0.size) (hbig : n * i0.bytes ≤ 140737488355328) :
    Calls Try.prog 76 #[.slice none 0 0, .int .i64 n] w fun e w' =>
      e = .returned (.slice (some ⟨w.heap.size, 0, none⟩) 0 (grownCap w n 0 47)) ∧
      w' = w.drew.alloc (.cells (Builtin.zeroCells z.cells n ++ Builtin.zeroCells z.cells (grownCap w n 0 47 - n)) 47) := by
  have hold : (Builtin.firstCells i0.size 0 (.slice none 0 0)).run Try.prog w.drew = .ok ([] : List Value).toArray w.drew := run_firstCells_none w.drew i0.size 0 0 0
  have hrz : ∀ ty, (Builtin.append_ #[48, 3] ty #[.slice none 0 0, .int .i64 (n : Int)]).run Try.prog w =
      .ok (.slice (some ⟨w.heap.size, 0, none⟩) n (grownCap w n 0 47)) (w.drew.alloc (.cells (Builtin.zeroCells z.cells n ++ Builtin.zeroCells z.cells (grownCap w n 0 47 - n)) 47)) := fun ty => by
    have h := Lib.run_append_grow_zeros w 48 3 ty 47 i0 z .i64 .i64 Try.underlying48 Try.underlying3 hi0 hz0 none 0 0 [] hold n (by omega) hs0 (by omega) (by omega) (by omega) (by
      rw [Nat.zero_add]
      exact growslice_fits (by omega) hbig)
    simpa using h
  have hGn : n ≤ grownCap w n 0 47 := grownCap_ge w _ _ _
  obtain ⟨G, hG⟩ : ∃ G, G = grownCap w n 0 47 := ⟨_, rfl⟩
  rw [← hG] at hrz hGn ⊢
  have hG63 : G ≤ 9223372036854775807 := by
    have := grownCap_le_maxLen w n 0 47 (by unfold maxLen; omega)
    rw [← hG] at this
    unfold maxLen at this
    omega
  have g1 : ¬ ((n : Int) < 0) := by omega
  have g3 : wrap64 ((n : Int) - 0) = (n : Int) := by unfold wrap64; omega
  have g4 : (n : Int) > 0 := by omega
  clear hold hG
  go_enter Try.func76, Try.ntmps76
  go_wp2_with (at_builtin; refine Lib.wpList_append_run _ rfl _ _ _ _ rfl _ _ rfl rfl _ _ (hrz _) ?_)
  all_goals (go_ret; exact ⟨rfl, rfl⟩)
end Go.Proofs

namespace Go.SX
open Go Go.Proofs

abbrev N1k := { n : Nat // 1 ≤ n ∧ n ≤ 1000 }
def rEmp : Res := { val := .c (.view 0 2 0 0), roots := [.arr 2 []] }
noncomputable def ct_Grow : Ct := fam true (fun x : N1k => ([.c .nil, .c (.im (.int .i64 (x.1 : Int)))], [])) (fun _ => .one rEmp)
theorem run_Grow {n : Nat} (h1 : 1 ≤ n) (h2 : n ≤ 1000) : ct_Grow.run [.c .nil, .c (.im (.int .i64 (n : Int)))] [] = some (.one rEmp) := fam_run' (args := fun x : N1k => ([D.c .nil, .c (.im (.int .i64 (x.1 : Int)))], [])) (by
    intro a b h
    simp only [Prod.mk.injEq, List.cons.injEq, D.c.injEq, D.agg.injEq, C.im.injEq, I.cpx.injEq, I.flt.injEq, I.int.injEq, I.sl.injEq, I.bool.injEq, I.str.injEq, Int.natCast_inj, true_and, and_true] at h
    (try simp only [Prod.ext_iff, Subtype.ext_iff])
    (try simp only [rowsZ_eq, rowsN_eq] at h)
    simp_all) (⟨n, h1, h2⟩ : N1k)
theorem elT48 : ElT Try.prog 48 47 2 16 := elT Ty.tel48 Ty.tsz47 Ty.tby47 Ty.tzr47 rfl
set_option maxRecDepth 100000 in
theorem law_Grow : Law Try.prog 76 ct_Grow := by
  refine ⟨⟨fun ds hs o hr => ?_, fun ds hs o hr => ?_⟩, Try.f76, Try.func76, rfl, rfl⟩
  · simp only [ct_Grow, fam] at hr
    split at hr
    · injection hr with hr
      subst hr
      refine okO ⟨.c _ (.view _ _ _ _ (by simp [rEmp])), fun r hr => ?_, by simp [rEmp]⟩
      simp [rEmp] at hr
      subst hr
      exact fun r hr => by simp at hr
    · cases hr
  · simp only [ct_Grow, fam] at hr
    split at hr
    · rename_i hex
      injection hr with hr
      subst hr
      obtain ⟨⟨n, h1, h2⟩, hd⟩ := hex
      simp only [Prod.mk.injEq] at hd
      obtain ⟨rfl, rfl⟩ := hd
      intro en args hal hu hR
      obtain ⟨v0, hv0, d0⟩ := hR.slots 0 _ rfl
      obtain ⟨v1, hv1, d1⟩ := hR.slots 1 _ rfl
      have e0 : v0 = .slice none 0 0 := by cases d0 with | c _ _ h => cases h; rfl
      have e1 : v1 = .int .i64 (n : Int) := by cases d1 with | c _ _ h => cases h with | im _ _ h => cases h; rfl
      subst e0; subst e1
      have hargs : args.toArray = #[.slice none 0 0, .int .i64 (n : Int)] := by
        match args, hal with
        | [x, y], _ =>
          simp at hv0 hv1
          rw [hv0, hv1]
      rw [hargs]
      have hnu : ∀ m, ¬ en.g0.used m := fun m hm => by have := hu m hm; simp at this
      obtain ⟨i, z, hi, hsz, hby, hz, hzs⟩ := elT48.info
      have hpl : ∀ b', en.g0.own b' ≠ some (0, []) := fun b' hb' => hnu 0 (hR.fr.place b' 0 hb').1
      refine (grow_calls n h1 h2 en.w0 i z hi hz (by omega) (by rw [hby]; omega)).mono fun e w' ⟨he, hw'⟩ => ⟨_, he, rEmp, rfl, ?_⟩
      subst hw'
      have hge : n ≤ grownCap en.w0 n 0 47 := grownCap_ge en.w0 _ _ _
      have hG := grow_rel (nm := 0) (n := 0) (ty := 48) hR elT48 (by omega) (hnu 0) hpl (rows := []) (src := []) (olds := []) (news := []) (A := none) ⟨by simp, by simp, .inl rfl, by simp⟩ (by simp) (by simp) (by simp) (cap' := grownCap en.w0 n 0 47) (by simp)
        (Builtin.zeroCells z.cells n ++ Builtin.zeroCells z.cells (grownCap en.w0 n 0 47 - n)) (by
          simp only [Array.size_append, size_zeroCells, hzs, List.length_nil]
          rw [← Nat.add_mul]; congr 1; omega)
      rw [show ∀ X : Array Value, ([] : List Value).toArray ++ ([] : List Value).toArray ++ X = X from fun X => by simp] at hG
      obtain ⟨g', k1, k2, k3, k4⟩ := hG
      refine ⟨g', [0], (fun t => [D.c C.nil, D.c (C.im (I.int IntKind.i64 ↑n))][t]?), upd (upd (fun n => Option.map Root.box ([] : List (List B))[n]?) 0 none) 0 (some (.arr 2 [])), ⟨args.toArray, []⟩, .c (.view 0 2 0 0), k3, by simp, by simp [rEmp], fun m _ => hnu m, fun k r m hk hm => ?_, fun k c hc => ?_, rfl, .c _ _ k4⟩
      · match k with
        | 0 => simp [rEmp] at hk hm; subst hk; subst hm; simp [upd]
        | k + 1 => simp [rEmp] at hk
      · simp [rEmp] at hc
    · cases hr
end Go.SX
