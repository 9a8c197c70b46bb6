/-
  slices.Grow at nil and slices.Concat, at modules and at cables.
  rackOf; AddCable; AddModule; DropCable; DropModule; SwapModule.
  Racks and samples are the same as themselves: l5Same, l5SamePoint, l5SameList, MakeSame, SameModules, SameRacks.
  A rack is the same as itself: SameRacks.
  laws.FnBuilt: the walk.
  FnBuilt: the given statement: the law returns true at every input, which reads behind the call as it did. The frame: the lines of the kit's printed shell for a law over a slice.
  No condition.
-/
import Derived.Below
import Derived.WalkKit
import Derived.Lib.Walk
import Derived.Lib.SliceRun
import Derived.Lib.AppendZerosOnto
import Derived.Test.YtojcifdnmihebaaGreatRows
import Derived.ProofKit
import Derived.OpenShut
import Derived.ShutString
import Derived.ChangeOld
import Derived.Test.YtojcifdnmihebaaGreatPkH
set_option linter.unusedVariables false
set_option linter.unusedSimpArgs false
namespace Go.Proofs
open Go.Lib Go.RowKit
set_option maxHeartbeats 4000000 in
set_option maxRecDepth 100000 in
theorem grow_callsModule (n : Nat) (h1 : 1 ≤ n) (h2 : n ≤ 1000) (w : World) (i0 : TypeInfo) (z : Value) (hi0 : Tryz.prog.info? 37 = some i0) (hz0 : i0.zero = some z) (hs0 : 0 < i0.size) (hbig : n * i0.bytes ≤ 140737488355328) :
    Calls Tryz.prog 74 #[.slice none 0 0, .int .i64 n] w fun e w' =>
      e = .returned (.slice (some ⟨w.heap.size, 0, none⟩) 0 (grownCap w n 0 37)) ∧
      w' = w.drew.alloc (.cells (Builtin.zeroCells z.cells n ++ Builtin.zeroCells z.cells (grownCap w n 0 37 - n)) 37) := by
  have hold : (Builtin.firstCells i0.size 0 (.slice none 0 0)).run Tryz.prog w.drew = .ok ([] : List Value).toArray w.drew := run_firstCells_none w.drew i0.size 0 0 0
  have hrz : ∀ ty, (Builtin.append_ #[23, 3] ty #[.slice none 0 0, .int .i64 (n : Int)]).run Tryz.prog w =
      .ok (.slice (some ⟨w.heap.size, 0, none⟩) n (grownCap w n 0 37)) (w.drew.alloc (.cells (Builtin.zeroCells z.cells n ++ Builtin.zeroCells z.cells (grownCap w n 0 37 - n)) 37)) := fun ty => by
    have h := Lib.run_append_grow_zeros w 23 3 ty 37 i0 z .i64 .i64 Tryz.underlying23 Tryz.underlying3 hi0 hz0 none 0 0 [] hold n (by omega) hs0 (by omega) (by omega) (by omega) (by
      rw [Nat.zero_add]
      exact growslice_fits (by omega) hbig)
    simpa using h
  have hGn : n ≤ grownCap w n 0 37 := grownCap_ge w _ _ _
  obtain ⟨G, hG⟩ : ∃ G, G = grownCap w n 0 37 := ⟨_, rfl⟩
  rw [← hG] at hrz hGn ⊢
  have hG63 : G ≤ 9223372036854775807 := by
    have := grownCap_le_maxLen w n 0 37 (by unfold maxLen; omega)
    rw [← hG] at this
    unfold maxLen at this
    omega
  have g1 : ¬ ((n : Int) < 0) := by omega
  have g3 : wrap64 ((n : Int) - 0) = (n : Int) := by unfold wrap64; omega
  have g4 : (n : Int) > 0 := by omega
  clear hold hG
  go_enter Tryz.func74, Tryz.ntmps74
  go_wp2_with (at_builtin; refine Lib.wpList_append_run _ rfl _ _ _ _ rfl _ _ rfl rfl _ _ (hrz _) ?_)
  all_goals (go_ret; exact ⟨rfl, rfl⟩)
set_option maxHeartbeats 4000000 in
set_option maxRecDepth 100000 in
theorem grow_callsCable (n : Nat) (h1 : 1 ≤ n) (h2 : n ≤ 1000) (w : World) (i0 : TypeInfo) (z : Value) (hi0 : Tryz.prog.info? 64 = some i0) (hz0 : i0.zero = some z) (hs0 : 0 < i0.size) (hbig : n * i0.bytes ≤ 140737488355328) :
    Calls Tryz.prog 75 #[.slice none 0 0, .int .i64 n] w fun e w' =>
      e = .returned (.slice (some ⟨w.heap.size, 0, none⟩) 0 (grownCap w n 0 64)) ∧
      w' = w.drew.alloc (.cells (Builtin.zeroCells z.cells n ++ Builtin.zeroCells z.cells (grownCap w n 0 64 - n)) 64) := by
  have hold : (Builtin.firstCells i0.size 0 (.slice none 0 0)).run Tryz.prog w.drew = .ok ([] : List Value).toArray w.drew := run_firstCells_none w.drew i0.size 0 0 0
  have hrz : ∀ ty, (Builtin.append_ #[24, 3] ty #[.slice none 0 0, .int .i64 (n : Int)]).run Tryz.prog w =
      .ok (.slice (some ⟨w.heap.size, 0, none⟩) n (grownCap w n 0 64)) (w.drew.alloc (.cells (Builtin.zeroCells z.cells n ++ Builtin.zeroCells z.cells (grownCap w n 0 64 - n)) 64)) := fun ty => by
    have h := Lib.run_append_grow_zeros w 24 3 ty 64 i0 z .i64 .i64 Tryz.underlying24 Tryz.underlying3 hi0 hz0 none 0 0 [] hold n (by omega) hs0 (by omega) (by omega) (by omega) (by
      rw [Nat.zero_add]
      exact growslice_fits (by omega) hbig)
    simpa using h
  have hGn : n ≤ grownCap w n 0 64 := grownCap_ge w _ _ _
  obtain ⟨G, hG⟩ : ∃ G, G = grownCap w n 0 64 := ⟨_, rfl⟩
  rw [← hG] at hrz hGn ⊢
  have hG63 : G ≤ 9223372036854775807 := by
    have := grownCap_le_maxLen w n 0 64 (by unfold maxLen; omega)
    rw [← hG] at this
    unfold maxLen at this
    omega
  have g1 : ¬ ((n : Int) < 0) := by omega
  have g3 : wrap64 ((n : Int) - 0) = (n : Int) := by unfold wrap64; omega
  have g4 : (n : Int) > 0 := by omega
  clear hold hG
  go_enter Tryz.func75, Tryz.ntmps75
  go_wp2_with (at_builtin; refine Lib.wpList_append_run _ rfl _ _ _ _ rfl _ _ rfl rfl _ _ (hrz _) ?_)
  all_goals (go_ret; exact ⟨rfl, rfl⟩)
set_option maxHeartbeats 4000000 in
set_option maxRecDepth 100000 in
theorem grow_calls0 (w : World) : Calls Tryz.prog 75 #[.slice none 0 0, .int .i64 0] w fun e w' => e = .returned (.slice none 0 0) ∧ w' = w := by
  go_enter Tryz.func75, Tryz.ntmps75
  go_wp2
  all_goals (go_ret; exact ⟨rfl, rfl⟩)
end Go.Proofs
namespace Go.SX
open Go Go.Proofs
abbrev N1kModule := { n : Nat // 1 ≤ n ∧ n ≤ 1000 }
def rEmpModule : Res := { val := .c (.view 0 11 0 0), roots := [.arr 11 []] }
noncomputable def ct_GrowModule : Ct := fam true (fun x : N1kModule => ([.c .nil, .c (.im (.int .i64 (x.1 : Int)))], [])) (fun _ => .one rEmpModule)
theorem run_GrowModule {n : Nat} (h1 : 1 ≤ n) (h2 : n ≤ 1000) : ct_GrowModule.run [.c .nil, .c (.im (.int .i64 (n : Int)))] [] = some (.one rEmpModule) := fam_run' (args := fun x : N1kModule => ([D.c .nil, .c (.im (.int .i64 (x.1 : Int)))], [])) (by
    intro a b h
    simp only [Prod.mk.injEq, List.cons.injEq, D.c.injEq, D.agg.injEq, C.im.injEq, I.cpx.injEq, I.flt.injEq, I.int.injEq, I.sl.injEq, I.bool.injEq, I.str.injEq, Int.natCast_inj, true_and, and_true] at h
    (try simp only [Prod.ext_iff, Subtype.ext_iff])
    (try simp only [rowsZ_eq, rowsN_eq] at h)
    simp_all) (⟨n, h1, h2⟩ : N1kModule)
theorem elTModule : ElT Tryz.prog 23 37 11 136 := elT Ty.tel23 Ty.tsz37 Ty.tby37 Ty.tzr37 rfl
set_option maxRecDepth 100000 in
theorem law_GrowModule : Law Tryz.prog 74 ct_GrowModule := by
  refine ⟨⟨fun ds hs o hr => ?_, fun ds hs o hr => ?_⟩, Tryz.f74, Tryz.func74, rfl, rfl⟩
  · simp only [ct_GrowModule, fam] at hr
    split at hr
    · injection hr with hr
      subst hr
      refine okO ⟨.c _ (.view _ _ _ _ (by simp [rEmpModule])), fun r hr => ?_, by simp [rEmpModule]⟩
      simp [rEmpModule] at hr
      subst hr
      exact fun r hr => by simp at hr
    · cases hr
  · simp only [ct_GrowModule, fam] at hr
    split at hr
    · rename_i hex
      injection hr with hr
      subst hr
      obtain ⟨⟨n, h1, h2⟩, hd⟩ := hex
      simp only [Prod.mk.injEq] at hd
      obtain ⟨rfl, rfl⟩ := hd
      intro en args hal hu hR
      obtain ⟨v0, hv0, d0⟩ := hR.slots 0 _ rfl
      obtain ⟨v1, hv1, d1⟩ := hR.slots 1 _ rfl
      have e0 : v0 = .slice none 0 0 := by cases d0 with | c _ _ h => cases h; rfl
      have e1 : v1 = .int .i64 (n : Int) := by cases d1 with | c _ _ h => cases h with | im _ _ h => cases h; rfl
      subst e0; subst e1
      have hargs : args.toArray = #[.slice none 0 0, .int .i64 (n : Int)] := by
        match args, hal with
        | [x, y], _ =>
          simp at hv0 hv1
          rw [hv0, hv1]
      rw [hargs]
      have hnu : ∀ m, ¬ en.g0.used m := fun m hm => by have := hu m hm; simp at this
      obtain ⟨i, z, hi, hsz, hby, hz, hzs⟩ := elTModule.info
      have hpl : ∀ b', en.g0.own b' ≠ some (0, []) := fun b' hb' => hnu 0 (hR.fr.place b' 0 hb').1
      refine (grow_callsModule n h1 h2 en.w0 i z hi hz (by omega) (by rw [hby]; omega)).mono fun e w' ⟨he, hw'⟩ => ⟨_, he, rEmpModule, rfl, ?_⟩
      subst hw'
      have hge : n ≤ grownCap en.w0 n 0 37 := grownCap_ge en.w0 _ _ _
      have hG := grow_rel (nm := 0) (n := 0) (ty := 23) hR elTModule (by omega) (hnu 0) hpl (rows := []) (src := []) (olds := []) (news := []) (A := none) ⟨by simp, by simp, .inl rfl, by simp⟩ (by simp) (by simp) (by simp) (cap' := grownCap en.w0 n 0 37) (by simp)
        (Builtin.zeroCells z.cells n ++ Builtin.zeroCells z.cells (grownCap en.w0 n 0 37 - n)) (by
          simp only [Array.size_append, size_zeroCells, hzs, List.length_nil]
          rw [← Nat.add_mul]; congr 1; omega)
      rw [show ∀ X : Array Value, ([] : List Value).toArray ++ ([] : List Value).toArray ++ X = X from fun X => by simp] at hG
      obtain ⟨g', k1, k2, k3, k4⟩ := hG
      refine ⟨g', [0], (fun t => [D.c C.nil, D.c (C.im (I.int IntKind.i64 ↑n))][t]?), upd (upd (fun n => Option.map Root.box ([] : List (List B))[n]?) 0 none) 0 (some (.arr 11 [])), ⟨args.toArray, []⟩, .c (.view 0 11 0 0), k3, by simp, by simp [rEmpModule], fun m _ => hnu m, fun k r m hk hm => ?_, fun k c hc => ?_, rfl, .c _ _ k4⟩
      · match k with
        | 0 => simp [rEmpModule] at hk hm; subst hk; subst hm; simp [upd]
        | k + 1 => simp [rEmpModule] at hk
      · simp [rEmpModule] at hc
    · cases hr
abbrev N1kCable := { n : Nat // n ≤ 1000 }
def rEmpCable : Res := { val := .c (.view 0 2 0 0), roots := [.arr 2 []] }
noncomputable def ct_GrowCable : Ct := fam true (fun x : N1kCable => ([.c .nil, .c (.im (.int .i64 (x.1 : Int)))], [])) (fun _ => .one rEmpCable)
theorem run_GrowCable {n : Nat} (h2 : n ≤ 1000) : ct_GrowCable.run [.c .nil, .c (.im (.int .i64 (n : Int)))] [] = some (.one rEmpCable) := fam_run' (args := fun x : N1kCable => ([D.c .nil, .c (.im (.int .i64 (x.1 : Int)))], [])) (by
    intro a b h
    simp only [Prod.mk.injEq, List.cons.injEq, D.c.injEq, D.agg.injEq, C.im.injEq, I.cpx.injEq, I.flt.injEq, I.int.injEq, I.sl.injEq, I.bool.injEq, I.str.injEq, Int.natCast_inj, true_and, and_true] at h
    (try simp only [Prod.ext_iff, Subtype.ext_iff])
    (try simp only [rowsZ_eq, rowsN_eq] at h)
    simp_all) (⟨n, h2⟩ : N1kCable)
theorem elTCable : ElT Tryz.prog 24 64 2 16 := elT Ty.tel24 Ty.tsz64 Ty.tby64 Ty.tzr64 rfl
set_option maxRecDepth 100000 in
theorem law_GrowCable : Law Tryz.prog 75 ct_GrowCable := by
  refine ⟨⟨fun ds hs o hr => ?_, fun ds hs o hr => ?_⟩, Tryz.f75, Tryz.func75, rfl, rfl⟩
  · simp only [ct_GrowCable, fam] at hr
    split at hr
    · injection hr with hr
      subst hr
      refine okO ⟨.c _ (.view _ _ _ _ (by simp [rEmpCable])), fun r hr => ?_, by simp [rEmpCable]⟩
      simp [rEmpCable] at hr
      subst hr
      exact fun r hr => by simp at hr
    · cases hr
  · simp only [ct_GrowCable, fam] at hr
    split at hr
    · rename_i hex
      injection hr with hr
      subst hr
      obtain ⟨⟨n, h2⟩, hd⟩ := hex
      simp only [Prod.mk.injEq] at hd
      obtain ⟨rfl, rfl⟩ := hd
      intro en args hal hu hR
      obtain ⟨v0, hv0, d0⟩ := hR.slots 0 _ rfl
      obtain ⟨v1, hv1, d1⟩ := hR.slots 1 _ rfl
      have e0 : v0 = .slice none 0 0 := by cases d0 with | c _ _ h => cases h; rfl
      have e1 : v1 = .int .i64 (n : Int) := by cases d1 with | c _ _ h => cases h with | im _ _ h => cases h; rfl
      subst e0; subst e1
      have hargs : args.toArray = #[.slice none 0 0, .int .i64 (n : Int)] := by
        match args, hal with
        | [x, y], _ =>
          simp at hv0 hv1
          rw [hv0, hv1]
      rw [hargs]
      have hnu : ∀ m, ¬ en.g0.used m := fun m hm => by have := hu m hm; simp at this
      by_cases h0 : n = 0
      · subst h0
        refine (grow_calls0 en.w0).mono fun e w' ⟨he, hw'⟩ => ⟨_, he, rEmpCable, rfl, ?_⟩
        subst hw'
        obtain ⟨g', k1, k2, k3, k4⟩ := hR.new0 (hnu 0) (show 0 < 2 by omega) 0
        refine ⟨g', [0], (fun t => [D.c C.nil, D.c (C.im (I.int IntKind.i64 ((0 : Nat) : Int)))][t]?), upd (upd (fun n => Option.map Root.box ([] : List (List B))[n]?) 0 none) 0 (some (.arr 2 [])), ⟨args.toArray, []⟩, .c (.view 0 2 0 0), k4, by simp, by simp [rEmpCable], fun m _ => hnu m, fun k r m hk hm => ?_, fun k c hc => ?_, rfl, .c _ _ (.view0 _ _ _ _ k2)⟩
        · match k with
          | 0 => simp [rEmpCable] at hk hm; subst hk; subst hm; simp [upd]
          | k + 1 => simp [rEmpCable] at hk
        · simp [rEmpCable] at hc
      have h1 : 1 ≤ n := by omega
      obtain ⟨i, z, hi, hsz, hby, hz, hzs⟩ := elTCable.info
      have hpl : ∀ b', en.g0.own b' ≠ some (0, []) := fun b' hb' => hnu 0 (hR.fr.place b' 0 hb').1
      refine (grow_callsCable n h1 h2 en.w0 i z hi hz (by omega) (by rw [hby]; omega)).mono fun e w' ⟨he, hw'⟩ => ⟨_, he, rEmpCable, rfl, ?_⟩
      subst hw'
      have hge : n ≤ grownCap en.w0 n 0 64 := grownCap_ge en.w0 _ _ _
      have hG := grow_rel (nm := 0) (n := 0) (ty := 24) hR elTCable (by omega) (hnu 0) hpl (rows := []) (src := []) (olds := []) (news := []) (A := none) ⟨by simp, by simp, .inl rfl, by simp⟩ (by simp) (by simp) (by simp) (cap' := grownCap en.w0 n 0 64) (by simp)
        (Builtin.zeroCells z.cells n ++ Builtin.zeroCells z.cells (grownCap en.w0 n 0 64 - n)) (by
          simp only [Array.size_append, size_zeroCells, hzs, List.length_nil]
          rw [← Nat.add_mul]; congr 1; omega)
      rw [show ∀ X : Array Value, ([] : List Value).toArray ++ ([] : List Value).toArray ++ X = X from fun X => by simp] at hG
      obtain ⟨g', k1, k2, k3, k4⟩ := hG
      refine ⟨g', [0], (fun t => [D.c C.nil, D.c (C.im (I.int IntKind.i64 ↑n))][t]?), upd (upd (fun n => Option.map Root.box ([] : List (List B))[n]?) 0 none) 0 (some (.arr 2 [])), ⟨args.toArray, []⟩, .c (.view 0 2 0 0), k3, by simp, by simp [rEmpCable], fun m _ => hnu m, fun k r m hk hm => ?_, fun k c hc => ?_, rfl, .c _ _ k4⟩
      · match k with
        | 0 => simp [rEmpCable] at hk hm; subst hk; subst hm; simp [upd]
        | k + 1 => simp [rEmpCable] at hk
      · simp [rEmpCable] at hc
    · cases hr
structure ACatModule where
  a : List Mod
  b : List Mod
  la : a.length ≤ 500
  lb : b.length ≤ 500
  pos : 1 ≤ a.length + b.length
noncomputable def ct_ConcatModule : Ct := fam false (fun x : ACatModule => ([.c (.im (.sl 1 [[.sl 11 (rowsM x.a)], [.sl 11 (rowsM x.b)]]))], [])) (fun x => .one (rNew 11 (rowsM (x.a ++ x.b))))
theorem run_ConcatModule {a b : List Mod} (h1 : a.length ≤ 500) (h2 : b.length ≤ 500) (h3 : 1 ≤ a.length + b.length) : ct_ConcatModule.run [.c (.im (.sl 1 [[.sl 11 (rowsM a)], [.sl 11 (rowsM b)]]))] [] = some (.one (rNew 11 (rowsM (a ++ b)))) := by
  refine fam_run' (args := fun x : ACatModule => ([D.c (.im (.sl 1 [[.sl 11 (rowsM x.a)], [.sl 11 (rowsM x.b)]]))], [])) ?_ ⟨a, b, h1, h2, h3⟩
  rintro ⟨a, b, _, _, _⟩ ⟨a', b', _, _, _⟩ h
  simp [rowsM_eq] at h ⊢
  exact h
theorem sc_ConcatModule : (ct_ConcatModule.sc = true) = False := by simp [ct_ConcatModule, fam]
theorem okR_newM {ms : List Mod} : OkR false (rNew 11 (rowsM ms)) := by
  refine ⟨.c _ (.view _ _ _ _ (by simp [rNew])), fun r hr => ?_, by simp [rNew]⟩
  simp only [rNew, List.mem_singleton] at hr
  subst hr
  exact sc_false _ _
def szKModule (a b : List Mod) : Nat → Int
  | 0 => 0
  | 1 => (a.length : Int)
  | _ + 2 => ((a.length + b.length : Nat) : Int)
def ctKModule (a b : List Mod) : Nat → List Mod
  | 0 => []
  | 1 => a
  | _ + 2 => a ++ b
set_option maxRecDepth 100000 in
set_option maxHeartbeats 4000000 in
theorem law_ConcatModule : Law Tryz.prog 34 ct_ConcatModule := by
  refine fam_law (Env_cons law_GrowModule Env_nil) hmixA Tryz.func34 rfl rfl (fun ⟨a, b, h1, h2, h3⟩ => ⟨okO okR_newM, by simp [Tryz.f34], ?_⟩)
  simp only [rNew]
  have hsm : sm = 16777216 := rfl
  have s1 : IntKind.i64.wrap (0 + (a.length : Int)) = (a.length : Int) := by rw [wrap_id (by omega) (by omega)]; omega
  have s2 : IntKind.i64.wrap ((a.length : Int) + (b.length : Int)) = ((a.length + b.length : Nat) : Int) := by rw [wrap_id (by omega) (by omega)]; omega
  have n1 : ((a.length : Int) < 0) = False := eq_false (by omega)
  have n2 : (((a.length + b.length : Nat) : Int) < 0) = False := eq_false (by omega)
  have c0 : ((0 : Nat) : Int) = 0 := rfl
  have c1 : ((1 : Nat) : Int) = 1 := rfl
  have c2 : ((2 : Nat) : Int) = 2 := rfl
  have w1 : IntKind.i64.wrap 1 = 1 := rfl
  have w2 : IntKind.i64.wrap 2 = 2 := rfl
  have z0 : szKModule a b 0 = 0 := rfl
  have z1 : szKModule a b 1 = (a.length : Int) := rfl
  have z2 : szKModule a b 2 = ((a.length + b.length : Nat) : Int) := rfl
  have q0 : ctKModule a b 0 = [] := rfl
  have q1 : ctKModule a b 1 = a := rfl
  have q2 : ctKModule a b 2 = a ++ b := rfl
  try simp -dsimp (maxSteps := 1000000) only [go_sem, List.forall_mem_nil, ↓reduceIte, Nat.reduceEqDiff, Nat.reduceLT, Nat.reduceLeDiff, Nat.reduceAdd, Nat.reduceMul, reduceCtorEq, Tryz.f34, c2]
  refine loop_i (ι := { k : Nat // k ≤ 2 }) (fun k => ⟨[(0, some (.c (.im (.sl 1 [[.sl 11 (rowsM a)], [.sl 11 (rowsM b)]])))), (3, some (.c (.im (.int .i64 (szKModule a b k.1))))), (9, some (.c (.im (.sl 1 [[.sl 11 (rowsM a)], [.sl 11 (rowsM b)]])))), (10, some (.c (.im (.int .i64 2)))), (11, some (.c (.im (.int .i64 (k.1 : Int)))))], [], 0⟩) (fun k => 2 - k.1) ⟨0, by simp⟩ ⟨[], [], by (simp only [go_sem, eq_self, MvRb, MvRn, MvRt, List.nodup_cons, List.nodup_nil, ↓reduceIte, Nat.reduceEqDiff, Nat.reduceLT, Nat.reduceLeDiff, reduceCtorEq, List.forall_mem_nil, Nat.zero_le, false_implies, List.mem_singleton, z0, c0]) <;> simp⟩ (fun ⟨k, hk⟩ => ?_)
  simp only
  match k, hk with
  | 0, _ =>
    try simp -dsimp (maxSteps := 1000000) only [go_sem, List.forall_mem_nil, ↓reduceIte, Nat.reduceEqDiff, Nat.reduceLT, Nat.reduceLeDiff, Nat.reduceAdd, Nat.reduceMul, reduceCtorEq, Tryz.f34, z0, c0, s1, n1, w1, rowsM_len, Int.reduceLT, Int.reduceLE, Int.reduceToNat, Int.reduceAdd, Int.toNat_zero]
    exact ⟨⟨1, by omega⟩, by simp, [], [], by (simp only [go_sem, eq_self, MvRb, MvRn, MvRt, List.nodup_cons, List.nodup_nil, ↓reduceIte, Nat.reduceEqDiff, Nat.reduceLT, Nat.reduceLeDiff, reduceCtorEq, List.forall_mem_nil, Nat.zero_le, false_implies, List.mem_singleton, z1, c1]) <;> simp⟩
  | 1, _ =>
    try simp -dsimp (maxSteps := 1000000) only [go_sem, List.forall_mem_nil, ↓reduceIte, Nat.reduceEqDiff, Nat.reduceLT, Nat.reduceLeDiff, Nat.reduceAdd, Nat.reduceMul, reduceCtorEq, Tryz.f34, z1, c1, s2, n2, w2, rowsM_len, Int.reduceLT, Int.reduceLE, Int.reduceToNat, Int.reduceAdd, Int.toNat_zero]
    exact ⟨⟨2, by omega⟩, by simp, [], [], by (simp only [go_sem, eq_self, MvRb, MvRn, MvRt, List.nodup_cons, List.nodup_nil, ↓reduceIte, Nat.reduceEqDiff, Nat.reduceLT, Nat.reduceLeDiff, reduceCtorEq, List.forall_mem_nil, Nat.zero_le, false_implies, List.mem_singleton, z2, c2]) <;> simp⟩
  | 2, _ =>
    try simp -dsimp (maxSteps := 1000000) only [go_sem, List.forall_mem_nil, ↓reduceIte, Nat.reduceEqDiff, Nat.reduceLT, Nat.reduceLeDiff, Nat.reduceAdd, Nat.reduceMul, reduceCtorEq, Tryz.f34, z2, c2, run_GrowModule (n := a.length + b.length) (by omega) (by omega), rEmpModule, rowsM_len, Int.reduceLT, Int.reduceLE, Int.reduceToNat]
    have b1 : (a.length * 136 ≤ 140737488355328) = True := eq_true (by omega)
    have b2 : ((a.length + b.length) * 136 ≤ 140737488355328) = True := eq_true (by omega)
    have r0 : ctKModule a b 0 = [] := rfl
    have r1 : ctKModule a b 1 = a := rfl
    have r2 : ctKModule a b 2 = a ++ b := rfl
    have ha : tI (rowsM a) ++ tI (rowsM b) = tI (rowsM (a ++ b)) := by simp [tI, rowsM]
    refine loop_i (ι := { k : Nat // k ≤ 2 }) (fun k => ⟨[(6, some (.c (.view 0 11 0 (ctKModule a b k.1).length))), (25, some (.c (.im (.sl 1 [[.sl 11 (rowsM a)], [.sl 11 (rowsM b)]])))), (26, some (.c (.im (.int .i64 2)))), (27, some (.c (.im (.int .i64 (k.1 : Int)))))], [(0, some (.arr 11 (tI (rowsM (ctKModule a b k.1)))))], 1⟩) (fun k => 2 - k.1) ⟨0, by simp⟩ ⟨[], [0], by ((simp only [go_sem, eq_self, MvRb, MvRn, MvRt, List.nodup_cons, List.nodup_nil, ↓reduceIte, Nat.reduceEqDiff, Nat.reduceLT, Nat.reduceLeDiff, reduceCtorEq, List.forall_mem_nil, Nat.zero_le, false_implies, List.mem_singleton, MvR_Mi]) <;> (try (simp -dsimp only [go_sem, eq_self, MvRb, MvRn, MvRt, List.nodup_cons, List.nodup_nil, ↓reduceIte, Nat.reduceEqDiff, Nat.reduceLT, Nat.reduceLeDiff, reduceCtorEq, List.forall_mem_nil, Nat.zero_le, false_implies, List.mem_singleton, MvR_Mi]))) <;> simp [ctKModule, rowsM, tI]⟩ (fun ⟨k, hk⟩ => ?_)
    simp only
    match k, hk with
    | 0, _ =>
      try simp -dsimp (maxSteps := 1000000) only [go_sem, List.forall_mem_nil, ↓reduceIte, Nat.reduceEqDiff, Nat.reduceLT, Nat.reduceLeDiff, Nat.reduceAdd, Nat.reduceMul, reduceCtorEq, Tryz.f34, r0, c0, w1, b1, map_im_tI, rowsM_len, tI_len, List.length_map, appendH, srcRows, show tI (rowsM []) = [] from rfl, Int.reduceLT, Int.reduceLE, Int.reduceToNat, Int.reduceAdd, Int.toNat_zero]
      exact ⟨⟨1, by omega⟩, by simp, [], [1], by (simp only [go_sem, eq_self, MvRb, MvRn, MvRt, List.nodup_cons, List.nodup_nil, ↓reduceIte, Nat.reduceEqDiff, Nat.reduceLT, Nat.reduceLeDiff, reduceCtorEq, List.forall_mem_nil, Nat.zero_le, false_implies, List.mem_singleton, r1, c1, MvR_Mi]) <;> simp [lk]⟩
    | 1, _ =>
      try simp -dsimp (maxSteps := 1000000) only [go_sem, List.forall_mem_nil, ↓reduceIte, Nat.reduceEqDiff, Nat.reduceLT, Nat.reduceLeDiff, Nat.reduceAdd, Nat.reduceMul, reduceCtorEq, Tryz.f34, r1, c1, w2, b2, ha, map_im_tI, rowsM_len, tI_len, List.length_map, List.length_append, appendH, srcRows, Int.reduceLT, Int.reduceLE, Int.reduceToNat, Int.reduceAdd, Int.toNat_zero]
      exact ⟨⟨2, by omega⟩, by simp, [], [1], by (simp only [go_sem, eq_self, MvRb, MvRn, MvRt, List.nodup_cons, List.nodup_nil, ↓reduceIte, Nat.reduceEqDiff, Nat.reduceLT, Nat.reduceLeDiff, reduceCtorEq, List.forall_mem_nil, Nat.zero_le, false_implies, List.mem_singleton, r2, c2, MvR_Mi, List.length_append]) <;> simp [lk]⟩
    | 2, _ =>
      try simp -dsimp (maxSteps := 1000000) only [go_sem, List.forall_mem_nil, ↓reduceIte, Nat.reduceEqDiff, Nat.reduceLT, Nat.reduceLeDiff, Nat.reduceAdd, Nat.reduceMul, reduceCtorEq, Tryz.f34, r2, c2, Int.reduceLT, Int.reduceLE, Int.reduceToNat, List.length_append, rowsM_len, tI_len]
      exact ⟨[0], by simp, by simp, by simp [rtOk], by simp [rowsM_len]⟩
structure ACatCable where
  a : List Cbl
  b : List Cbl
  la : a.length ≤ 500
  lb : b.length ≤ 500
noncomputable def ct_ConcatCable : Ct := fam true (fun x : ACatCable => ([.c (.im (.sl 1 [[.sl 2 (rowsC x.a)], [.sl 2 (rowsC x.b)]]))], [])) (fun x => .one (rNew 2 (rowsC (x.a ++ x.b))))
theorem run_ConcatCable {a b : List Cbl} (h1 : a.length ≤ 500) (h2 : b.length ≤ 500) : ct_ConcatCable.run [.c (.im (.sl 1 [[.sl 2 (rowsC a)], [.sl 2 (rowsC b)]]))] [] = some (.one (rNew 2 (rowsC (a ++ b)))) := by
  refine fam_run' (args := fun x : ACatCable => ([D.c (.im (.sl 1 [[.sl 2 (rowsC x.a)], [.sl 2 (rowsC x.b)]]))], [])) ?_ ⟨a, b, h1, h2⟩
  rintro ⟨a, b, _, _⟩ ⟨a', b', _, _⟩ h
  simp [rowsC_eq] at h ⊢
  exact h
theorem sc_ConcatCable : (ct_ConcatCable.sc = true) = True := by simp [ct_ConcatCable, fam]
def szKCable (a b : List Cbl) : Nat → Int
  | 0 => 0
  | 1 => (a.length : Int)
  | _ + 2 => ((a.length + b.length : Nat) : Int)
def ctKCable (a b : List Cbl) : Nat → List Cbl
  | 0 => []
  | 1 => a
  | _ + 2 => a ++ b
set_option maxRecDepth 100000 in
set_option maxHeartbeats 4000000 in
theorem law_ConcatCable : Law Tryz.prog 35 ct_ConcatCable := by
  refine fam_law (Env_cons law_GrowCable Env_nil) hmixA Tryz.func35 rfl rfl (fun ⟨a, b, h1, h2⟩ => ⟨okO (okR_new (sc_rowsC _)), by simp [Tryz.f35], ?_⟩)
  simp only [rNew]
  have hsm : sm = 16777216 := rfl
  have s1 : IntKind.i64.wrap (0 + (a.length : Int)) = (a.length : Int) := by rw [wrap_id (by omega) (by omega)]; omega
  have s2 : IntKind.i64.wrap ((a.length : Int) + (b.length : Int)) = ((a.length + b.length : Nat) : Int) := by rw [wrap_id (by omega) (by omega)]; omega
  have n1 : ((a.length : Int) < 0) = False := eq_false (by omega)
  have n2 : (((a.length + b.length : Nat) : Int) < 0) = False := eq_false (by omega)
  have c0 : ((0 : Nat) : Int) = 0 := rfl
  have c1 : ((1 : Nat) : Int) = 1 := rfl
  have c2 : ((2 : Nat) : Int) = 2 := rfl
  have w1 : IntKind.i64.wrap 1 = 1 := rfl
  have w2 : IntKind.i64.wrap 2 = 2 := rfl
  have z0 : szKCable a b 0 = 0 := rfl
  have z1 : szKCable a b 1 = (a.length : Int) := rfl
  have z2 : szKCable a b 2 = ((a.length + b.length : Nat) : Int) := rfl
  have q0 : ctKCable a b 0 = [] := rfl
  have q1 : ctKCable a b 1 = a := rfl
  have q2 : ctKCable a b 2 = a ++ b := rfl
  try simp -dsimp (maxSteps := 1000000) only [go_sem, List.forall_mem_nil, ↓reduceIte, Nat.reduceEqDiff, Nat.reduceLT, Nat.reduceLeDiff, Nat.reduceAdd, Nat.reduceMul, reduceCtorEq, Tryz.f35, c2]
  refine loop_i (ι := { k : Nat // k ≤ 2 }) (fun k => ⟨[(0, some (.c (.im (.sl 1 [[.sl 2 (rowsC a)], [.sl 2 (rowsC b)]])))), (3, some (.c (.im (.int .i64 (szKCable a b k.1))))), (9, some (.c (.im (.sl 1 [[.sl 2 (rowsC a)], [.sl 2 (rowsC b)]])))), (10, some (.c (.im (.int .i64 2)))), (11, some (.c (.im (.int .i64 (k.1 : Int)))))], [], 0⟩) (fun k => 2 - k.1) ⟨0, by simp⟩ ⟨[], [], by (simp only [go_sem, eq_self, MvRb, MvRn, MvRt, List.nodup_cons, List.nodup_nil, ↓reduceIte, Nat.reduceEqDiff, Nat.reduceLT, Nat.reduceLeDiff, reduceCtorEq, List.forall_mem_nil, Nat.zero_le, false_implies, List.mem_singleton, z0, c0]) <;> simp⟩ (fun ⟨k, hk⟩ => ?_)
  simp only
  match k, hk with
  | 0, _ =>
    try simp -dsimp (maxSteps := 1000000) only [go_sem, List.forall_mem_nil, ↓reduceIte, Nat.reduceEqDiff, Nat.reduceLT, Nat.reduceLeDiff, Nat.reduceAdd, Nat.reduceMul, reduceCtorEq, Tryz.f35, z0, c0, s1, n1, w1, rowsC_len, Int.reduceLT, Int.reduceLE, Int.reduceToNat, Int.reduceAdd, Int.toNat_zero]
    exact ⟨⟨1, by omega⟩, by simp, [], [], by (simp only [go_sem, eq_self, MvRb, MvRn, MvRt, List.nodup_cons, List.nodup_nil, ↓reduceIte, Nat.reduceEqDiff, Nat.reduceLT, Nat.reduceLeDiff, reduceCtorEq, List.forall_mem_nil, Nat.zero_le, false_implies, List.mem_singleton, z1, c1]) <;> simp⟩
  | 1, _ =>
    try simp -dsimp (maxSteps := 1000000) only [go_sem, List.forall_mem_nil, ↓reduceIte, Nat.reduceEqDiff, Nat.reduceLT, Nat.reduceLeDiff, Nat.reduceAdd, Nat.reduceMul, reduceCtorEq, Tryz.f35, z1, c1, s2, n2, w2, rowsC_len, Int.reduceLT, Int.reduceLE, Int.reduceToNat, Int.reduceAdd, Int.toNat_zero]
    exact ⟨⟨2, by omega⟩, by simp, [], [], by (simp only [go_sem, eq_self, MvRb, MvRn, MvRt, List.nodup_cons, List.nodup_nil, ↓reduceIte, Nat.reduceEqDiff, Nat.reduceLT, Nat.reduceLeDiff, reduceCtorEq, List.forall_mem_nil, Nat.zero_le, false_implies, List.mem_singleton, z2, c2]) <;> simp⟩
  | 2, _ =>
    try simp -dsimp (maxSteps := 1000000) only [go_sem, List.forall_mem_nil, ↓reduceIte, Nat.reduceEqDiff, Nat.reduceLT, Nat.reduceLeDiff, Nat.reduceAdd, Nat.reduceMul, reduceCtorEq, Tryz.f35, z2, c2, run_GrowCable (n := a.length + b.length) (by omega), rEmpCable, rowsC_len, Int.reduceLT, Int.reduceLE, Int.reduceToNat]
    have b1 : (a.length * 16 ≤ 140737488355328) = True := bytes_sm (by omega) (by decide)
    have b2 : ((a.length + b.length) * 16 ≤ 140737488355328) = True := bytes_sm (by omega) (by decide)
    have r0 : ctKCable a b 0 = [] := rfl
    have r1 : ctKCable a b 1 = a := rfl
    have r2 : ctKCable a b 2 = a ++ b := rfl
    have ha : tI (rowsC a) ++ tI (rowsC b) = tI (rowsC (a ++ b)) := by simp [tI, rowsC]
    refine loop_i (ι := { k : Nat // k ≤ 2 }) (fun k => ⟨[(6, some (.c (.view 0 2 0 (ctKCable a b k.1).length))), (25, some (.c (.im (.sl 1 [[.sl 2 (rowsC a)], [.sl 2 (rowsC b)]])))), (26, some (.c (.im (.int .i64 2)))), (27, some (.c (.im (.int .i64 (k.1 : Int)))))], [(0, some (.arr 2 (tI (rowsC (ctKCable a b k.1)))))], 1⟩) (fun k => 2 - k.1) ⟨0, by simp⟩ ⟨[], [0], by ((simp only [go_sem, eq_self, MvRb, MvRn, MvRt, List.nodup_cons, List.nodup_nil, ↓reduceIte, Nat.reduceEqDiff, Nat.reduceLT, Nat.reduceLeDiff, reduceCtorEq, List.forall_mem_nil, Nat.zero_le, false_implies, List.mem_singleton, MvR_Cb]) <;> (try (simp -dsimp only [go_sem, eq_self, MvRb, MvRn, MvRt, List.nodup_cons, List.nodup_nil, ↓reduceIte, Nat.reduceEqDiff, Nat.reduceLT, Nat.reduceLeDiff, reduceCtorEq, List.forall_mem_nil, Nat.zero_le, false_implies, List.mem_singleton, MvR_Cb]))) <;> simp [ctKCable, rowsC, tI]⟩ (fun ⟨k, hk⟩ => ?_)
    simp only
    match k, hk with
    | 0, _ =>
      try simp -dsimp (maxSteps := 1000000) only [go_sem, List.forall_mem_nil, ↓reduceIte, Nat.reduceEqDiff, Nat.reduceLT, Nat.reduceLeDiff, Nat.reduceAdd, Nat.reduceMul, reduceCtorEq, Tryz.f35, r0, c0, w1, b1, map_im_tI, rowsC_len, tI_len, List.length_map, appendH, srcRows, show tI (rowsC []) = [] from rfl, Int.reduceLT, Int.reduceLE, Int.reduceToNat, Int.reduceAdd, Int.toNat_zero]
      exact ⟨⟨1, by omega⟩, by simp, [], [1], by (simp only [go_sem, eq_self, MvRb, MvRn, MvRt, List.nodup_cons, List.nodup_nil, ↓reduceIte, Nat.reduceEqDiff, Nat.reduceLT, Nat.reduceLeDiff, reduceCtorEq, List.forall_mem_nil, Nat.zero_le, false_implies, List.mem_singleton, r1, c1, MvR_Cb]) <;> simp [lk]⟩
    | 1, _ =>
      try simp -dsimp (maxSteps := 1000000) only [go_sem, List.forall_mem_nil, ↓reduceIte, Nat.reduceEqDiff, Nat.reduceLT, Nat.reduceLeDiff, Nat.reduceAdd, Nat.reduceMul, reduceCtorEq, Tryz.f35, r1, c1, w2, b2, ha, map_im_tI, rowsC_len, tI_len, List.length_map, List.length_append, appendH, srcRows, Int.reduceLT, Int.reduceLE, Int.reduceToNat, Int.reduceAdd, Int.toNat_zero]
      exact ⟨⟨2, by omega⟩, by simp, [], [1], by (simp only [go_sem, eq_self, MvRb, MvRn, MvRt, List.nodup_cons, List.nodup_nil, ↓reduceIte, Nat.reduceEqDiff, Nat.reduceLT, Nat.reduceLeDiff, reduceCtorEq, List.forall_mem_nil, Nat.zero_le, false_implies, List.mem_singleton, r2, c2, MvR_Cb, List.length_append]) <;> simp [lk]⟩
    | 2, _ =>
      try simp -dsimp (maxSteps := 1000000) only [go_sem, List.forall_mem_nil, ↓reduceIte, Nat.reduceEqDiff, Nat.reduceLT, Nat.reduceLeDiff, Nat.reduceAdd, Nat.reduceMul, reduceCtorEq, Tryz.f35, r2, c2, Int.reduceLT, Int.reduceLE, Int.reduceToNat, List.length_append, rowsC_len, tI_len]
      exact ⟨[0], by simp, by simp, by simp [rtOk], by simp [rowsC_len]⟩
end Go.SX
set_option linter.unusedVariables false
set_option linter.unusedSimpArgs false
namespace Go.SX
open Go Go.Proofs
def rRackT (ms : List Mod) (cs : List Cbl) : Res := { val := .tup [.agg [.view 0 11 0 ms.length, .view 1 2 0 cs.length], .c (.im (.bool true))], roots := [.arr 11 (tM ms), .arr 2 (tI (rowsC cs))] }
def rRackF : Res := { val := .tup [.agg [.nil, .nil], .c (.im (.bool false))] }
theorem okR_rackT {sc : Bool} {ms : List Mod} {cs : List Cbl} : OkR sc (rRackT ms cs) := by
  refine ⟨.tup _ (fun d hd => ?_), fun r hr => ?_, by simp [rRackT]⟩
  · simp only [rRackT, List.mem_cons, List.not_mem_nil, or_false] at hd
    rcases hd with rfl | rfl
    · refine .inr ⟨_, rfl, fun x hx => ?_⟩
      simp only [List.mem_cons, List.not_mem_nil, or_false] at hx
      rcases hx with rfl | rfl <;> exact .view _ _ _ _ (by simp [rRackT])
    · exact .inl ⟨_, rfl, okC_sc rfl⟩
  · simp only [rRackT, List.mem_cons, List.not_mem_nil, or_false] at hr
    rcases hr with rfl | rfl
    · exact mvR_tM _
    · exact mvR_tI (sc_rowsC _)
theorem okR_rackF {sc : Bool} : OkR sc rRackF := by
  refine ⟨.tup _ (fun d hd => ?_), by simp [rRackF], by simp [rRackF]⟩
  simp only [rRackF, List.mem_cons, List.not_mem_nil, or_false] at hd
  rcases hd with rfl | rfl
  · exact .inr ⟨_, rfl, fun x hx => by simp at hx; subst hx; exact .nil⟩
  · exact .inl ⟨_, rfl, okC_sc rfl⟩
def rRackB (b : Bool) (ms : List Mod) (cs : List Cbl) : Res := if b = true then rRackT ms cs else rRackF
structure AROf where
  ms : List Mod
  cs : List Cbl
  ml : ms.length ≤ sm
  cl : cs.length ≤ sm
  ok : ∀ m ∈ ms, OkM m
noncomputable def ct_rackOf : Ct := fam true (fun x : AROf => ([.agg [.im (.sl 11 (rowsM x.ms)), .im (.sl 2 (rowsC x.cs))]], [])) (fun x => .one (rRackB (isRackF x.ms x.cs) x.ms x.cs))
theorem run_rackOf {ms : List Mod} {cs : List Cbl} (h1 : ms.length ≤ sm) (h2 : cs.length ≤ sm) (h5 : ∀ m ∈ ms, OkM m) : ct_rackOf.run [.agg [.im (.sl 11 (rowsM ms)), .im (.sl 2 (rowsC cs))]] [] = some (.one (rRackB (isRackF ms cs) ms cs)) := by
  refine fam_run' (args := fun x : AROf => ([D.agg [.im (.sl 11 (rowsM x.ms)), .im (.sl 2 (rowsC x.cs))]], [])) ?_ ⟨ms, cs, h1, h2, h5⟩
  rintro ⟨a, b, _, _, _⟩ ⟨a', b', _, _, _⟩ h
  simp [rowsM_eq, rowsC_eq] at h ⊢
  exact h
theorem sc_rackOf : (ct_rackOf.sc = true) = True := by simp [ct_rackOf, fam]
set_option maxRecDepth 100000 in
set_option maxHeartbeats 4000000 in
theorem law_rackOf : Law Tryz.prog 33 ct_rackOf := by
  refine fam_lawF (Env_cons law_IsRack (Env_cons law_copyRack Env_nil)) hmixA Tryz.func33 rfl rfl (fun ⟨ms, cs, h1, h2, h5⟩ => ⟨okO (by unfold rRackB; split; exact okR_rackT; exact okR_rackF), by simp [Tryz.f33], ?_⟩)
  simp only
  cases hr : isRackF ms cs with
  | false =>
    simp only [rRackB, Bool.false_eq_true, if_false, rRackF]
    try simp -dsimp (maxSteps := 1000000) only [go_sem, List.forall_mem_nil, ↓reduceIte, Nat.reduceEqDiff, Nat.reduceLT, Nat.reduceLeDiff, Nat.reduceAdd, Nat.reduceMul, reduceCtorEq, Tryz.f33, run_IsRack h1 h2 h5, hr]
    refine finF_i [] ?_
    simp -dsimp (maxSteps := 1000000) only [go_sem, List.forall_mem_nil, ↓reduceIte, Nat.reduceEqDiff, Nat.reduceLT, Nat.reduceLeDiff, Nat.reduceAdd, Nat.reduceMul, reduceCtorEq, rRackF]
  | true =>
    simp only [rRackB, if_true, rRackT]
    try simp -dsimp (maxSteps := 1000000) only [go_sem, List.forall_mem_nil, ↓reduceIte, Nat.reduceEqDiff, Nat.reduceLT, Nat.reduceLeDiff, Nat.reduceAdd, Nat.reduceMul, reduceCtorEq, Tryz.f33, run_IsRack h1 h2 h5, hr, run_copyRack h1 h2 h5, rRack]
    refine finF_i [] ?_
    simp -dsimp (maxSteps := 1000000) only [go_sem, List.forall_mem_nil, ↓reduceIte, Nat.reduceEqDiff, Nat.reduceLT, Nat.reduceLeDiff, Nat.reduceAdd, Nat.reduceMul, reduceCtorEq, rRackT]
    refine ⟨[_, _], ?_, ?_, ?_, rfl, rfl⟩ <;> simp [rtOk]
structure AAd where
  ms : List Mod
  cs : List Cbl
  a : Int
  b : Int
  ml : ms.length ≤ sm
  cl : cs.length ≤ 400
  ok : ∀ m ∈ ms, OkM m
def addF (ms : List Mod) (cs : List Cbl) (a b : Int) : Bool := isRackF ms cs && isRackF ms (cs ++ [(a, b)])
noncomputable def ct_AddCable : Ct := fam true (fun x : AAd => ([.agg [.im (.sl 11 (rowsM x.ms)), .im (.sl 2 (rowsC x.cs))], .c (.im (.int .i64 x.a)), .c (.im (.int .i64 x.b))], [])) (fun x => .one (rRackB (addF x.ms x.cs x.a x.b) x.ms (x.cs ++ [(x.a, x.b)])))
theorem run_AddCable {ms : List Mod} {cs : List Cbl} (h1 : ms.length ≤ sm) (h2 : cs.length ≤ 400) (h5 : ∀ m ∈ ms, OkM m) (a b : Int) : ct_AddCable.run [.agg [.im (.sl 11 (rowsM ms)), .im (.sl 2 (rowsC cs))], .c (.im (.int .i64 a)), .c (.im (.int .i64 b))] [] = some (.one (rRackB (addF ms cs a b) ms (cs ++ [(a, b)]))) := by
  refine fam_run' (args := fun x : AAd => ([D.agg [.im (.sl 11 (rowsM x.ms)), .im (.sl 2 (rowsC x.cs))], .c (.im (.int .i64 x.a)), .c (.im (.int .i64 x.b))], [])) ?_ ⟨ms, cs, a, b, h1, h2, h5⟩
  rintro ⟨a, b, _, _, _, _, _⟩ ⟨a', b', _, _, _, _, _⟩ h
  simp [rowsM_eq, rowsC_eq] at h ⊢
  simp [h]
theorem sc_AddCable : (ct_AddCable.sc = true) = True := by simp [ct_AddCable, fam]
set_option maxRecDepth 100000 in
set_option maxHeartbeats 8000000 in
theorem law_AddCable : Law Tryz.prog 11 ct_AddCable := by
  refine fam_lawF (Env_cons law_IsRack (Env_cons law_ConcatCable (Env_cons law_rackOf Env_nil))) hmixA Tryz.func11 rfl rfl (fun ⟨ms, cs, a, b, h1, h2, h5⟩ => ⟨okO (by unfold rRackB; split; exact okR_rackT; exact okR_rackF), by simp [Tryz.f11], ?_⟩)
  simp only
  have hsm : sm = 16777216 := rfl
  have h2' : cs.length ≤ sm := by omega
  cases hr : isRackF ms cs with
  | false =>
    have ha : addF ms cs a b = false := by simp [addF, hr]
    simp only [ha, rRackB, Bool.false_eq_true, if_false, rRackF]
    try simp -dsimp (maxSteps := 1000000) only [go_sem, List.forall_mem_nil, ↓reduceIte, Nat.reduceEqDiff, Nat.reduceLT, Nat.reduceLeDiff, Nat.reduceAdd, Nat.reduceMul, reduceCtorEq, Tryz.f11, run_IsRack h1 h2' h5, hr]
    refine finF_i [] ?_
    simp -dsimp (maxSteps := 1000000) only [go_sem, List.forall_mem_nil, ↓reduceIte, Nat.reduceEqDiff, Nat.reduceLT, Nat.reduceLeDiff, Nat.reduceAdd, Nat.reduceMul, reduceCtorEq, ha, rRackF, rRackB]
  | true =>
    have ha : addF ms cs a b = isRackF ms (cs ++ [(a, b)]) := by simp [addF, hr]
    have rc : ct_ConcatCable.run [.c (.im (.sl 1 [[.sl 2 (rowsC cs)], [.sl 2 [[.int .i64 a, .int .i64 b]]]]))] [] = some (.one (rNew 2 (rowsC (cs ++ [(a, b)])))) := run_ConcatCable (a := cs) (b := [(a, b)]) (by omega) (by simp)
    have ro := run_rackOf (ms := ms) (cs := cs ++ [(a, b)]) h1 (by simp; omega) h5
    have tk : List.take (cs ++ [(a, b)]).length (tI (rowsC (cs ++ [(a, b)]))) = tI (rowsC (cs ++ [(a, b)])) := List.take_of_length_le (by simp [tI_len, rowsC_len])
    generalize hcs : cs ++ [(a, b)] = cs2 at *
    cases hr2 : isRackF ms cs2 with
    | false =>
      simp only [ha, hr2, rRackB, Bool.false_eq_true, if_false, rRackF]
      try simp -dsimp (maxSteps := 1000000) only [go_sem, List.forall_mem_nil, ↓reduceIte, Nat.reduceEqDiff, Nat.reduceLT, Nat.reduceLeDiff, Nat.reduceAdd, Nat.reduceMul, reduceCtorEq, Tryz.f11, run_IsRack h1 h2' h5, hr, rc, ro, hr2, rRackB, rRackF, rNew, sc_ConcatCable, sc_rackOf, tk, tI_toI, tI_len, rowsC_len, List.take_succ_cons, List.take_zero, List.take_nil]
      repeat' (first
        | ((with_reducible refine sl_i ?_ ?_); focus kernel_rfl)
        | ((with_reducible refine ro_i ?_ ?_); focus kernel_rfl))
      refine finF_i [] ?_
      simp -dsimp (maxSteps := 1000000) only [go_sem, List.forall_mem_nil, ↓reduceIte, Nat.reduceEqDiff, Nat.reduceLT, Nat.reduceLeDiff, Nat.reduceAdd, Nat.reduceMul, reduceCtorEq, ha, hr2, rRackF]
    | true =>
      simp only [ha, hr2, rRackB, if_true, rRackT]
      try simp -dsimp (maxSteps := 1000000) only [go_sem, List.forall_mem_nil, ↓reduceIte, Nat.reduceEqDiff, Nat.reduceLT, Nat.reduceLeDiff, Nat.reduceAdd, Nat.reduceMul, reduceCtorEq, Tryz.f11, run_IsRack h1 h2' h5, hr, rc, ro, hr2, rRackB, rRackT, rNew, sc_ConcatCable, sc_rackOf, tk, tI_toI, tI_len, rowsC_len, List.take_succ_cons, List.take_zero, List.take_nil]
      repeat' (first
        | ((with_reducible refine sl_i ?_ ?_); focus kernel_rfl)
        | ((with_reducible refine ro_i ?_ ?_); focus kernel_rfl))
      refine finF_i [] ?_
      simp -dsimp (maxSteps := 1000000) only [go_sem, List.forall_mem_nil, ↓reduceIte, Nat.reduceEqDiff, Nat.reduceLT, Nat.reduceLeDiff, Nat.reduceAdd, Nat.reduceMul, reduceCtorEq, ha, hr2, rRackT]
      refine ⟨[_, _], ?_, ?_, ?_, rfl, rfl⟩ <;> simp [rtOk]
structure AAm where
  ms : List Mod
  cs : List Cbl
  m : Mod
  ml : ms.length ≤ 400
  cl : cs.length ≤ sm
  ok : ∀ m ∈ ms, OkM m
  om : OkM m
def rAm (b : Bool) (ms : List Mod) (cs : List Cbl) (n : Nat) : Res := if b = true then { val := .tup [.agg [.view 0 11 0 ms.length, .view 1 2 0 cs.length], .c (.im (.int .i64 (n : Int))), .c (.im (.bool true))], roots := [.arr 11 (tM ms), .arr 2 (tI (rowsC cs))] } else { val := .tup [.agg [.nil, .nil], .c (.im (.int .i64 0)), .c (.im (.bool false))] }
theorem okR_am {sc b : Bool} {ms : List Mod} {cs : List Cbl} {n : Nat} : OkR sc (rAm b ms cs n) := by
  unfold rAm
  split
  · refine ⟨.tup _ (fun d hd => ?_), fun r hr => ?_, by simp⟩
    · simp only [List.mem_cons, List.not_mem_nil, or_false] at hd
      rcases hd with rfl | rfl | rfl
      · refine .inr ⟨_, rfl, fun x hx => ?_⟩
        simp only [List.mem_cons, List.not_mem_nil, or_false] at hx
        rcases hx with rfl | rfl <;> exact .view _ _ _ _ (by simp)
      · exact .inl ⟨_, rfl, okC_sc rfl⟩
      · exact .inl ⟨_, rfl, okC_sc rfl⟩
    · simp only [List.mem_cons, List.not_mem_nil, or_false] at hr
      rcases hr with rfl | rfl
      · exact mvR_tM _
      · exact mvR_tI (sc_rowsC _)
  · refine ⟨.tup _ (fun d hd => ?_), by simp, by simp⟩
    simp only [List.mem_cons, List.not_mem_nil, or_false] at hd
    rcases hd with rfl | rfl | rfl
    · exact .inr ⟨_, rfl, fun x hx => by simp at hx; subst hx; exact .nil⟩
    · exact .inl ⟨_, rfl, okC_sc rfl⟩
    · exact .inl ⟨_, rfl, okC_sc rfl⟩
def amF (ms : List Mod) (cs : List Cbl) (m : Mod) : Bool := isRackF ms cs && isRackF (ms ++ [m]) cs
noncomputable def ct_AddModule : Ct := fam true (fun x : AAm => ([.agg [.im (.sl 11 (rowsM x.ms)), .im (.sl 2 (rowsC x.cs))], .agg (modC x.m)], [])) (fun x => .one (rAm (amF x.ms x.cs x.m) (x.ms ++ [x.m]) x.cs x.ms.length))
theorem run_AddModule {ms : List Mod} {cs : List Cbl} {m : Mod} (h1 : ms.length ≤ 400) (h2 : cs.length ≤ sm) (h5 : ∀ m ∈ ms, OkM m) (hm : OkM m) : ct_AddModule.run [.agg [.im (.sl 11 (rowsM ms)), .im (.sl 2 (rowsC cs))], .agg (modC m)] [] = some (.one (rAm (amF ms cs m) (ms ++ [m]) cs ms.length)) := by
  refine fam_run' (args := fun x : AAm => ([D.agg [.im (.sl 11 (rowsM x.ms)), .im (.sl 2 (rowsC x.cs))], .agg (modC x.m)], [])) ?_ ⟨ms, cs, m, h1, h2, h5, hm⟩
  rintro ⟨a, b, c, _, _, _, _⟩ ⟨a', b', c', _, _, _, _⟩ h
  simp only [Prod.mk.injEq, List.cons.injEq, D.agg.injEq, C.im.injEq, I.sl.injEq, true_and, and_true, rowsM_eq, rowsC_eq] at h
  obtain ⟨⟨rfl, rfl⟩, h⟩ := h
  have := modC_inj h
  subst this; rfl
theorem sc_AddModule : (ct_AddModule.sc = true) = True := by simp [ct_AddModule, fam]
set_option maxRecDepth 100000 in
set_option maxHeartbeats 8000000 in
theorem law_AddModule : Law Tryz.prog 9 ct_AddModule := by
  refine fam_lawF (Env_cons law_IsRack (Env_cons law_ConcatModule (Env_cons law_rackOf Env_nil))) hmixA Tryz.func9 rfl rfl (fun ⟨ms, cs, ⟨k, ⟨t1, t2⟩, ⟨s1, s2⟩, lv, st, ra, rn, pts, lab, c, l⟩, h1, h2, h5, hm⟩ => ⟨okO okR_am, by simp [Tryz.f9, modC], ?_⟩)
  simp only [modC]
  have hsm : sm = 16777216 := rfl
  have h1' : ms.length ≤ sm := by omega
  cases hr : isRackF ms cs with
  | false =>
    have ha : ∀ m, amF ms cs m = false := fun m => by simp [amF, hr]
    simp only [ha, rAm, Bool.false_eq_true, if_false]
    try simp -dsimp (maxSteps := 1000000) only [go_sem, List.forall_mem_nil, ↓reduceIte, Nat.reduceEqDiff, Nat.reduceLT, Nat.reduceLeDiff, Nat.reduceAdd, Nat.reduceMul, reduceCtorEq, Tryz.f9, run_IsRack h1' h2 h5, hr]
    refine finF_i [] ?_
    simp -dsimp (maxSteps := 1000000) only [go_sem, List.forall_mem_nil, ↓reduceIte, Nat.reduceEqDiff, Nat.reduceLT, Nat.reduceLeDiff, Nat.reduceAdd, Nat.reduceMul, reduceCtorEq, ha, rAm]
  | true =>
    have ha : ∀ m, amF ms cs m = isRackF (ms ++ [m]) cs := fun m => by simp [amF, hr]
    have rc : ct_ConcatModule.run [.c (.im (.sl 1 [[.sl 11 (rowsM ms)], [.sl 11 [[.int .i64 k, .cpx .f32 t1 t2, .cpx .f32 s1 s2, .flt .f32 lv, .sl 1 (rowsZ st), .int .i64 ra, .int .i64 rn, .sl 1 (rowsZ pts), .sl 1 (rowsN lab), .int .i64 c, .int .i64 l]]]]))] [] = some (.one (rNew 11 (rowsM (ms ++ [⟨k, (t1, t2), (s1, s2), lv, st, ra, rn, pts, lab, c, l⟩])))) := run_ConcatModule (a := ms) (b := [⟨k, (t1, t2), (s1, s2), lv, st, ra, rn, pts, lab, c, l⟩]) (by omega) (by simp) (by simp)
    have hok2 : ∀ m ∈ ms ++ [⟨k, (t1, t2), (s1, s2), lv, st, ra, rn, pts, lab, c, l⟩], OkM m := fun m hm' => by
      rcases List.mem_append.1 hm' with q | q
      · exact h5 m q
      · simp at q; subst q; exact hm
    have ro := run_rackOf (ms := ms ++ [⟨k, (t1, t2), (s1, s2), lv, st, ra, rn, pts, lab, c, l⟩]) (cs := cs) (by simp; omega) h2 hok2
    have tk : ∀ x : List Mod, List.take x.length (tI (rowsM x)) = tI (rowsM x) := fun x => List.take_of_length_le (by simp [tI_len, rowsM_len])
    generalize hms : ms ++ [⟨k, (t1, t2), (s1, s2), lv, st, ra, rn, pts, lab, c, l⟩] = ms2 at *
    cases hr2 : isRackF ms2 cs with
    | false =>
      simp only [ha, hms, hr2, rAm, Bool.false_eq_true, if_false]
      try simp -dsimp (maxSteps := 1000000) only [go_sem, List.forall_mem_nil, ↓reduceIte, Nat.reduceEqDiff, Nat.reduceLT, Nat.reduceLeDiff, Nat.reduceAdd, Nat.reduceMul, reduceCtorEq, Tryz.f9, run_IsRack h1' h2 h5, hr, rc, ro, hr2, rRackB, rRackF, rNew, sc_ConcatModule, sc_rackOf, tk, tI_toI, tI_len, rowsM_len, imTN, lentsT, nones]
      repeat' (first
        | ((with_reducible refine sl_i ?_ ?_); focus kernel_rfl)
        | ((with_reducible refine ro_i ?_ ?_); focus kernel_rfl))
      refine finF_i [] ?_
      simp -dsimp (maxSteps := 1000000) only [go_sem, List.forall_mem_nil, ↓reduceIte, Nat.reduceEqDiff, Nat.reduceLT, Nat.reduceLeDiff, Nat.reduceAdd, Nat.reduceMul, reduceCtorEq, ha, hms, hr2, rAm]
    | true =>
      simp only [ha, hms, hr2, rAm, if_true]
      try simp -dsimp (maxSteps := 1000000) only [go_sem, List.forall_mem_nil, ↓reduceIte, Nat.reduceEqDiff, Nat.reduceLT, Nat.reduceLeDiff, Nat.reduceAdd, Nat.reduceMul, reduceCtorEq, Tryz.f9, run_IsRack h1' h2 h5, hr, rc, ro, hr2, rRackB, rRackT, rNew, sc_ConcatModule, sc_rackOf, tk, tI_toI, tI_len, rowsM_len, imTN, lentsT, nones]
      repeat' (first
        | ((with_reducible refine sl_i ?_ ?_); focus kernel_rfl)
        | ((with_reducible refine ro_i ?_ ?_); focus kernel_rfl))
      refine finF_i [] ?_
      simp -dsimp (maxSteps := 1000000) only [go_sem, List.forall_mem_nil, ↓reduceIte, Nat.reduceEqDiff, Nat.reduceLT, Nat.reduceLeDiff, Nat.reduceAdd, Nat.reduceMul, reduceCtorEq, ha, hms, hr2, rAm]
      refine ⟨[_, _], ?_, ?_, ?_, rfl, rfl⟩ <;> simp [rtOk]
structure ADc where
  ms : List Mod
  cs : List Cbl
  c : Cbl
  ok : ∀ m ∈ ms, OkM m
  r1 : isRackF ms (cs ++ [c]) = true
  r2 : isRackF ms cs = true
noncomputable def ct_DropCable : Ct := fam true (fun x : ADc => ([.agg [.im (.sl 11 (rowsM x.ms)), .im (.sl 2 (rowsC (x.cs ++ [x.c])))], .c (.im (.int .i64 (x.cs.length : Int)))], [])) (fun x => .one (rRackT x.ms x.cs))
theorem run_DropCable {ms : List Mod} {cs : List Cbl} {c : Cbl} (h5 : ∀ m ∈ ms, OkM m) (r1 : isRackF ms (cs ++ [c]) = true) (r2 : isRackF ms cs = true) : ct_DropCable.run [.agg [.im (.sl 11 (rowsM ms)), .im (.sl 2 (rowsC (cs ++ [c])))], .c (.im (.int .i64 (cs.length : Int)))] [] = some (.one (rRackT ms cs)) := by
  refine fam_run' (args := fun x : ADc => ([D.agg [.im (.sl 11 (rowsM x.ms)), .im (.sl 2 (rowsC (x.cs ++ [x.c])))], .c (.im (.int .i64 (x.cs.length : Int)))], [])) ?_ ⟨ms, cs, c, h5, r1, r2⟩
  rintro ⟨a, b, c, _, _, _⟩ ⟨a', b', c', _, _, _⟩ h
  simp only [Prod.mk.injEq, List.cons.injEq, D.agg.injEq, D.c.injEq, C.im.injEq, I.sl.injEq, I.int.injEq, true_and, and_true, rowsM_eq, rowsC_eq] at h
  obtain ⟨⟨rfl, h⟩, _⟩ := h
  obtain ⟨h1, h2⟩ := List.append_inj' h rfl
  simp only [List.cons.injEq, and_true] at h2
  subst h1 h2; rfl
theorem sc_DropCable : (ct_DropCable.sc = true) = True := by simp [ct_DropCable, fam]
set_option maxRecDepth 100000 in
set_option maxHeartbeats 8000000 in
theorem law_DropCable : Law Tryz.prog 12 ct_DropCable := by
  refine fam_lawF (Env_cons law_IsRack (Env_cons law_ConcatCable (Env_cons law_rackOf Env_nil))) hmixA Tryz.func12 rfl rfl (fun ⟨ms, cs, ⟨ca, cb⟩, h5, r1, r2⟩ => ⟨okO okR_rackT, by simp [Tryz.f12], ?_⟩)
  simp only [rRackT]
  have hsm : sm = 16777216 := rfl
  obtain ⟨p1, p2, _⟩ := isRack_parts.1 r1
  have p2' : (cs ++ [(ca, cb)]).length = cs.length + 1 := by simp
  have h1 : ms.length ≤ sm := by omega
  have h2 : (cs ++ [(ca, cb)]).length ≤ sm := by omega
  have e1 : List.take cs.length (rowsC (cs ++ [(ca, cb)])) = rowsC cs := by simp [rowsC]
  have e2 : List.drop (cs.length + 1) (List.take (cs.length + 1) (rowsC (cs ++ [(ca, cb)]))) = [] := by simp [rowsC]
  have hw : IntKind.i64.wrap ((cs.length : Int) + 1) = ((cs.length + 1 : Nat) : Int) := by rw [wrap_id (by omega) (by omega)]; omega
  have c1 : ((cs.length : Int) < 0) = False := eq_false (by omega)
  have c2 : (((cs.length + 1 : Nat) : Int) ≤ (cs.length : Int)) = False := eq_false (by omega)
  have c3 : ((cs.length : Int) ≤ ((cs.length + 1 : Nat) : Int)) = True := eq_true (by omega)
  have c4 : (0 ≤ (cs.length : Int)) = True := eq_true (by omega)
  have c5 : (0 ≤ ((cs.length + 1 : Nat) : Int)) = True := eq_true (by omega)
  have c6 : (((cs.length + 1 : Nat) : Int) ≤ ((cs.length + 1 : Nat) : Int)) = True := eq_true (by omega)
  have ri := run_IsRack h1 h2 h5
  have rc := run_ConcatCable (a := cs) (b := []) (by omega) (by simp)
  rw [List.append_nil, show rowsC [] = [] from rfl] at rc
  have ro := run_rackOf (ms := ms) (cs := cs) h1 (by omega) h5
  have tk : List.take cs.length (tI (rowsC cs)) = tI (rowsC cs) := List.take_of_length_le (by simp [tI_len, rowsC_len])
  try simp -dsimp (maxSteps := 1000000) only [go_sem, List.forall_mem_nil, ↓reduceIte, Nat.reduceEqDiff, Nat.reduceLT, Nat.reduceLeDiff, Nat.reduceAdd, Nat.reduceMul, reduceCtorEq, Tryz.f12, ri, r1, rc, rowsC_nil, rNew, ro, r2, rRackB, rRackT, List.take_succ_cons, List.take_zero, List.take_nil, sc_ConcatCable, sc_rackOf, p2', rowsC_len, e1, e2, hw, c1, c2, c3, c4, c5, c6, tk, tI_toI, tI_len, Int.toNat_natCast, Bool.not_true, Bool.or_self]
  repeat' (first
    | ((with_reducible refine sl_i ?_ ?_); focus kernel_rfl)
    | ((with_reducible refine ro_i ?_ ?_); focus kernel_rfl))
  refine finF_i [] ?_
  simp -dsimp (maxSteps := 1000000) only [go_sem, List.forall_mem_nil, ↓reduceIte, Nat.reduceEqDiff, Nat.reduceLT, Nat.reduceLeDiff, Nat.reduceAdd, Nat.reduceMul, reduceCtorEq]
  refine ⟨[_, _], ?_, ?_, ?_, rfl, rfl⟩ <;> simp [rtOk]
structure ADm where
  ms : List Mod
  cs : List Cbl
  m : Mod
  k : Nat
  ok : ∀ m ∈ ms, OkM m
  om : OkM m
  r1 : isRackF (ms ++ [m]) (cs ++ [((k : Int), (ms.length : Int))]) = true
  r2 : isRackF ms cs = true
  hk : k < ms.length
noncomputable def ct_DropModule : Ct := fam true (fun x : ADm => ([.agg [.im (.sl 11 (rowsM (x.ms ++ [x.m]))), .im (.sl 2 (rowsC (x.cs ++ [((x.k : Int), (x.ms.length : Int))])))], .c (.im (.int .i64 (x.ms.length : Int)))], [])) (fun x => .one (rRackT x.ms x.cs))
theorem run_DropModule {ms : List Mod} {cs : List Cbl} {m : Mod} {k : Nat} (h5 : ∀ m ∈ ms, OkM m) (hm : OkM m) (r1 : isRackF (ms ++ [m]) (cs ++ [((k : Int), (ms.length : Int))]) = true) (r2 : isRackF ms cs = true) (hk : k < ms.length) : ct_DropModule.run [.agg [.im (.sl 11 (rowsM (ms ++ [m]))), .im (.sl 2 (rowsC (cs ++ [((k : Int), (ms.length : Int))])))], .c (.im (.int .i64 (ms.length : Int)))] [] = some (.one (rRackT ms cs)) := by
  refine fam_run' (args := fun x : ADm => ([D.agg [.im (.sl 11 (rowsM (x.ms ++ [x.m]))), .im (.sl 2 (rowsC (x.cs ++ [((x.k : Int), (x.ms.length : Int))])))], .c (.im (.int .i64 (x.ms.length : Int)))], [])) ?_ ⟨ms, cs, m, k, h5, hm, r1, r2, hk⟩
  rintro ⟨a, b, c, d, _, _, _, _, _⟩ ⟨a', b', c', d', _, _, _, _, _⟩ h
  simp only [Prod.mk.injEq, List.cons.injEq, D.agg.injEq, D.c.injEq, C.im.injEq, I.sl.injEq, I.int.injEq, true_and, and_true, rowsM_eq, rowsC_eq] at h
  obtain ⟨⟨h1, h2⟩, _⟩ := h
  obtain ⟨g1, g3⟩ := List.append_inj' h1 rfl
  obtain ⟨g2, g4⟩ := List.append_inj' h2 rfl
  clear h1 h2
  simp only [List.cons.injEq, and_true, Prod.mk.injEq, Int.natCast_inj] at g3 g4
  obtain ⟨g4, _⟩ := g4
  subst g1 g2 g3 g4; rfl
theorem sc_DropModule : (ct_DropModule.sc = true) = True := by simp [ct_DropModule, fam]
set_option maxRecDepth 100000 in
set_option maxHeartbeats 8000000 in
theorem law_DropModule : Law Tryz.prog 13 ct_DropModule := by
  refine fam_lawF (Env_cons law_IsRack (Env_cons law_ConcatModule (Env_cons law_rackOf Env_nil))) hmixA Tryz.func13 rfl rfl (fun ⟨ms, cs, m, k, h5, hm, r1, r2, hk⟩ => ⟨okO okR_rackT, by simp [Tryz.f13], ?_⟩)
  simp only [rRackT]
  have hsm : sm = 16777216 := rfl
  obtain ⟨p1, p2, _⟩ := isRack_parts.1 r1
  obtain ⟨_, _, _, hcr, _⟩ := isRack_parts.1 r2
  have l1 : (ms ++ [m]).length = ms.length + 1 := by simp
  have l2 : (cs ++ [((k : Int), (ms.length : Int))]).length = cs.length + 1 := by simp
  have h1 : (ms ++ [m]).length ≤ sm := by omega
  have h2 : (cs ++ [((k : Int), (ms.length : Int))]).length ≤ sm := by omega
  have hok : ∀ x ∈ ms ++ [m], OkM x := fun x hx => by
    rcases List.mem_append.1 hx with q | q
    · exact h5 x q
    · simp at q; subst q; exact hm
  have e1 : List.take ms.length (rowsM (ms ++ [m])) = rowsM ms := by simp [rowsM]
  have e2 : List.drop (ms.length + 1) (List.take (ms.length + 1) (rowsM (ms ++ [m]))) = [] := by simp [rowsM]
  have hw : IntKind.i64.wrap ((ms.length : Int) + 1) = ((ms.length + 1 : Nat) : Int) := by rw [wrap_id (by omega) (by omega)]; omega
  have c1 : ((ms.length : Int) < 0) = False := eq_false (by omega)
  have c2 : (((ms.length + 1 : Nat) : Int) ≤ (ms.length : Int)) = False := eq_false (by omega)
  have c3 : ((ms.length : Int) ≤ ((ms.length + 1 : Nat) : Int)) = True := eq_true (by omega)
  have c4 : (0 ≤ (ms.length : Int)) = True := eq_true (by omega)
  have c5 : (0 ≤ ((ms.length + 1 : Nat) : Int)) = True := eq_true (by omega)
  have c6 : (((ms.length + 1 : Nat) : Int) ≤ ((ms.length + 1 : Nat) : Int)) = True := eq_true (by omega)
  have ri := run_IsRack h1 h2 hok
  have rc := run_ConcatModule (a := ms) (b := []) (by omega) (by simp) (by simp; omega)
  rw [List.append_nil, show rowsM [] = [] from rfl] at rc
  have ro := run_rackOf (ms := ms) (cs := cs) (by omega) (by omega) h5
  have rn : rowsM [] = [] := rfl
  have hcl : cs.length ≤ 40 := by omega
  generalize hms2 : ms ++ [m] = ms2 at *
  try simp -dsimp (maxSteps := 1000000) only [go_sem, List.forall_mem_nil, ↓reduceIte, Nat.reduceEqDiff, Nat.reduceLT, Nat.reduceLeDiff, Nat.reduceAdd, Nat.reduceMul, reduceCtorEq, Tryz.f13, ri, r1, rc, rn, rNew, List.take_succ_cons, List.take_zero, List.take_nil, sc_ConcatModule, l1, l2, rowsM_len, rowsC_len, e1, e2, hw, c1, c2, c3, c4, c5, c6, Int.toNat_natCast, Bool.not_true, Bool.or_self]
  repeat' (first
    | ((with_reducible refine sl_i ?_ ?_); focus kernel_rfl)
    | ((with_reducible refine ro_i ?_ ?_); focus kernel_rfl))
  refine loop_i (ι := { j : Nat // j ≤ cs.length + 1 }) (fun j => ⟨[(1, some (.c (.im (.int .i64 (ms.length : Int))))), (4, some (.c (.ptr 0 0 0 0))), (6, some (.c (.ptr 1 0 0 0))), (37, some (.c (.im (.sl 2 (rowsC (cs ++ [((k : Int), (ms.length : Int))])))))), (38, some (.c (.im (.int .i64 ((cs.length + 1 : Nat) : Int))))), (39, some (.c (.im (.int .i64 (j.1 : Int)))))],
    [(0, some (.box [.t .nil, .t .nil])), (1, some (.box [.t (.lent 2 11 ms.length), .t (.lent 3 2 (cs.take j.1).length)])), (2, some (.arr 11 (tI (rowsM ms)))), (3, some (.arr 2 (tI (rowsC (cs.take j.1)))))], 4⟩) (fun j => cs.length + 1 - j.1) ⟨0, by omega⟩ ⟨[.nilT 98 0 1 2, .unf 98 0 1], [1, 98, 82, 114], by ((simp only [go_sem, eq_self, MvRb, MvRn, MvRt, List.nodup_cons, List.nodup_nil, ↓reduceIte, Nat.reduceEqDiff, Nat.reduceLT, Nat.reduceLeDiff, reduceCtorEq, List.forall_mem_nil, Nat.zero_le, false_implies, List.mem_singleton, MvR_Mi, MvR_Cb, Option.map_some]) <;> (try (simp -dsimp only [go_sem, eq_self, MvRb, MvRn, MvRt, List.nodup_cons, List.nodup_nil, ↓reduceIte, Nat.reduceEqDiff, Nat.reduceLT, Nat.reduceLeDiff, reduceCtorEq, List.forall_mem_nil, Nat.zero_le, false_implies, List.mem_singleton, MvR_Mi, MvR_Cb, Option.map_some]))) <;> simp [lk, MvB_im, tI, rowsC, MvRt]⟩ (fun ⟨j, hj⟩ => ?_)
  simp only at hj ⊢
  by_cases hend : j = cs.length + 1
  · have hI : ((j : Int) < ((cs.length + 1 : Nat) : Int)) = False := eq_false (by omega)
    have htk : cs.take j = cs := List.take_of_length_le (by omega)
    have tl : List.take ms.length (tI (rowsM ms)) = tI (rowsM ms) := List.take_of_length_le (by simp [tI_len, rowsM_len])
    have tlc : List.take cs.length (tI (rowsC cs)) = tI (rowsC cs) := List.take_of_length_le (by simp [tI_len, rowsC_len])
    rw [htk]
    try simp -dsimp (maxSteps := 1000000) only [go_sem, List.forall_mem_nil, ↓reduceIte, Nat.reduceEqDiff, Nat.reduceLT, Nat.reduceLeDiff, Nat.reduceAdd, Nat.reduceMul, reduceCtorEq, Tryz.f13, hI, ro, r2, rRackB, rRackT, sc_rackOf, tl, tlc, tI_toI, tI_len, rowsM_len, rowsC_len]
    refine finF_i [] ?_
    simp -dsimp (maxSteps := 1000000) only [go_sem, List.forall_mem_nil, ↓reduceIte, Nat.reduceEqDiff, Nat.reduceLT, Nat.reduceLeDiff, Nat.reduceAdd, Nat.reduceMul, reduceCtorEq]
    refine ⟨[_, _], ?_, ?_, ?_, rfl, rfl⟩ <;> simp [rtOk]
  have hI : ((j : Int) < ((cs.length + 1 : Nat) : Int)) = True := eq_true (by omega)
  have b0 : (0 ≤ (j : Int)) = True := eq_true (by omega)
  have hwr : IntKind.i64.wrap ((j : Int) + 1) = ((j + 1 : Nat) : Int) := by rw [wrap_id (by omega) (by omega)]; omega
  by_cases hlast : j = cs.length
  · have hrow : (rowsC (cs ++ [((k : Int), (ms.length : Int))]))[j]? = some [.int .i64 (k : Int), .int .i64 (ms.length : Int)] := by subst hlast; simp [rowsC]
    have d1 : ((k : Int) = (ms.length : Int)) = False := eq_false (by omega)
    have ht1 : cs.take (j + 1) = cs.take j := by rw [List.take_of_length_le (by omega), List.take_of_length_le (by omega)]
    try simp -dsimp (maxSteps := 1000000) only [go_sem, List.forall_mem_nil, ↓reduceIte, Nat.reduceEqDiff, Nat.reduceLT, Nat.reduceLeDiff, Nat.reduceAdd, Nat.reduceMul, reduceCtorEq, Tryz.f13, hI, b0, hwr, hrow, d1, l2, rowsC_len, Int.toNat_natCast, Bool.or_true, Bool.false_or]
    refine ⟨⟨j + 1, by omega⟩, by simp only []; omega, [], [0, 1, 2, 3], ?_⟩
    (simp only [go_sem, eq_self, MvRb, MvRn, MvRt, List.nodup_cons, List.nodup_nil, ↓reduceIte, Nat.reduceEqDiff, Nat.reduceLT, Nat.reduceLeDiff, reduceCtorEq, List.forall_mem_nil, Nat.zero_le, false_implies, List.mem_singleton, ht1, MvR_Mi, MvR_Cb])
    all_goals simp [lk, MvB_im]
  have hjl : j < cs.length := by omega
  obtain ⟨⟨x, y⟩, hxy⟩ : ∃ p, cs[j]? = some p := ⟨cs[j], List.getElem?_eq_getElem hjl⟩
  obtain ⟨g1, g2, g3, g4⟩ := hcr (x, y) (List.mem_of_getElem? hxy)
  simp only at g1 g2 g3 g4
  have hrow : (rowsC (cs ++ [((k : Int), (ms.length : Int))]))[j]? = some [.int .i64 x, .int .i64 y] := by
    simp only [rowsC, List.getElem?_map]
    rw [List.getElem?_append_left hjl, hxy]; rfl
  have d1 : (x = (ms.length : Int)) = False := eq_false (by omega)
  have d2 : (y = (ms.length : Int)) = False := eq_false (by omega)
  have d3 : ((ms.length : Int) < x) = False := eq_false (by omega)
  have d4 : ((ms.length : Int) < y) = False := eq_false (by omega)
  have hap : tI (rowsC (cs.take j)) ++ [[T.im (.int .i64 x), T.im (.int .i64 y)]] = tI (rowsC (cs.take (j + 1))) := by
    rw [take_snoc hxy]; simp [tI, rowsC]
  have hlj : (cs.take j).length = j := by simp; omega
  have hlj1 : (cs.take (j + 1)).length = j + 1 := by simp; omega
  have hby : ((List.take (j + 1) cs).length * 16 ≤ 140737488355328) = True := eq_true (by omega)
  try simp -dsimp (maxSteps := 1000000) only [go_sem, List.forall_mem_nil, ↓reduceIte, Nat.reduceEqDiff, Nat.reduceLT, Nat.reduceLeDiff, Nat.reduceAdd, Nat.reduceMul, reduceCtorEq, Tryz.f13, hI, b0, hwr, hrow, d1, d2, d3, d4, hap, hlj, hby, l2, rowsC_len, tI_len, appendH, srcRows, List.take_succ_cons, List.take_zero, List.all_cons, List.all_nil, okT, Bool.and_true, List.length_append, Int.toNat_natCast, Bool.or_self]
  refine ⟨⟨j + 1, by omega⟩, by simp only []; omega, [], [0, 1, 2, 6], ?_⟩
  (simp only [go_sem, eq_self, MvRb, MvRn, MvRt, List.nodup_cons, List.nodup_nil, ↓reduceIte, Nat.reduceEqDiff, Nat.reduceLT, Nat.reduceLeDiff, reduceCtorEq, List.forall_mem_nil, Nat.zero_le, false_implies, List.mem_singleton, MvR_Mi, MvR_Cb])
  all_goals simp [lk, MvB_im]
theorem tMset_toI (ex : List Nat) (H : Nat → Option Root) (j : Nat) : ∀ (ms : List Mod) (k : Nat) (m : Mod), ms[k]? = some m → mapO (mapO (toI ex H (j + 1))) ((tM ms).set k ((modI m).map T.im)) = some (rowsM ms)
  | [], k, m, h => by simp at h
  | x :: ms, 0, m, h => by
    simp only [List.getElem?_cons_zero, Option.some.injEq] at h
    subst h
    have h1 := tM_toI ex H ms j
    have h2 : mapO (toI ex H (j + 1)) ((modI x).map T.im) = some (modI x) := mapO_im (toI_im ex H (j + 1)) (modI x)
    simp only [tM, List.map_cons, List.set_cons_zero] at h1 ⊢
    simp only [mapO, h2, h1, rowsM, List.map_cons]
  | x :: ms, k + 1, m, h => by
    have h1 := tMset_toI ex H j ms k m (by simpa using h)
    have h2 := tM_toI ex H [x] j
    simp only [tM, List.map_cons, List.map_nil, mapO, rowsM] at h1 h2
    simp only [tM, List.map_cons, List.set_cons_succ, mapO, rowsM]
    cases hx : mapO (toI ex H (j + 1)) (modT x) with
    | none => rw [hx] at h2; cases h2
    | some y =>
      rw [hx] at h2
      simp only [Option.some.injEq, List.cons.injEq, and_true] at h2
      subst h2
      rw [h1]
structure ASw where
  ms : List Mod
  cs : List Cbl
  k : Nat
  m : Mod
  ok : ∀ m ∈ ms, OkM m
  r : isRackF ms cs = true
  hk : ms[k]? = some m
noncomputable def ct_SwapModule : Ct := fam true (fun x : ASw => ([.agg [.im (.sl 11 (rowsM x.ms)), .im (.sl 2 (rowsC x.cs))], .c (.im (.int .i64 (x.k : Int))), .agg (modC x.m)], [])) (fun x => .one (rRackT x.ms x.cs))
theorem run_SwapModule {ms : List Mod} {cs : List Cbl} {k : Nat} {m : Mod} (h5 : ∀ m ∈ ms, OkM m) (r : isRackF ms cs = true) (hk : ms[k]? = some m) : ct_SwapModule.run [.agg [.im (.sl 11 (rowsM ms)), .im (.sl 2 (rowsC cs))], .c (.im (.int .i64 (k : Int))), .agg (modC m)] [] = some (.one (rRackT ms cs)) := by
  refine fam_run' (args := fun x : ASw => ([D.agg [.im (.sl 11 (rowsM x.ms)), .im (.sl 2 (rowsC x.cs))], .c (.im (.int .i64 (x.k : Int))), .agg (modC x.m)], [])) ?_ ⟨ms, cs, k, m, h5, r, hk⟩
  rintro ⟨a, b, c, d, _, _, _⟩ ⟨a', b', c', d', _, _, _⟩ h
  simp only [Prod.mk.injEq, List.cons.injEq, D.agg.injEq, D.c.injEq, C.im.injEq, I.sl.injEq, I.int.injEq, true_and, and_true, rowsM_eq, rowsC_eq, Int.natCast_inj] at h
  obtain ⟨⟨rfl, rfl⟩, rfl, h⟩ := h
  have := modC_inj h
  subst this; rfl
theorem sc_SwapModule : (ct_SwapModule.sc = true) = True := by simp [ct_SwapModule, fam]
set_option maxRecDepth 100000 in
set_option maxHeartbeats 8000000 in
theorem law_SwapModule : Law Tryz.prog 15 ct_SwapModule := by
  refine fam_lawF (Env_cons law_IsRack (Env_cons law_copyRack (Env_cons law_rackOf Env_nil))) hmixA Tryz.func15 rfl rfl (fun ⟨ms, cs, i, ⟨k, ⟨t1, t2⟩, ⟨s1, s2⟩, lv, st, ra, rc, pts, lab, c, l⟩, h5, r, hk⟩ => ⟨okO okR_rackT, by simp [Tryz.f15, modC], ?_⟩)
  simp only [rRackT, modC]
  have hsm : sm = 16777216 := rfl
  obtain ⟨p1, p2, _⟩ := isRack_parts.1 r
  have h1 : ms.length ≤ sm := by omega
  have h2 : cs.length ≤ sm := by omega
  have hi : i < ms.length := (List.getElem?_eq_some_iff.1 hk).1
  have c1 : ((i : Int) < 0) = False := eq_false (by omega)
  have c2 : ((ms.length : Int) ≤ (i : Int)) = False := eq_false (by omega)
  have c3 : (0 ≤ (i : Int)) = True := eq_true (by omega)
  have c4 : ((i : Int) < (ms.length : Int)) = True := eq_true (by omega)
  have hg : (tM ms)[i]? = some (modT ⟨k, (t1, t2), (s1, s2), lv, st, ra, rc, pts, lab, c, l⟩) := by simp [tM, hk]
  have hgs : ∀ x, ((tM ms).set i x)[i]? = some x := fun x => List.getElem?_set_self (by rw [tM_len]; exact hi)
  have hss : ∀ x y, ((tM ms).set i x).set i y = (tM ms).set i y := fun x y => by rw [List.set_set]
  have hto := fun ex H d => tMset_toI ex H d ms i _ hk
  simp only [modI, List.map_cons, List.map_nil] at hto
  have tl : List.take ms.length (tM ms) = tM ms := List.take_of_length_le (by rw [tM_len]; omega)
  have tl2 : ∀ x, List.take ms.length ((tM ms).set i x) = (tM ms).set i x := fun x => List.take_of_length_le (by rw [List.length_set, tM_len]; omega)
  have tlc : List.take cs.length (tI (rowsC cs)) = tI (rowsC cs) := List.take_of_length_le (by simp [tI_len, rowsC_len])
  try simp -dsimp (maxSteps := 1000000) only [go_sem, List.forall_mem_nil, ↓reduceIte, Nat.reduceEqDiff, Nat.reduceLT, Nat.reduceLeDiff, Nat.reduceAdd, Nat.reduceMul, reduceCtorEq, Tryz.f15, run_IsRack h1 h2 h5, r, run_copyRack h1 h2 h5, rRack, run_rackOf h1 h2 h5, rRackB, rRackT, sc_rackOf, rowsM_len, tM_len, c1, c2, c3, c4, hg, modT, hgs, hss, hto, tl2, tlc, tI_toI, tI_len, rowsC_len, List.length_set, Int.toNat_natCast, Bool.not_true, Bool.or_self]
  refine finF_i [] ?_
  simp -dsimp (maxSteps := 1000000) only [go_sem, List.forall_mem_nil, ↓reduceIte, Nat.reduceEqDiff, Nat.reduceLT, Nat.reduceLeDiff, Nat.reduceAdd, Nat.reduceMul, reduceCtorEq]
  refine ⟨[_, _], ?_, ?_, ?_, rfl, rfl⟩ <;> simp [rtOk]
end Go.SX
set_option linter.unusedVariables false
set_option linter.unusedSimpArgs false
namespace Go.SX
open Go Go.Proofs
theorem fcmp_self {a : Nat} (h : fcmp .neq .f32 a a = false) : fcmp .eql .f32 a a = true := by
  simp only [fcmp, bne] at h ⊢
  cases hc : (FloatKind.f32.format.order a a == some Ordering.eq) with
  | true => rfl
  | false => rw [hc] at h; simp at h
noncomputable def ct_l5Same : Ct := fam false (fun x : Nat => ([.c (.im (.flt .f32 x)), .c (.im (.flt .f32 x))], [])) (fun _ => .one { val := .c (.im (.bool true)) })
theorem run_l5Same (x : Nat) : ct_l5Same.run [.c (.im (.flt .f32 x)), .c (.im (.flt .f32 x))] [] = some (.one { val := .c (.im (.bool true)) }) := by
  refine fam_run' (args := fun x : Nat => ([D.c (.im (.flt .f32 x)), .c (.im (.flt .f32 x))], [])) ?_ x
  intro a b h
  simpa using h
set_option maxRecDepth 100000 in
theorem law_l5Same : Law Tryz.prog 77 ct_l5Same := by
  refine fam_law Env_nil hmixA Tryz.func77 rfl rfl (fun a => ⟨okO_im rfl, by simp [Tryz.f77], ?_⟩)
  simp only
  cases hn : fcmp .neq .f32 a a with
  | true =>
    try simp -dsimp (maxSteps := 1000000) only [go_sem, List.forall_mem_nil, ↓reduceIte, Nat.reduceEqDiff, Nat.reduceLT, Nat.reduceLeDiff, Nat.reduceAdd, Nat.reduceMul, reduceCtorEq, Tryz.f77, hn]
  | false =>
    have he := fcmp_self hn
    cases h0 : fcmp .eql .f32 a 0 with
    | true =>
      try simp -dsimp (maxSteps := 1000000) only [go_sem, List.forall_mem_nil, ↓reduceIte, Nat.reduceEqDiff, Nat.reduceLT, Nat.reduceLeDiff, Nat.reduceAdd, Nat.reduceMul, reduceCtorEq, Tryz.f77, hn, h0, beq_self_eq_true]
    | false =>
      try simp -dsimp (maxSteps := 1000000) only [go_sem, List.forall_mem_nil, ↓reduceIte, Nat.reduceEqDiff, Nat.reduceLT, Nat.reduceLeDiff, Nat.reduceAdd, Nat.reduceMul, reduceCtorEq, Tryz.f77, hn, h0, he]
noncomputable def ct_l5SamePoint : Ct := fam false (fun x : Pt => ([.c (.im (.cpx .f32 x.1 x.2)), .c (.im (.cpx .f32 x.1 x.2))], [])) (fun _ => .one { val := .c (.im (.bool true)) })
theorem run_l5SamePoint (x y : Nat) : ct_l5SamePoint.run [.c (.im (.cpx .f32 x y)), .c (.im (.cpx .f32 x y))] [] = some (.one { val := .c (.im (.bool true)) }) := by
  refine fam_run' (args := fun x : Pt => ([D.c (.im (.cpx .f32 x.1 x.2)), .c (.im (.cpx .f32 x.1 x.2))], [])) ?_ (x, y)
  rintro ⟨a, b⟩ ⟨c, d⟩ h
  simp at h
  simp [h]
set_option maxRecDepth 100000 in
theorem law_l5SamePoint : Law Tryz.prog 76 ct_l5SamePoint := by
  refine fam_law (Env_cons law_l5Same Env_nil) hmixA Tryz.func76 rfl rfl (fun ⟨a, b⟩ => ⟨okO_im rfl, by simp [Tryz.f76], ?_⟩)
  simp only
  try simp -dsimp (maxSteps := 1000000) only [go_sem, List.forall_mem_nil, ↓reduceIte, Nat.reduceEqDiff, Nat.reduceLT, Nat.reduceLeDiff, Nat.reduceAdd, Nat.reduceMul, reduceCtorEq, Tryz.f76, run_l5Same a, run_l5Same b]
structure AZl where
  l : List Pt
  len : l.length ≤ sm
noncomputable def ct_l5SameList : Ct := fam true (fun x : AZl => ([.c (.im (.sl 1 (rowsZ x.l))), .c (.im (.sl 1 (rowsZ x.l)))], [])) (fun _ => .one { val := .c (.im (.bool true)) })
theorem run_l5SameList {l : List Pt} (h : l.length ≤ sm) : ct_l5SameList.run [.c (.im (.sl 1 (rowsZ l))), .c (.im (.sl 1 (rowsZ l)))] [] = some (.one { val := .c (.im (.bool true)) }) := by
  refine fam_run' (args := fun x : AZl => ([D.c (.im (.sl 1 (rowsZ x.l))), .c (.im (.sl 1 (rowsZ x.l)))], [])) ?_ ⟨l, h⟩
  rintro ⟨a, _⟩ ⟨b, _⟩ h
  simp [rowsZ_eq] at h
  subst h; rfl
theorem sc_l5SameList : (ct_l5SameList.sc = true) = True := by simp [ct_l5SameList, fam]
set_option maxRecDepth 100000 in
theorem law_l5SameList : Law Tryz.prog 49 ct_l5SameList := by
  refine fam_law (Env_cons law_l5SamePoint Env_nil) hmixA Tryz.func49 rfl rfl (fun ⟨l, hl⟩ => ⟨okO_im rfl, by simp [Tryz.f49], ?_⟩)
  simp only
  try simp -dsimp (maxSteps := 1000000) only [go_sem, List.forall_mem_nil, ↓reduceIte, Nat.reduceEqDiff, Nat.reduceLT, Nat.reduceLeDiff, Nat.reduceAdd, Nat.reduceMul, reduceCtorEq, Tryz.f49, rowsZ_len]
  refine loop_i (ι := { k : Nat // k ≤ l.length }) (fun k => ⟨[(0, some (.c (.im (.sl 1 (rowsZ l))))), (1, some (.c (.im (.sl 1 (rowsZ l))))), (12, some (.c (.im (.int .i64 (l.length : Int))))), (13, some (.c (.im (.int .i64 (k.1 : Int)))))], [], 0⟩) (fun k => l.length - k.1) ⟨0, by simp⟩ ⟨[], [], by ((simp only [go_sem, eq_self, MvRb, MvRn, MvRt, List.nodup_cons, List.nodup_nil, ↓reduceIte, Nat.reduceEqDiff, Nat.reduceLT, Nat.reduceLeDiff, reduceCtorEq, List.forall_mem_nil, Nat.zero_le, false_implies, List.mem_singleton]) <;> (try (simp -dsimp only [go_sem, eq_self, MvRb, MvRn, MvRt, List.nodup_cons, List.nodup_nil, ↓reduceIte, Nat.reduceEqDiff, Nat.reduceLT, Nat.reduceLeDiff, reduceCtorEq, List.forall_mem_nil, Nat.zero_le, false_implies, List.mem_singleton]))) <;> simp⟩ (fun ⟨k, hk⟩ => ?_)
  simp only
  by_cases hlt : k < l.length
  · obtain ⟨p, hp⟩ : ∃ p, l[k]? = some p := ⟨_, List.getElem?_eq_getElem hlt⟩
    have hrow := rowsZ_at hp
    have hI : ((k : Int) < (l.length : Int)) = True := by simp; omega
    have h0 : (0 ≤ (k : Int)) = True := by simp
    have hwr := lt_sm hl hlt
    try simp -dsimp (maxSteps := 1000000) only [go_sem, List.forall_mem_nil, ↓reduceIte, Nat.reduceEqDiff, Nat.reduceLT, Nat.reduceLeDiff, Nat.reduceAdd, Nat.reduceMul, reduceCtorEq, Tryz.f49, hI, h0, Int.toNat_natCast, hrow, hwr, run_l5SamePoint, rowsZ_len]
    repeat' (first
      | ((with_reducible refine sl_i ?_ ?_); focus kernel_rfl)
      | ((with_reducible refine ro_i ?_ ?_); focus kernel_rfl))
    exact ⟨⟨k + 1, by omega⟩, by simp only []; omega, [], [], by (simp only [go_sem, eq_self, MvRb, MvRn, MvRt, List.nodup_cons, List.nodup_nil, ↓reduceIte, Nat.reduceEqDiff, Nat.reduceLT, Nat.reduceLeDiff, reduceCtorEq, List.forall_mem_nil, Nat.zero_le, false_implies, List.mem_singleton]) <;> simp⟩
  · have hI : ((k : Int) < (l.length : Int)) = False := by simp; omega
    try simp -dsimp (maxSteps := 1000000) only [go_sem, List.forall_mem_nil, ↓reduceIte, Nat.reduceEqDiff, Nat.reduceLT, Nat.reduceLeDiff, Nat.reduceAdd, Nat.reduceMul, reduceCtorEq, Tryz.f49, hI, rowsZ_len]
noncomputable def ct_SameModules : Ct := fam true (fun x : MdA => ([.agg (modC x.1), .agg (modC x.1)], [])) (fun _ => .one { val := .c (.im (.bool true)) })
theorem run_SameModules {m : Mod} (h : OkM m) : ct_SameModules.run [.agg (modC m), .agg (modC m)] [] = some (.one { val := .c (.im (.bool true)) }) := by
  refine fam_run' (args := fun x : MdA => ([D.agg (modC x.1), .agg (modC x.1)], [])) ?_ ⟨m, h⟩
  rintro ⟨a, _⟩ ⟨b, _⟩ h
  simp at h ⊢
  exact modC_inj h
set_option maxRecDepth 100000 in
set_option maxHeartbeats 8000000 in
theorem law_SameModules : Law Tryz.prog 36 ct_SameModules := by
  refine fam_law (Env_cons law_l5Same (Env_cons law_l5SamePoint (Env_cons law_l5SameList Env_nil))) hmixA Tryz.func36 rfl rfl (fun ⟨⟨k, ⟨t1, t2⟩, ⟨s1, s2⟩, lv, st, ra, rc, pts, lab, c, l⟩, ⟨q1, q2, q3⟩⟩ => ⟨okO_im rfl, by simp [Tryz.f36], ?_⟩)
  simp only at q1 q2 q3
  simp only [modC]
  try simp -dsimp (maxSteps := 1000000) only [go_sem, List.forall_mem_nil, ↓reduceIte, Nat.reduceEqDiff, Nat.reduceLT, Nat.reduceLeDiff, Nat.reduceAdd, Nat.reduceMul, reduceCtorEq, Tryz.f36, rowsN_len, ne_eq, not_true_eq_false, decide_false]
  refine loop_i (ι := { k : Nat // k ≤ lab.length }) (fun j => ⟨[(2, some (.c (.ptr 0 0 0 0))), (3, some (.c (.ptr 1 0 0 0))), (57, some (.c (.im (.sl 1 (rowsN lab))))), (58, some (.c (.im (.int .i64 (lab.length : Int))))), (59, some (.c (.im (.int .i64 (j.1 : Int)))))],
    [(0, some (.box [.t (.im (.int .i64 k)), .t (.im (.cpx .f32 t1 t2)), .t (.im (.cpx .f32 s1 s2)), .t (.im (.flt .f32 lv)), .t (.im (.sl 1 (rowsZ st))), .t (.im (.int .i64 ra)), .t (.im (.int .i64 rc)), .t (.im (.sl 1 (rowsZ pts))), .t (.im (.sl 1 (rowsN lab))), .t (.im (.int .i64 c)), .t (.im (.int .i64 l))])), (1, some (.box [.t (.im (.int .i64 k)), .t (.im (.cpx .f32 t1 t2)), .t (.im (.cpx .f32 s1 s2)), .t (.im (.flt .f32 lv)), .t (.im (.sl 1 (rowsZ st))), .t (.im (.int .i64 ra)), .t (.im (.int .i64 rc)), .t (.im (.sl 1 (rowsZ pts))), .t (.im (.sl 1 (rowsN lab))), .t (.im (.int .i64 c)), .t (.im (.int .i64 l))]))], 2⟩) (fun j => lab.length - j.1) ⟨0, by simp⟩ ⟨[], [0, 1], by ((simp only [go_sem, eq_self, MvRb, MvRn, MvRt, List.nodup_cons, List.nodup_nil, ↓reduceIte, Nat.reduceEqDiff, Nat.reduceLT, Nat.reduceLeDiff, reduceCtorEq, List.forall_mem_nil, Nat.zero_le, false_implies, List.mem_singleton]) <;> (try (simp -dsimp only [go_sem, eq_self, MvRb, MvRn, MvRt, List.nodup_cons, List.nodup_nil, ↓reduceIte, Nat.reduceEqDiff, Nat.reduceLT, Nat.reduceLeDiff, reduceCtorEq, List.forall_mem_nil, Nat.zero_le, false_implies, List.mem_singleton]))) <;> simp [lk, MvB_im]⟩ (fun ⟨j, hj⟩ => ?_)
  simp only
  by_cases hlt : j < lab.length
  · obtain ⟨p, hp⟩ : ∃ p, lab[j]? = some p := ⟨_, List.getElem?_eq_getElem hlt⟩
    have hrow := rowsN_at hp
    have hI : ((j : Int) < (lab.length : Int)) = True := by simp; omega
    have h0 : (0 ≤ (j : Int)) = True := by simp
    have hwr := lt_sm q3 hlt
    try simp -dsimp (maxSteps := 1000000) only [go_sem, List.forall_mem_nil, ↓reduceIte, Nat.reduceEqDiff, Nat.reduceLT, Nat.reduceLeDiff, Nat.reduceAdd, Nat.reduceMul, reduceCtorEq, Tryz.f36, hI, h0, Int.toNat_natCast, hrow, hwr, rowsN_len, ne_eq, not_true_eq_false, decide_false]
    exact ⟨⟨j + 1, by omega⟩, by simp only []; omega, [], [0, 1], by (simp only [go_sem, eq_self, MvRb, MvRn, MvRt, List.nodup_cons, List.nodup_nil, ↓reduceIte, Nat.reduceEqDiff, Nat.reduceLT, Nat.reduceLeDiff, reduceCtorEq, List.forall_mem_nil, Nat.zero_le, false_implies, List.mem_singleton]) <;> simp [lk, MvB_im]⟩
  · have hI : ((j : Int) < (lab.length : Int)) = False := by simp; omega
    try simp -dsimp (maxSteps := 1000000) only [go_sem, List.forall_mem_nil, ↓reduceIte, Nat.reduceEqDiff, Nat.reduceLT, Nat.reduceLeDiff, Nat.reduceAdd, Nat.reduceMul, reduceCtorEq, Tryz.f36, hI, run_l5SamePoint, run_l5Same, run_l5SameList q1, run_l5SameList q2, sc_l5SameList, rowsN_len]
structure ARk2 where
  ms : List Mod
  cs : List Cbl
  ml : ms.length ≤ sm
  cl : cs.length ≤ sm
  ok : ∀ m ∈ ms, OkM m
noncomputable def ct_SameRacks : Ct := fam true (fun x : ARk2 => ([.agg [.im (.sl 11 (rowsM x.ms)), .im (.sl 2 (rowsC x.cs))], .agg [.im (.sl 11 (rowsM x.ms)), .im (.sl 2 (rowsC x.cs))]], [])) (fun _ => .one { val := .c (.im (.bool true)) })
theorem run_SameRacks {ms : List Mod} {cs : List Cbl} (h1 : ms.length ≤ sm) (h2 : cs.length ≤ sm) (h5 : ∀ m ∈ ms, OkM m) : ct_SameRacks.run [.agg [.im (.sl 11 (rowsM ms)), .im (.sl 2 (rowsC cs))], .agg [.im (.sl 11 (rowsM ms)), .im (.sl 2 (rowsC cs))]] [] = some (.one { val := .c (.im (.bool true)) }) := by
  refine fam_run' (args := fun x : ARk2 => ([D.agg [.im (.sl 11 (rowsM x.ms)), .im (.sl 2 (rowsC x.cs))], .agg [.im (.sl 11 (rowsM x.ms)), .im (.sl 2 (rowsC x.cs))]], [])) ?_ ⟨ms, cs, h1, h2, h5⟩
  rintro ⟨a, b, _, _, _⟩ ⟨a', b', _, _, _⟩ h
  simp only [Prod.mk.injEq, List.cons.injEq, D.agg.injEq, C.im.injEq, I.sl.injEq, true_and, and_true, rowsM_eq, rowsC_eq] at h
  obtain ⟨⟨rfl, rfl⟩, _⟩ := h
  rfl
theorem sc_SameRacks : (ct_SameRacks.sc = true) = True := by simp [ct_SameRacks, fam]
end Go.SX
set_option linter.unusedVariables false
set_option linter.unusedSimpArgs false
namespace Go.SX
open Go Go.Proofs
set_option maxRecDepth 100000 in
set_option maxHeartbeats 8000000 in
theorem law_SameRacks : Law Tryz.prog 14 ct_SameRacks := by
  refine fam_law (Env_cons law_SameModules Env_nil) hmixA Tryz.func14 rfl rfl (fun ⟨ms, cs, h1, h2, h5⟩ => ⟨okO_im rfl, by simp [Tryz.f14], ?_⟩)
  simp only
  try simp -dsimp (maxSteps := 1000000) only [go_sem, List.forall_mem_nil, ↓reduceIte, Nat.reduceEqDiff, Nat.reduceLT, Nat.reduceLeDiff, Nat.reduceAdd, Nat.reduceMul, reduceCtorEq, Tryz.f14, rowsM_len, rowsC_len, ne_eq, not_true_eq_false, decide_false]
  refine loop_i (ι := { k : Nat // k ≤ cs.length }) (fun j => ⟨[(2, some (.c (.ptr 0 0 0 0))), (3, some (.c (.ptr 1 0 0 0))), (26, some (.c (.im (.sl 2 (rowsC cs))))), (27, some (.c (.im (.int .i64 (cs.length : Int))))), (28, some (.c (.im (.int .i64 (j.1 : Int)))))],
    [(0, some (.box [.t (.im (.sl 11 (rowsM ms))), .t (.im (.sl 2 (rowsC cs)))])), (1, some (.box [.t (.im (.sl 11 (rowsM ms))), .t (.im (.sl 2 (rowsC cs)))]))], 2⟩) (fun j => cs.length - j.1) ⟨0, by simp⟩ ⟨[], [0, 1], by ((simp only [go_sem, eq_self, MvRb, MvRn, MvRt, List.nodup_cons, List.nodup_nil, ↓reduceIte, Nat.reduceEqDiff, Nat.reduceLT, Nat.reduceLeDiff, reduceCtorEq, List.forall_mem_nil, Nat.zero_le, false_implies, List.mem_singleton]) <;> (try (simp -dsimp only [go_sem, eq_self, MvRb, MvRn, MvRt, List.nodup_cons, List.nodup_nil, ↓reduceIte, Nat.reduceEqDiff, Nat.reduceLT, Nat.reduceLeDiff, reduceCtorEq, List.forall_mem_nil, Nat.zero_le, false_implies, List.mem_singleton]))) <;> simp [lk, MvB_im]⟩ (fun ⟨j, hj⟩ => ?_)
  simp only
  by_cases hlt : j < cs.length
  · obtain ⟨p, hp⟩ : ∃ p, cs[j]? = some p := ⟨_, List.getElem?_eq_getElem hlt⟩
    have hrow := rowsC_at hp
    have hI : ((j : Int) < (cs.length : Int)) = True := by simp; omega
    have h0 : (0 ≤ (j : Int)) = True := by simp
    have hwr := lt_sm h2 hlt
    try simp -dsimp (maxSteps := 1000000) only [go_sem, List.forall_mem_nil, ↓reduceIte, Nat.reduceEqDiff, Nat.reduceLT, Nat.reduceLeDiff, Nat.reduceAdd, Nat.reduceMul, reduceCtorEq, Tryz.f14, hI, h0, Int.toNat_natCast, hrow, hwr, rowsC_len, ne_eq, not_true_eq_false, decide_false, decide_true, Bool.and_true, Bool.and_self]
    repeat' (first
      | ((with_reducible refine sl_i ?_ ?_); focus kernel_rfl)
      | ((with_reducible refine ro_i ?_ ?_); focus kernel_rfl))
    exact ⟨⟨j + 1, by omega⟩, by simp only []; omega, [], [0, 1], by (simp only [go_sem, eq_self, MvRb, MvRn, MvRt, List.nodup_cons, List.nodup_nil, ↓reduceIte, Nat.reduceEqDiff, Nat.reduceLT, Nat.reduceLeDiff, reduceCtorEq, List.forall_mem_nil, Nat.zero_le, false_implies, List.mem_singleton]) <;> simp [lk, MvB_im]⟩
  have hI : ((j : Int) < (cs.length : Int)) = False := by simp; omega
  try simp -dsimp (maxSteps := 1000000) only [go_sem, List.forall_mem_nil, ↓reduceIte, Nat.reduceEqDiff, Nat.reduceLT, Nat.reduceLeDiff, Nat.reduceAdd, Nat.reduceMul, reduceCtorEq, Tryz.f14, hI, rowsM_len, rowsC_len]
  refine loop_i (ι := { k : Nat // k ≤ ms.length }) (fun j => ⟨[(3, some (.c (.ptr 1 0 0 0))), (42, some (.c (.im (.sl 11 (rowsM ms))))), (43, some (.c (.im (.int .i64 (ms.length : Int))))), (44, some (.c (.im (.int .i64 (j.1 : Int)))))],
    [(1, some (.box [.t (.im (.sl 11 (rowsM ms))), .t (.im (.sl 2 (rowsC cs)))]))], 2⟩) (fun j => ms.length - j.1) ⟨0, by simp⟩ ⟨[], [1], by ((simp only [go_sem, eq_self, MvRb, MvRn, MvRt, List.nodup_cons, List.nodup_nil, ↓reduceIte, Nat.reduceEqDiff, Nat.reduceLT, Nat.reduceLeDiff, reduceCtorEq, List.forall_mem_nil, Nat.zero_le, false_implies, List.mem_singleton]) <;> (try (simp -dsimp only [go_sem, eq_self, MvRb, MvRn, MvRt, List.nodup_cons, List.nodup_nil, ↓reduceIte, Nat.reduceEqDiff, Nat.reduceLT, Nat.reduceLeDiff, reduceCtorEq, List.forall_mem_nil, Nat.zero_le, false_implies, List.mem_singleton]))) <;> simp [lk, MvB_im]⟩ (fun ⟨j, hj⟩ => ?_)
  simp only
  by_cases hlt : j < ms.length
  · obtain ⟨p, hp⟩ : ∃ p, ms[j]? = some p := ⟨_, List.getElem?_eq_getElem hlt⟩
    have hrow := rowsM_at hp
    have hJ : ((j : Int) < (ms.length : Int)) = True := by simp; omega
    have h0 : (0 ≤ (j : Int)) = True := by simp
    have hwr := lt_sm h1 hlt
    have hr := run_SameModules (h5 p (List.mem_of_getElem? hp))
    simp only [modC] at hr
    try simp -dsimp (maxSteps := 1000000) only [go_sem, List.forall_mem_nil, ↓reduceIte, Nat.reduceEqDiff, Nat.reduceLT, Nat.reduceLeDiff, Nat.reduceAdd, Nat.reduceMul, reduceCtorEq, Tryz.f14, hJ, h0, Int.toNat_natCast, hrow, hwr, hr, rowsM_len]
    repeat' (first
      | ((with_reducible refine sl_i ?_ ?_); focus kernel_rfl)
      | ((with_reducible refine ro_i ?_ ?_); focus kernel_rfl))
    exact ⟨⟨j + 1, by omega⟩, by simp only []; omega, [], [1], by (simp only [go_sem, eq_self, MvRb, MvRn, MvRt, List.nodup_cons, List.nodup_nil, ↓reduceIte, Nat.reduceEqDiff, Nat.reduceLT, Nat.reduceLeDiff, reduceCtorEq, List.forall_mem_nil, Nat.zero_le, false_implies, List.mem_singleton]) <;> simp [lk, MvB_im]⟩
  have hJ : ((j : Int) < (ms.length : Int)) = False := by simp; omega
  try simp -dsimp (maxSteps := 1000000) only [go_sem, List.forall_mem_nil, ↓reduceIte, Nat.reduceEqDiff, Nat.reduceLT, Nat.reduceLeDiff, Nat.reduceAdd, Nat.reduceMul, reduceCtorEq, Tryz.f14, hJ]
end Go.SX
set_option linter.unusedVariables false
set_option linter.unusedSimpArgs false
namespace Go.SX
open Go Go.Proofs
set_option maxRecDepth 100000 in
set_option maxHeartbeats 40000000 in
theorem law_FnBuilt : Law Tryz.prog 3 ctLaw := by
  refine fam_law (Env_cons law_MakeRack (Env_cons law_at (Env_cons law_fresh (Env_cons law_MakeModule (Env_cons law_AddModule (Env_cons law_AddCable (Env_cons law_DropCable (Env_cons law_DropModule (Env_cons law_SwapModule (Env_cons law_ResetRack (Env_cons law_SameRacks (Env_cons law_sIsRack Env_nil)))))))))))) hmixA Tryz.func3 rfl rfl (fun ⟨l, hb⟩ => ⟨okO_im rfl, by simp [Tryz.f3], ?_⟩)
  simp only
  by_cases hbig : 1048576 < l.length
  · have hI : ((1048576 : Int) < (l.length : Int)) = True := eq_true (by omega)
    clear hbig
    try simp -dsimp (maxSteps := 1000000) only [go_sem, List.forall_mem_nil, ↓reduceIte, Nat.reduceEqDiff, Nat.reduceLT, Nat.reduceLeDiff, Nat.reduceAdd, Nat.reduceMul, reduceCtorEq, Tryz.f3, rowsB_len, hI]
  have hlen : l.length ≤ 1048576 := by omega
  have hI : ((1048576 : Int) < (l.length : Int)) = False := eq_false (by omega)
  have hsm : sm = 16777216 := rfl
  have rk : ct_MakeRack.run [.c (.im (.sl 1 (rowsB l))), .c (.im (.int .i64 6))] [] = some (oMk 6) := run_MakeRack hlen hb (n := 6) (by omega)
  have rf : ct_fresh.run [.c (.im (.sl 1 (rowsB l))), .c (.im (.int .i64 3))] [] = some oFresh := run_fresh hlen hb (s := 3) (by omega) (by omega)
  try simp -dsimp (maxSteps := 1000000) only [go_sem, List.forall_mem_nil, ↓reduceIte, Nat.reduceEqDiff, Nat.reduceLT, Nat.reduceLeDiff, Nat.reduceAdd, Nat.reduceMul, reduceCtorEq, Tryz.f3, rowsB_len, hI, rk, oMk, ne_omk]
  rintro ⟨⟨ms, cs⟩, hG, l1, l2⟩
  simp only at hG l1 l2
  try simp -dsimp (maxSteps := 1000000) only [go_sem, List.forall_mem_nil, ↓reduceIte, Nat.reduceEqDiff, Nat.reduceLT, Nat.reduceLeDiff, Nat.reduceAdd, Nat.reduceMul, reduceCtorEq, Tryz.f3, rf, oFresh, ne_fresh, rNew]
  rintro ⟨bs, lb, hbs⟩
  have hbl : List.take bs.length (tI (rowsB bs)) = tI (rowsB bs) := List.take_of_length_le (by simp [tI_len, rowsB_len])
  have rm := run_MakeModule (l := bs) (by omega) hbs
  try simp -dsimp (maxSteps := 1000000) only [go_sem, List.forall_mem_nil, ↓reduceIte, Nat.reduceEqDiff, Nat.reduceLT, Nat.reduceLeDiff, Nat.reduceAdd, Nat.reduceMul, reduceCtorEq, Tryz.f3, rowsB_len, rm, oMm, ne_qmod, rM, sc_MakeModule, hbl, tI_toI, tI_imT, tI_len]
  rintro ⟨⟨k, ⟨t1, t2⟩, ⟨s1, s2⟩, lv, st, ra, rc, pts, lab, c, lf⟩, hm⟩
  have hms : ms.length ≤ 6 := by omega
  have hokm : ∀ x ∈ ms, OkM x := fun x hx => (hG.dr x hx).ok
  have hc40 := hG.len.2
  have hrk := hG.rk
  have hadd := rack_add hrk (by omega) hm.mod
  have hwire := fun (q : Nat) (hq : q < ms.length) => rack_wire hrk (by omega) hm.mod hq
  have ra1 := run_AddModule (ms := ms) (cs := cs) (m := ⟨k, (t1, t2), (s1, s2), lv, st, ra, rc, pts, lab, c, lf⟩) (by omega) (by omega) hokm hm.ok
  have hamf : amF ms cs ⟨k, (t1, t2), (s1, s2), lv, st, ra, rc, pts, lab, c, lf⟩ = true := by simp [amF, hrk, hadd]
  rw [hamf] at ra1
  simp only [modC] at ra1
  have e1 : (ms ++ [(⟨k, (t1, t2), (s1, s2), lv, st, ra, rc, pts, lab, c, lf⟩ : Mod)]).length = ms.length + 1 := by simp
  have hokm2 : ∀ x ∈ ms ++ [(⟨k, (t1, t2), (s1, s2), lv, st, ra, rc, pts, lab, c, lf⟩ : Mod)], OkM x := fun x hx => by
    rcases List.mem_append.1 hx with q | q
    · exact hokm x q
    · simp at q; subst q; exact hm.ok
  obtain ⟨q, hq, mq⟩ := at_mod hb 1 ms.length (by omega)
  have r1 : ct_at.run [.c (.im (.sl 1 (rowsB l))), .c (.im (.int .i64 1))] [] = some (.one { val := .c (.im (.int .i64 (atF l 1))) }) := run_at hlen hb (i := 1) (by omega)
  have nl : ((ms.length : Int) = 0) = False := eq_false (by omega)
  obtain ⟨mk, hmk⟩ : ∃ x, ms[q]? = some x := ⟨ms[q], List.getElem?_eq_getElem mq⟩
  have hmem := List.mem_of_getElem? hmk
  have hrow := rowsM_at hmk
  have rsw := run_SwapModule hokm hrk hmk
  obtain ⟨k', ⟨t1', t2'⟩, ⟨s1', s2'⟩, lv', st', ra', rn', pts', lab', c', l'⟩ := mk
  simp only [modC] at rsw hrow
  obtain ⟨mz, hmz⟩ : ∃ x, ms.map resetM = x := ⟨_, rfl⟩
  have hgz := good_reset hG
  have hzz : mz.map resetM = mz := by rw [← hmz, List.map_map]; exact List.map_congr_left (fun x _ => resetM_two x)
  have rr1 := run_ResetRack hokm hrk
  have hlz : mz.length = ms.length := by rw [← hmz]; simp
  rw [hmz] at rr1 hgz
  have hokz : ∀ x ∈ mz, OkM x := fun x hx => (hgz.dr x hx).ok
  have rr2 := run_ResetRack hokz hgz.rk
  rw [hzz] at rr2
  have ris := run_sIsRack (ms := mz) (cs := cs) (by omega) (by omega) hgz.dr
  rw [hgz.rk] at ris
  have sz := run_SameRacks (ms := mz) (cs := cs) (by omega) (by omega) hokz
  have sr := run_SameRacks (ms := ms) (cs := cs) (by omega) (by omega) hokm
  have hw1 := hwire q mq
  clear hwire
  generalize hms2 : ms ++ [(⟨k, (t1, t2), (s1, s2), lv, st, ra, rc, pts, lab, c, lf⟩ : Mod)] = ms2 at *
  have s2' := run_SameRacks (ms := ms2) (cs := cs) (by omega) (by omega) hokm2
  have rac := run_AddCable (ms := ms2) (cs := cs) (by omega) (by omega) hokm2 (q : Int) (ms.length : Int)
  have hadF : addF ms2 cs (q : Int) (ms.length : Int) = decide (cs.length < 40) := by simp only [addF, hadd, hw1, Bool.true_and]
  have tkm : ∀ x : List Mod, List.take x.length (tM x) = tM x := fun x => List.take_of_length_le (by rw [tM_len]; omega)
  have tkc : ∀ x : List Cbl, List.take x.length (tI (rowsC x)) = tI (rowsC x) := fun x => List.take_of_length_le (by simp [tI_len, rowsC_len])
  have tkz : List.take ms.length (tM mz) = tM mz := List.take_of_length_le (by rw [tM_len]; omega)
  have hqr : (atF l 1).tmod (ms.length : Int) = (q : Int) := hq
  have b0 : (0 ≤ (q : Int)) = True := eq_true (by omega)
  have b1 : ((q : Int) < (ms.length : Int)) = True := eq_true (by omega)
  by_cases h40 : cs.length < 40
  · have i40 : ((cs.length : Int) < 40) = True := eq_true (by omega)
    rw [hadF, decide_eq_true h40] at rac
    rw [decide_eq_true h40] at hw1
    have rdc := run_DropCable (ms := ms2) (cs := cs) (c := ((q : Int), (ms.length : Int))) hokm2 hw1 hadd
    have rdm : ct_DropModule.run [.agg [.im (.sl 11 (rowsM ms2)), .im (.sl 2 (rowsC (cs ++ [((q : Int), (ms.length : Int))])))], .c (.im (.int .i64 (ms.length : Int)))] [] = some (.one (rRackT ms cs)) := by
      rw [← hms2]
      exact run_DropModule hokm hm.ok (by rw [hms2]; exact hw1) hrk mq
    generalize hcs2 : cs ++ [((q : Int), (ms.length : Int))] = cs2 at *
    try simp -dsimp (maxSteps := 1000000) only [go_sem, List.forall_mem_nil, ↓reduceIte, Nat.reduceEqDiff, Nat.reduceLT, Nat.reduceLeDiff, Nat.reduceAdd, Nat.reduceMul, reduceCtorEq, Tryz.f3, beq_self_eq_true, tkz, sc_MakeModule, hbl, tI_imT, rowsB_len, modC, ra1, rAm, sc_AddModule, tkm, tkc, tM_toI, tI_toI, tM_len, tI_len, rowsM_len, rowsC_len, rac, sc_AddCable, rRackB, rRackT, r1, nl, hqr, i40, rdc, sc_DropCable, rdm, sc_DropModule, s2', sr, sc_SameRacks, b0, b1, hrow, rsw, sc_SwapModule, rr1, rRackTr, sc_ResetRack, rr2, sz, ris, sc_sIsRack, hlz, Int.toNat_natCast, Bool.not_true, Bool.not_false, Bool.or_self, Bool.and_self, Bool.and_true, Bool.true_and]
    repeat' (first
      | ((with_reducible refine sl_i ?_ ?_); focus kernel_rfl)
      | ((with_reducible refine ro_i ?_ ?_); focus kernel_rfl)
      | ((with_reducible refine ro_e ?_); kernel_rfl))
  · have i40 : ((cs.length : Int) < 40) = False := eq_false (by omega)
    rw [hadF, decide_eq_false h40] at rac
    try simp -dsimp (maxSteps := 1000000) only [go_sem, List.forall_mem_nil, ↓reduceIte, Nat.reduceEqDiff, Nat.reduceLT, Nat.reduceLeDiff, Nat.reduceAdd, Nat.reduceMul, reduceCtorEq, Tryz.f3, beq_self_eq_true, tkz, sc_MakeModule, hbl, tI_imT, rowsB_len, modC, ra1, rAm, sc_AddModule, tkm, tkc, tM_toI, tI_toI, tM_len, tI_len, rowsM_len, rowsC_len, rac, sc_AddCable, rRackB, rRackF, r1, nl, hqr, i40, s2', sr, sc_SameRacks, b0, b1, hrow, rsw, sc_SwapModule, rRackT, rr1, rRackTr, sc_ResetRack, rr2, sz, ris, sc_sIsRack, hlz, Int.toNat_natCast, Bool.not_true, Bool.not_false, Bool.or_self, Bool.and_self, Bool.and_true, Bool.true_and]
    repeat' (first
      | ((with_reducible refine sl_i ?_ ?_); focus kernel_rfl)
      | ((with_reducible refine ro_i ?_ ?_); focus kernel_rfl)
      | ((with_reducible refine ro_e ?_); kernel_rfl))
end Go.SX
namespace Go.Proofs.YtojcifdnmihebaaGreat.fnBuilt
open Go.ChangeShapes Go.WideShapes Go.ChangeAt Go.RowKit
open Go.ChangeMaps (open_string shut_string)
set_option linter.unusedVariables false
theorem own : ownKnob Tryz.prog.godebug = none := by kernel_rfl
theorem laidOut : laidOutB Tryz.prog = true := by kernel_rfl
def IsRow (k : IntKind) (w : World) (a : Option Addr) (len cap : Nat) (zs : List Int) : Prop :=
  (a = none ∧ len = 0 ∧ cap = 0 ∧ zs = []) ∨
  ∃ x, a = some x ∧ len ≤ cap ∧ cap ≤ maxLen ∧ zs.length = cap ∧ (∀ i, i < zs.length → w.cell? (x.add i) = some (.int k (zs.getD i 0))) ∧ ∀ n ∈ zs, (Lit.int k n).wf = true
theorem walk (a0 : Option Addr) (len0 cap0 : Nat) (z0 : List Int) (w : World) (w0 : IsRow .u8 w a0 len0 cap0 z0) :
    Calls Tryz.prog 3 #[.slice a0 len0 cap0] w fun e w' => e = .returned (.bool true) ∧ Below w.heap.size w w' := by
  exact Go.SX.law_walk Go.SX.law_FnBuilt w0
set_option maxRecDepth 100000 in
theorem lifted (os : Os) (started : os.Started) (H : Type) (enc : TypeId × Value → H) :
    ReturnsInHanded {} Tryz.checked os 3 .any (Rows.fnBuiltSpec.pre6 enc Tryz.prog Tryz.f3 Rows.fnBuiltRow.domain false) (Rows.fnBuiltSpec.post enc Tryz.prog Tryz.f3 false true false false) := by
  refine returnsInHanded_of_change (C := Tryz.checked) own started (by kernel_rfl) Tryz.func3
    (ChangeSpec.witness6 (enc := enc) (C := Tryz.checked) false ⟨#[], #[.slice none 0 0], []⟩ 8 (by kernel_rfl) (by kernel_rfl) (by kernel_rfl) (by kernel_rfl)) ?_
  intro W base args ds gs before hval0 hW hcnd _
  have hval : ∀ (j : Nat) t v, Tryz.f3.params[j]? = some t → args[j]? = some v → Value.okWide Tryz.prog W .any base t v := hval0
  have hW' := hW
  obtain ⟨p, q, hA0, hV, rfl, hfz, hnd⟩ := hW
  have hA : DataW.TrodAll enc Tryz.prog W 0 (fun _ => true) true Tryz.f3.params.toList args.toList ds p := hA0
  rw [Tryz.params3] at hA hval
  obtain ⟨v0, vs0, d0, ds0, p0, q0, hargs, rfl, rfl, h0, r0⟩ := trodAll_cons hA
  obtain ⟨rfl, rfl, rfl⟩ := trodAll_nil r0
  obtain rfl : args = #[v0] := by cases args; simp_all
  obtain ⟨rfl, rfl⟩ := trodVars_none hV
  obtain ⟨a0, len0, cap0, rfl⟩ := okWide_slice Tryz.underlying22 (hval 0 22 v0 rfl rfl)
  have k0 := h0
  have lt0 : ∀ x ∈ p0, x.block < W.heap.size := by obtain ⟨m, hm⟩ := k0; exact DataW.trod_lt m _ _ _ hm
  obtain ⟨z0, w0⟩ : ∃ zs, IsRow .u8 W a0 len0 cap0 zs := by
    obtain ⟨fuel, hf⟩ := h0
    rcases open_ints Tryz.underlying22 Tryz.underlying5 (by kernel_rfl) hf with ⟨hcs, _⟩ | ⟨x, l, c, zs, hcs, _, hl, hm, hz, _, hcell, hwz⟩
    · simp [Value.cells] at hcs
      obtain ⟨rfl, rfl, rfl⟩ := hcs
      exact ⟨[], .inl ⟨rfl, rfl, rfl, rfl⟩⟩
    · simp [Value.cells] at hcs
      obtain ⟨rfl, rfl, rfl⟩ := hcs
      exact ⟨zs, .inr ⟨_, rfl, hl, hm, by simpa using hz, hcell, hwz⟩⟩
  clear hA0 hval0
  refine (walk a0 len0 cap0 z0 W w0).mono fun e W' ⟨he, bel⟩ => ?_
  subst he
  exact ⟨_, rfl, _, _, _, [], _, [], hW', trodAll_mk1 (shut_bool Tryz.underlying4 _), (trodAll_cons_mk (Below.trod laidOut (by kernel_rfl) (of_decide_eq_true (by kernel_rfl)) k0 bel lt0) trodAll_mk0), rfl, bel.frame _, fun h => by cases h⟩
theorem over : Rows.fnBuiltRow.holds Tryz.pinned (OpenSpec.ofChange Rows.fnBuiltSpec) :=
  OpenClaim.holds_of_wide 3 Tryz.f3 rfl rfl rfl rfl rfl rfl rfl ⟨rfl, rfl, rfl, rfl, rfl⟩ rfl rfl rfl rfl rfl (by kernel_rfl) Tryz.func3 (by kernel_rfl)
    (of_decide_eq_true (by kernel_rfl)) (by unfold Func.isWrapper; first | (rw [if_pos (by decide +kernel)]; kernel_rfl) | (rw [if_neg (by decide +kernel)]; exact ⟨rfl, rfl⟩))
    (fun os started H enc _ => lifted os started H enc)
theorem proved : Rows.FnBuiltSaid := over
#print axioms proved
end Go.Proofs.YtojcifdnmihebaaGreat.fnBuilt
