/- Functions printed by the kit's printer over these walks, and the plain law. No condition. -/
import Derived.Test.YtcnlbbmokphjnaaGStreamWindows0
import Derived.Test.YtcnlbbmokphjnaaWWords
import Derived.WalkKit
import Derived.ProofKit
import Derived.OpenShut
import Derived.ShutString
import Derived.ChangeOld
import Derived.Below
import Derived.SizedLaws
import Derived.ChangeArms
import Derived.WideShapes
import Derived.Carry
import Derived.Test.YtcnlbbmokphjnaaM1
import Derived.Test.YtcnlbbmokphjnaaWLast
import Derived.Test.YtcnlbbmokphjnaaWMore
import Derived.Test.YtcnlbbmokphjnaaWTab
set_option linter.unusedVariables false
set_option linter.unusedSimpArgs false
namespace Go.Proofs.Ytcnlbbmokphjnaa.Q
open Go.RowKit Go.Proofs.YtcnlbbmokphjnaaW.PrintWords Go.Proofs.YtcnlbbmokphjnaaW.PrintLast Go.Proofs.YtcnlbbmokphjnaaW.PrintMore
attribute [local go_sem] max2_int min2_int max_two min_two max_three min_three max_four min_four   -- for this text's walks alone
set_option linter.unusedVariables false
set_option linter.unusedSimpArgs false
mutual
def walkmilllaw02_StreamWindows.j0 : Nat → List (S23) → Int → Int → Int → Bool → Int → Int → Int → Int → Int → Int → Int → Int → Int → Option (Bool)
  | 0, _, _, _, _, _, _, _, _, _, _, _, _, _, _ => none
  | k + 1, x1, x8, x9, x10, x50, x340000, x340001, x340002, x340003, x340004, x340005, x340006, x341000, x341001 => if x50 = true then (walkmilllaw02_StreamWindows.j1 k x1 x8 x9 3 x340000 x340001 x340002 x340003 x340004 x340005 x340006 x341000 x341001) else (walkmilllaw02_StreamWindows.j1 k x1 x8 x9 x10 x340000 x340001 x340002 x340003 x340004 x340005 x340006 x341000 x341001)
def walkmilllaw02_StreamWindows.j1 : Nat → List (S23) → Int → Int → Int → Int → Int → Int → Int → Int → Int → Int → Int → Int → Option (Bool)
  | 0, _, _, _, _, _, _, _, _, _, _, _, _, _ => none
  | k + 1, x1, x8, x9, x10, x340000, x340001, x340002, x340003, x340004, x340005, x340006, x341000, x341001 => if x10 = 0 then ((walkmillref02_Window.f k x340000 x340001 x340002 x340003 x340004 x340005 x340006 x1 x341000 x341001).bind fun t351 => (if t351 ≥ 0 then (if x9 = 0 then (if x8 = t351 then ((walkmilllaw02_known.f).bind fun t352 => (some t352)) else (some false)) else (some false)) else (if x9 = 7 then (if x8 = 0 then ((walkmilllaw02_known.f).bind fun t353 => (some t353)) else (some false)) else (some false)))) else (if x9 = x10 then (if x8 = 0 then ((walkmilllaw02_known.f).bind fun t354 => (some t354)) else (some false)) else (some false))
end
def walkmilllaw02_StreamWindows.f (k : Nat) (a0_0 : Int) (a0_1 : Int) (a0_2 : Int) (a0_3 : Int) (a0_4 : Int) (a0_5 : Int) (a0_6 : Int) (l1 : List (S23)) (a2_0 : Int) (a2_1 : Int) : Option (Bool) := if (l1.length : Int) > 40 then ((walkmilllaw02_known.f).bind fun t341 => (some t341)) else ((walkmillref02_Copy.f l1).bind fun t342 => ((stream_Window.f a0_0 a0_1 a0_2 a0_3 a0_4 a0_5 a0_6 t342 a2_0 a2_1).bind fun bt345 => ((walkmillref02_Same.f k t342 l1).bind fun t347 => (if t347 = true then ((walkmillref02_Check.f k a0_0 a0_1 a0_2 a0_3 a0_4 a0_5 a0_6 l1).bind fun t348 => (if t348 = 0 then ((walkmillref02_In.f a2_0 1 a0_0).bind fun t349 => (if t349 = true then ((walkmillref02_In.f a2_1 1 24).bind fun t350 => (walkmilllaw02_StreamWindows.j0 k l1 bt345.1 bt345.2 t348 (!t350) a0_0 a0_1 a0_2 a0_3 a0_4 a0_5 a0_6 a2_0 a2_1)) else (walkmilllaw02_StreamWindows.j0 k l1 bt345.1 bt345.2 t348 true a0_0 a0_1 a0_2 a0_3 a0_4 a0_5 a0_6 a2_0 a2_1))) else (walkmilllaw02_StreamWindows.j0 k l1 bt345.1 bt345.2 t348 false a0_0 a0_1 a0_2 a0_3 a0_4 a0_5 a0_6 a2_0 a2_1))) else (some false)))))
theorem walkmilllaw02_StreamWindows.mono_l : ∀ k, (∀ y0 y1 y2 y3 y4 y5 y6 y7 y8 y9 y10 y11 y12 y13, LeO (walkmilllaw02_StreamWindows.j0 k y0 y1 y2 y3 y4 y5 y6 y7 y8 y9 y10 y11 y12 y13) (walkmilllaw02_StreamWindows.j0 (k + 1) y0 y1 y2 y3 y4 y5 y6 y7 y8 y9 y10 y11 y12 y13)) ∧ (∀ y0 y1 y2 y3 y4 y5 y6 y7 y8 y9 y10 y11 y12, LeO (walkmilllaw02_StreamWindows.j1 k y0 y1 y2 y3 y4 y5 y6 y7 y8 y9 y10 y11 y12) (walkmilllaw02_StreamWindows.j1 (k + 1) y0 y1 y2 y3 y4 y5 y6 y7 y8 y9 y10 y11 y12))
  | 0 => ⟨fun _ _ _ _ _ _ _ _ _ _ _ _ _ _ r h => by simp [walkmilllaw02_StreamWindows.j0] at h, fun _ _ _ _ _ _ _ _ _ _ _ _ _ r h => by simp [walkmilllaw02_StreamWindows.j1] at h⟩
  | k + 1 => by
    obtain ⟨ih0, ih1⟩ := walkmilllaw02_StreamWindows.mono_l k
    refine ⟨?_, ?_⟩
    · intro y0 y1 y2 y3 y4 y5 y6 y7 y8 y9 y10 y11 y12 y13
      unfold walkmilllaw02_StreamWindows.j0
      repeat' first
      | (with_reducible exact ih0 _ _ _ _ _ _ _ _ _ _ _ _ _ _)
      | (with_reducible exact ih1 _ _ _ _ _ _ _ _ _ _ _ _ _)
      | (with_reducible exact walkmillref02_Check.mono _ _ _ _ _ _ _ _ _)
      | (with_reducible exact walkmillref02_Same.mono _ _ _)
      | (with_reducible exact walkmillref02_Window.mono _ _ _ _ _ _ _ _ _ _ _)
      | (with_reducible exact LeO.refl _)
      | (with_reducible exact LeO.none _)
      | (with_reducible refine LeO.ite ?_ ?_)
      | (with_reducible refine LeO.bind ?_ (fun _ => ?_))
      | exact ih0 _ _ _ _ _ _ _ _ _ _ _ _ _ _
      | exact ih1 _ _ _ _ _ _ _ _ _ _ _ _ _
      | exact walkmillref02_Check.mono _ _ _ _ _ _ _ _ _
      | exact walkmillref02_Same.mono _ _ _
      | exact walkmillref02_Window.mono _ _ _ _ _ _ _ _ _ _ _
      | exact LeO.none _
      | refine LeO.ite ?_ ?_
      | refine LeO.bind ?_ (fun _ => ?_)
    · intro y0 y1 y2 y3 y4 y5 y6 y7 y8 y9 y10 y11 y12
      unfold walkmilllaw02_StreamWindows.j1
      repeat' first
      | (with_reducible exact ih0 _ _ _ _ _ _ _ _ _ _ _ _ _ _)
      | (with_reducible exact ih1 _ _ _ _ _ _ _ _ _ _ _ _ _)
      | (with_reducible exact walkmillref02_Check.mono _ _ _ _ _ _ _ _ _)
      | (with_reducible exact walkmillref02_Same.mono _ _ _)
      | (with_reducible exact walkmillref02_Window.mono _ _ _ _ _ _ _ _ _ _ _)
      | (with_reducible exact LeO.refl _)
      | (with_reducible exact LeO.none _)
      | (with_reducible refine LeO.ite ?_ ?_)
      | (with_reducible refine LeO.bind ?_ (fun _ => ?_))
      | exact ih0 _ _ _ _ _ _ _ _ _ _ _ _ _ _
      | exact ih1 _ _ _ _ _ _ _ _ _ _ _ _ _
      | exact walkmillref02_Check.mono _ _ _ _ _ _ _ _ _
      | exact walkmillref02_Same.mono _ _ _
      | exact walkmillref02_Window.mono _ _ _ _ _ _ _ _ _ _ _
      | exact LeO.none _
      | refine LeO.ite ?_ ?_
      | refine LeO.bind ?_ (fun _ => ?_)
theorem walkmilllaw02_StreamWindows.mono : ∀ a0 a1 a2 a3 a4 a5 a6 a7 a8 a9 k, LeO (walkmilllaw02_StreamWindows.f k a0 a1 a2 a3 a4 a5 a6 a7 a8 a9) (walkmilllaw02_StreamWindows.f (k + 1) a0 a1 a2 a3 a4 a5 a6 a7 a8 a9) := by
  intro a0 a1 a2 a3 a4 a5 a6 a7 a8 a9 k
  obtain ⟨ih0, ih1⟩ := walkmilllaw02_StreamWindows.mono_l k
  unfold walkmilllaw02_StreamWindows.f
  repeat' first
      | (with_reducible exact ih0 _ _ _ _ _ _ _ _ _ _ _ _ _ _)
      | (with_reducible exact ih1 _ _ _ _ _ _ _ _ _ _ _ _ _)
      | (with_reducible exact walkmillref02_Check.mono _ _ _ _ _ _ _ _ _)
      | (with_reducible exact walkmillref02_Same.mono _ _ _)
      | (with_reducible exact walkmillref02_Window.mono _ _ _ _ _ _ _ _ _ _ _)
      | (with_reducible exact LeO.refl _)
      | (with_reducible exact LeO.none _)
      | (with_reducible refine LeO.ite ?_ ?_)
      | (with_reducible refine LeO.bind ?_ (fun _ => ?_))
      | exact ih0 _ _ _ _ _ _ _ _ _ _ _ _ _ _
      | exact ih1 _ _ _ _ _ _ _ _ _ _ _ _ _
      | exact walkmillref02_Check.mono _ _ _ _ _ _ _ _ _
      | exact walkmillref02_Same.mono _ _ _
      | exact walkmillref02_Window.mono _ _ _ _ _ _ _ _ _ _ _
      | exact LeO.none _
      | refine LeO.ite ?_ ?_
      | refine LeO.bind ?_ (fun _ => ?_)
set_option maxHeartbeats 8000000 in
set_option maxRecDepth 100000 in
theorem walkmilllaw02_StreamWindows.calls (k : Nat) (a0_0 : Int) (a0_1 : Int) (a0_2 : Int) (a0_3 : Int) (a0_4 : Int) (a0_5 : Int) (a0_6 : Int) (A1 : Option Addr) (c1 : Nat) (l1 : List (S23)) (a2_0 : Int) (a2_1 : Int) (r : Bool) (w : World) (hr1 : Kd.C k23 w A1 l1.length l1) (hc1 : l1.length ≤ c1) (h : walkmilllaw02_StreamWindows.f k a0_0 a0_1 a0_2 a0_3 a0_4 a0_5 a0_6 l1 a2_0 a2_1 = some r) :
    Calls Try.prog 7 #[.agg #[.int .i64 a0_0, .int .i64 a0_1, .int .i64 a0_2, .int .i64 a0_3, .int .i64 a0_4, .int .i64 a0_5, .int .i64 a0_6], .slice A1 l1.length c1, .agg #[.int .i64 a2_0, .int .i64 a2_1]] w fun e w' => e = .returned (.bool r) ∧ Below w.heap.size w w' := by
  have hu25 := Try.underlying25
  have hu58 := Try.underlying58
  have HR1 := Aside0.mk hr1
  have HC1 := Aside0.mk hc1
  clear hr1 hc1
  have HB := Aside0.mk (Below.refl w.heap.size w)
  have H : (if (l1.length : Int) > 40 then ((walkmilllaw02_known.f).bind fun t341 => (some t341)) else ((walkmillref02_Copy.f l1).bind fun t342 => ((stream_Window.f a0_0 a0_1 a0_2 a0_3 a0_4 a0_5 a0_6 t342 a2_0 a2_1).bind fun bt345 => ((walkmillref02_Same.f k t342 l1).bind fun t347 => (if t347 = true then ((walkmillref02_Check.f k a0_0 a0_1 a0_2 a0_3 a0_4 a0_5 a0_6 l1).bind fun t348 => (if t348 = 0 then ((walkmillref02_In.f a2_0 1 a0_0).bind fun t349 => (if t349 = true then ((walkmillref02_In.f a2_1 1 24).bind fun t350 => (walkmilllaw02_StreamWindows.j0 k l1 bt345.1 bt345.2 t348 (!t350) a0_0 a0_1 a0_2 a0_3 a0_4 a0_5 a0_6 a2_0 a2_1)) else (walkmilllaw02_StreamWindows.j0 k l1 bt345.1 bt345.2 t348 true a0_0 a0_1 a0_2 a0_3 a0_4 a0_5 a0_6 a2_0 a2_1))) else (walkmilllaw02_StreamWindows.j0 k l1 bt345.1 bt345.2 t348 false a0_0 a0_1 a0_2 a0_3 a0_4 a0_5 a0_6 a2_0 a2_1))) else (some false)))))) = some r := h
  clear h
  by_cases c4 : (l1.length : Int) > 40
  · rw [if_pos c4] at H
    have c4b0 : decide (40 < (l1.length : Int)) = true := decide_eq_true c4
    have c4b1 : decide (40 < l1.length) = true := decide_eq_true (by omega)
    clear c4
    replace H := Option.bind_eq_some_iff.mp H
    obtain ⟨t341, A50, H⟩ := H
    replace H : (some t341) = some r := H
    have A5 := Aside0.mk A50
    clear A50
    obtain rfl := Option.some.inj H
    go_enter Try.func7, Try.ntmps7
    go_wp2_with (first | ((with_reducible refine gate_dst (N := 3) rfl ?_); refine box_event ?hg (N := 3) ?hd (cs := #[.int .i64 a0_0, .int .i64 a0_1, .int .i64 a0_2, .int .i64 a0_3, .int .i64 a0_4, .int .i64 a0_5, .int .i64 a0_6]) (t := 25) ?hr ?_; (case hd => rfl); (case hg => rfl); (case hr => first | (go_simp; done) | (go_simp; rfl)); intro gb339 hg w6 hbox hb; have n0_ := Aside0.mk (below_step (by repeat (first | (with_reducible first | exact HB.out | apply below_alloc | apply pw_below_drewN | apply below_drew1) | exact HB.out)) hb); have n1_ := Aside0.mk (hbox); have n2_ := Aside0.mk ((by rw [hg]; exact (below_size (by repeat (first | (with_reducible first | exact HB.out | apply below_alloc | apply pw_below_drewN | apply below_drew1) | exact HB.out))) : w.heap.size ≤ gb339)); have n3_ := Aside0.mk ((by rw [hg]; exact (below_size (by repeat (first | (with_reducible first | exact HB.out | apply below_alloc | apply pw_below_drewN | apply below_drew1) | exact HB.out))) : w.heap.size ≤ gb339)); clear HB; have HB := n0_; have BK339 := n1_; have GW339 := n2_; have GE339 := n3_; clear n0_ n1_ n2_ n3_; clear hb hbox hg) | ((with_reducible refine gate_dst (N := 5) rfl ?_); refine box_event ?hg (N := 5) ?hd (cs := #[.int .i64 a2_0, .int .i64 a2_1]) (t := 58) ?hr ?_; (case hd => rfl); (case hg => rfl); (case hr => first | (go_simp; done) | (go_simp; rfl)); intro gb340 hg w7 hbox hb; have n0_ := Aside0.mk (blk_below (g := gb339) (o := .cells #[.int .i64 a0_0, .int .i64 a0_1, .int .i64 a0_2, .int .i64 a0_3, .int .i64 a0_4, .int .i64 a0_5, .int .i64 a0_6] 25 (0, 0)) (by (with_reducible repeat (first | refine blk_drewN ?_ _ | refine blk_drew ?_ | refine blk_alloc ?_ _)); exact BK339.out) hb); have n1_ := Aside0.mk (below_step (by repeat (first | (with_reducible first | exact HB.out | apply below_alloc | apply pw_below_drewN | apply below_drew1 | refine below_set ?_ GE339.out) | exact HB.out)) hb); have n2_ := Aside0.mk (hbox); have n3_ := Aside0.mk ((by rw [hg]; exact (below_size (by repeat (first | (with_reducible first | exact HB.out | apply below_alloc | apply pw_below_drewN | apply below_drew1 | refine below_set ?_ GE339.out) | exact HB.out))) : w.heap.size ≤ gb340)); have n4_ := Aside0.mk ((by rw [hg]; exact (below_size (by repeat (first | (with_reducible first | exact HB.out | apply below_alloc | apply pw_below_drewN | apply below_drew1 | refine below_set ?_ GE339.out) | exact HB.out))) : w.heap.size ≤ gb340)); have n5_ := Aside0.mk ((by rw [hg]; exact Nat.ne_of_lt (blk_lt (g := gb339) (o := .cells #[.int .i64 a0_0, .int .i64 a0_1, .int .i64 a0_2, .int .i64 a0_3, .int .i64 a0_4, .int .i64 a0_5, .int .i64 a0_6] 25 (0, 0)) (by (with_reducible repeat (first | refine blk_drewN ?_ _ | refine blk_drew ?_ | refine blk_alloc ?_ _)); exact BK339.out)) : gb339 ≠ gb340)); have n6_ := Aside0.mk ((by rw [hg]; exact Nat.ne_of_gt (blk_lt (g := gb339) (o := .cells #[.int .i64 a0_0, .int .i64 a0_1, .int .i64 a0_2, .int .i64 a0_3, .int .i64 a0_4, .int .i64 a0_5, .int .i64 a0_6] 25 (0, 0)) (by (with_reducible repeat (first | refine blk_drewN ?_ _ | refine blk_drew ?_ | refine blk_alloc ?_ _)); exact BK339.out)) : gb340 ≠ gb339)); clear BK339; clear HB; have BK339 := n0_; have HB := n1_; have BK340 := n2_; have GW340 := n3_; have GE340 := n4_; have NB339_340 := n5_; have NB340_339 := n6_; clear n0_ n1_ n2_ n3_ n4_ n5_ n6_; clear hb hbox hg) | ((with_reducible refine gate_callee (f := 15) rfl ?_); refine goesL_ (some 15) rfl rfl Try.func15 (by kernel_rfl) rfl #[] rfl (by (try simp only [List.map_toArray, List.map_cons, List.map_nil]); first | done | rfl | (simp only [List.length_drop, List.length_take]; rfl)) ?_; (with_reducible refine (walkmilllaw02_known.calls  t341 _ A5.out).mono ?_); rintro e w8 ⟨rfl, hb⟩; refine ⟨_, rfl, ?_⟩; have n0_ := Aside0.mk (blk_below (g := gb339) (o := .cells #[.int .i64 a0_0, .int .i64 a0_1, .int .i64 a0_2, .int .i64 a0_3, .int .i64 a0_4, .int .i64 a0_5, .int .i64 a0_6] 25 (0, 0)) (by (with_reducible repeat (first | refine blk_drewN ?_ _ | refine blk_drew ?_ | refine blk_alloc ?_ _)); exact BK339.out) hb); have n1_ := Aside0.mk (blk_below (g := gb340) (o := .cells #[.int .i64 a2_0, .int .i64 a2_1] 58 (0, 0)) (by (with_reducible repeat (first | refine blk_drewN ?_ _ | refine blk_drew ?_ | refine blk_alloc ?_ _)); exact BK340.out) hb); have n2_ := Aside0.mk (below_step (by repeat (first | (with_reducible first | exact HB.out | apply below_alloc | apply pw_below_drewN | apply below_drew1 | refine below_set ?_ GE339.out | refine below_set ?_ GE340.out) | exact HB.out)) hb); clear BK339; clear BK340; clear HB; have BK339 := n0_; have BK340 := n1_; have HB := n2_; clear n0_ n1_ n2_; (try clear hb); (try clear hb2); (try clear hk); (try clear hi)))
    go_ret
    exact ⟨by first | rfl | (simp [errW_none, errW_some] <;> rfl) | (simp [*, errW_none, errW_some] <;> rfl), by repeat (first | (with_reducible first | exact HB.out | apply below_alloc | apply pw_below_drewN | apply below_drew1 | refine below_set ?_ GE339.out | refine below_set ?_ GE340.out) | exact HB.out)⟩
  · rw [if_neg c4] at H
    have c4b0 : decide (40 < (l1.length : Int)) = false := decide_eq_false c4
    have c4b1 : decide (40 < l1.length) = false := decide_eq_false (by omega)
    clear c4
    replace H := Option.bind_eq_some_iff.mp H
    obtain ⟨t342, A90, H⟩ := H
    replace H : ((stream_Window.f a0_0 a0_1 a0_2 a0_3 a0_4 a0_5 a0_6 t342 a2_0 a2_1).bind fun bt345 => ((walkmillref02_Same.f k t342 l1).bind fun t347 => (if t347 = true then ((walkmillref02_Check.f k a0_0 a0_1 a0_2 a0_3 a0_4 a0_5 a0_6 l1).bind fun t348 => (if t348 = 0 then ((walkmillref02_In.f a2_0 1 a0_0).bind fun t349 => (if t349 = true then ((walkmillref02_In.f a2_1 1 24).bind fun t350 => (walkmilllaw02_StreamWindows.j0 k l1 bt345.1 bt345.2 t348 (!t350) a0_0 a0_1 a0_2 a0_3 a0_4 a0_5 a0_6 a2_0 a2_1)) else (walkmilllaw02_StreamWindows.j0 k l1 bt345.1 bt345.2 t348 true a0_0 a0_1 a0_2 a0_3 a0_4 a0_5 a0_6 a2_0 a2_1))) else (walkmilllaw02_StreamWindows.j0 k l1 bt345.1 bt345.2 t348 false a0_0 a0_1 a0_2 a0_3 a0_4 a0_5 a0_6 a2_0 a2_1))) else (some false)))) = some r := H
    have A9 := Aside0.mk A90
    clear A90
    replace H := Option.bind_eq_some_iff.mp H
    obtain ⟨⟨t345, t346⟩, A100, H⟩ := H
    replace H : ((walkmillref02_Same.f k t342 l1).bind fun t347 => (if t347 = true then ((walkmillref02_Check.f k a0_0 a0_1 a0_2 a0_3 a0_4 a0_5 a0_6 l1).bind fun t348 => (if t348 = 0 then ((walkmillref02_In.f a2_0 1 a0_0).bind fun t349 => (if t349 = true then ((walkmillref02_In.f a2_1 1 24).bind fun t350 => (walkmilllaw02_StreamWindows.j0 k l1 t345 t346 t348 (!t350) a0_0 a0_1 a0_2 a0_3 a0_4 a0_5 a0_6 a2_0 a2_1)) else (walkmilllaw02_StreamWindows.j0 k l1 t345 t346 t348 true a0_0 a0_1 a0_2 a0_3 a0_4 a0_5 a0_6 a2_0 a2_1))) else (walkmilllaw02_StreamWindows.j0 k l1 t345 t346 t348 false a0_0 a0_1 a0_2 a0_3 a0_4 a0_5 a0_6 a2_0 a2_1))) else (some false))) = some r := H
    have A10 := Aside0.mk A100
    clear A100
    replace H := Option.bind_eq_some_iff.mp H
    obtain ⟨t347, A110, H⟩ := H
    replace H : (if t347 = true then ((walkmillref02_Check.f k a0_0 a0_1 a0_2 a0_3 a0_4 a0_5 a0_6 l1).bind fun t348 => (if t348 = 0 then ((walkmillref02_In.f a2_0 1 a0_0).bind fun t349 => (if t349 = true then ((walkmillref02_In.f a2_1 1 24).bind fun t350 => (walkmilllaw02_StreamWindows.j0 k l1 t345 t346 t348 (!t350) a0_0 a0_1 a0_2 a0_3 a0_4 a0_5 a0_6 a2_0 a2_1)) else (walkmilllaw02_StreamWindows.j0 k l1 t345 t346 t348 true a0_0 a0_1 a0_2 a0_3 a0_4 a0_5 a0_6 a2_0 a2_1))) else (walkmilllaw02_StreamWindows.j0 k l1 t345 t346 t348 false a0_0 a0_1 a0_2 a0_3 a0_4 a0_5 a0_6 a2_0 a2_1))) else (some false)) = some r := H
    have A11 := Aside0.mk A110
    clear A110
    by_cases c12 : t347 = true
    · subst c12
      have H1 : ((walkmillref02_Check.f k a0_0 a0_1 a0_2 a0_3 a0_4 a0_5 a0_6 l1).bind fun t348 => (if t348 = 0 then ((walkmillref02_In.f a2_0 1 a0_0).bind fun t349 => (if t349 = true then ((walkmillref02_In.f a2_1 1 24).bind fun t350 => (walkmilllaw02_StreamWindows.j0 k l1 t345 t346 t348 (!t350) a0_0 a0_1 a0_2 a0_3 a0_4 a0_5 a0_6 a2_0 a2_1)) else (walkmilllaw02_StreamWindows.j0 k l1 t345 t346 t348 true a0_0 a0_1 a0_2 a0_3 a0_4 a0_5 a0_6 a2_0 a2_1))) else (walkmilllaw02_StreamWindows.j0 k l1 t345 t346 t348 false a0_0 a0_1 a0_2 a0_3 a0_4 a0_5 a0_6 a2_0 a2_1))) = some r := by rw [if_pos rfl] at H; exact H
      clear H
      have H := H1
      clear H1
      replace H := Option.bind_eq_some_iff.mp H
      obtain ⟨t348, A130, H⟩ := H
      replace H : (if t348 = 0 then ((walkmillref02_In.f a2_0 1 a0_0).bind fun t349 => (if t349 = true then ((walkmillref02_In.f a2_1 1 24).bind fun t350 => (walkmilllaw02_StreamWindows.j0 k l1 t345 t346 t348 (!t350) a0_0 a0_1 a0_2 a0_3 a0_4 a0_5 a0_6 a2_0 a2_1)) else (walkmilllaw02_StreamWindows.j0 k l1 t345 t346 t348 true a0_0 a0_1 a0_2 a0_3 a0_4 a0_5 a0_6 a2_0 a2_1))) else (walkmilllaw02_StreamWindows.j0 k l1 t345 t346 t348 false a0_0 a0_1 a0_2 a0_3 a0_4 a0_5 a0_6 a2_0 a2_1)) = some r := H
      have A13 := Aside0.mk A130
      clear A130
      have HC14 := Aside0.mk H
      clear H
      go_enter Try.func7, Try.ntmps7
      go_upto_region 8 with (first | ((with_reducible refine gate_dst (N := 3) rfl ?_); refine box_event ?hg (N := 3) ?hd (cs := #[.int .i64 a0_0, .int .i64 a0_1, .int .i64 a0_2, .int .i64 a0_3, .int .i64 a0_4, .int .i64 a0_5, .int .i64 a0_6]) (t := 25) ?hr ?_; (case hd => rfl); (case hg => rfl); (case hr => first | (go_simp; done) | (go_simp; rfl)); intro gb339 hg w15 hbox hb; have n0_ := Aside0.mk (below_step (by repeat (first | (with_reducible first | exact HB.out | apply below_alloc | apply pw_below_drewN | apply below_drew1) | exact HB.out)) hb); have n1_ := Aside0.mk (hbox); have n2_ := Aside0.mk ((by rw [hg]; exact (below_size (by repeat (first | (with_reducible first | exact HB.out | apply below_alloc | apply pw_below_drewN | apply below_drew1) | exact HB.out))) : w.heap.size ≤ gb339)); have n3_ := Aside0.mk ((by rw [hg]; exact (below_size (by repeat (first | (with_reducible first | exact HB.out | apply below_alloc | apply pw_below_drewN | apply below_drew1) | exact HB.out))) : w.heap.size ≤ gb339)); clear HB; have HB := n0_; have BK339 := n1_; have GW339 := n2_; have GE339 := n3_; clear n0_ n1_ n2_ n3_; clear hb hbox hg) | ((with_reducible refine gate_dst (N := 5) rfl ?_); refine box_event ?hg (N := 5) ?hd (cs := #[.int .i64 a2_0, .int .i64 a2_1]) (t := 58) ?hr ?_; (case hd => rfl); (case hg => rfl); (case hr => first | (go_simp; done) | (go_simp; rfl)); intro gb340 hg w16 hbox hb; have n0_ := Aside0.mk (blk_below (g := gb339) (o := .cells #[.int .i64 a0_0, .int .i64 a0_1, .int .i64 a0_2, .int .i64 a0_3, .int .i64 a0_4, .int .i64 a0_5, .int .i64 a0_6] 25 (0, 0)) (by (with_reducible repeat (first | refine blk_drewN ?_ _ | refine blk_drew ?_ | refine blk_alloc ?_ _)); exact BK339.out) hb); have n1_ := Aside0.mk (below_step (by repeat (first | (with_reducible first | exact HB.out | apply below_alloc | apply pw_below_drewN | apply below_drew1 | refine below_set ?_ GE339.out) | exact HB.out)) hb); have n2_ := Aside0.mk (hbox); have n3_ := Aside0.mk ((by rw [hg]; exact (below_size (by repeat (first | (with_reducible first | exact HB.out | apply below_alloc | apply pw_below_drewN | apply below_drew1 | refine below_set ?_ GE339.out) | exact HB.out))) : w.heap.size ≤ gb340)); have n4_ := Aside0.mk ((by rw [hg]; exact (below_size (by repeat (first | (with_reducible first | exact HB.out | apply below_alloc | apply pw_below_drewN | apply below_drew1 | refine below_set ?_ GE339.out) | exact HB.out))) : w.heap.size ≤ gb340)); have n5_ := Aside0.mk ((by rw [hg]; exact Nat.ne_of_lt (blk_lt (g := gb339) (o := .cells #[.int .i64 a0_0, .int .i64 a0_1, .int .i64 a0_2, .int .i64 a0_3, .int .i64 a0_4, .int .i64 a0_5, .int .i64 a0_6] 25 (0, 0)) (by (with_reducible repeat (first | refine blk_drewN ?_ _ | refine blk_drew ?_ | refine blk_alloc ?_ _)); exact BK339.out)) : gb339 ≠ gb340)); have n6_ := Aside0.mk ((by rw [hg]; exact Nat.ne_of_gt (blk_lt (g := gb339) (o := .cells #[.int .i64 a0_0, .int .i64 a0_1, .int .i64 a0_2, .int .i64 a0_3, .int .i64 a0_4, .int .i64 a0_5, .int .i64 a0_6] 25 (0, 0)) (by (with_reducible repeat (first | refine blk_drewN ?_ _ | refine blk_drew ?_ | refine blk_alloc ?_ _)); exact BK339.out)) : gb340 ≠ gb339)); clear BK339; clear HB; have BK339 := n0_; have HB := n1_; have BK340 := n2_; have GW340 := n3_; have GE340 := n4_; have NB339_340 := n5_; have NB340_339 := n6_; clear n0_ n1_ n2_ n3_ n4_ n5_ n6_; clear hb hbox hg) | ((with_reducible refine gate_callee (f := 16) rfl ?_); refine goesL_ (some 17) rfl rfl Try.func16 (by kernel_rfl) rfl #[.slice A1 l1.length c1] rfl (by (try simp only [List.map_toArray, List.map_cons, List.map_nil]); first | done | rfl | (simp only [List.length_drop, List.length_take]; rfl)) ?_; (with_reducible refine (walkmillref02_Copy.calls _ _ l1 t342 _ ?side1 ?side2 A9.out).mono ?_); (case side1 => repeat (first | exact (Kd.C_below HR1.out HB.out) | (with_reducible refine Kd.C_alloc ?_ _) | (with_reducible refine Kd.C_drewN ?_ _) | (with_reducible refine Kd.C_drew ?_))); (case side2 => exact HC1.out); rintro e w17 ⟨v343, rfl, ho0, hb⟩; refine ⟨_, rfl, ?_⟩; have n0_ := Aside0.mk (Kd.R_lower ho0 (below_size (by repeat (first | (with_reducible first | exact HB.out | apply below_alloc | apply pw_below_drewN | apply below_drew1 | refine below_set ?_ GE339.out | refine below_set ?_ GE340.out) | exact HB.out)))); have n1_ := Aside0.mk (blk_below (g := gb339) (o := .cells #[.int .i64 a0_0, .int .i64 a0_1, .int .i64 a0_2, .int .i64 a0_3, .int .i64 a0_4, .int .i64 a0_5, .int .i64 a0_6] 25 (0, 0)) (by (with_reducible repeat (first | refine blk_drewN ?_ _ | refine blk_drew ?_ | refine blk_alloc ?_ _)); exact BK339.out) hb); have n2_ := Aside0.mk (blk_below (g := gb340) (o := .cells #[.int .i64 a2_0, .int .i64 a2_1] 58 (0, 0)) (by (with_reducible repeat (first | refine blk_drewN ?_ _ | refine blk_drew ?_ | refine blk_alloc ?_ _)); exact BK340.out) hb); have n3_ := Aside0.mk (below_step (by repeat (first | (with_reducible first | exact HB.out | apply below_alloc | apply pw_below_drewN | apply below_drew1 | refine below_set ?_ GE339.out | refine below_set ?_ GE340.out) | exact HB.out)) hb); clear BK339; clear BK340; clear HB; have HO344 := n0_; have BK339 := n1_; have BK340 := n2_; have HB := n3_; clear n0_ n1_ n2_ n3_; (try clear hb); (try clear hb2); (try clear hk); (try clear hi); (try clear ho0); have hnb18 := NB339_340.out; have hnc18 := NB340_339.out; have hcz19_0 : w17.cell? ⟨gb339, 0, none⟩ = some (.int .i64 a0_0) := (blk_cell BK339.out 0).trans rfl; have hcz19_1 : w17.cell? ⟨gb339, 1, none⟩ = some (.int .i64 a0_1) := (blk_cell BK339.out 1).trans rfl; have hcz19_2 : w17.cell? ⟨gb339, 2, none⟩ = some (.int .i64 a0_2) := (blk_cell BK339.out 2).trans rfl; have hcz19_3 : w17.cell? ⟨gb339, 3, none⟩ = some (.int .i64 a0_3) := (blk_cell BK339.out 3).trans rfl; have hcz19_4 : w17.cell? ⟨gb339, 4, none⟩ = some (.int .i64 a0_4) := (blk_cell BK339.out 4).trans rfl; have hcz19_5 : w17.cell? ⟨gb339, 5, none⟩ = some (.int .i64 a0_5) := (blk_cell BK339.out 5).trans rfl; have hcz19_6 : w17.cell? ⟨gb339, 6, none⟩ = some (.int .i64 a0_6) := (blk_cell BK339.out 6).trans rfl; have hfz19_0 := blk_frozen BK339.out 0; have hfz19_1 := blk_frozen BK339.out 1; have hfz19_2 := blk_frozen BK339.out 2; have hfz19_3 := blk_frozen BK339.out 3; have hfz19_4 := blk_frozen BK339.out 4; have hfz19_5 := blk_frozen BK339.out 5; have hfz19_6 := blk_frozen BK339.out 6; have hcz20_0 : w17.cell? ⟨gb340, 0, none⟩ = some (.int .i64 a2_0) := (blk_cell BK340.out 0).trans rfl; have hcz20_1 : w17.cell? ⟨gb340, 1, none⟩ = some (.int .i64 a2_1) := (blk_cell BK340.out 1).trans rfl; have hfz20_0 := blk_frozen BK340.out 0; have hfz20_1 := blk_frozen BK340.out 1; obtain ⟨Ao21, co21, eo21⟩ := Kd.R_slice HO344.out; subst eo21) | ((with_reducible refine gate_callee (f := 38) rfl ?_); refine goesL_ (some 25) rfl rfl Try.func38 (by kernel_rfl) rfl #[.agg #[.int .i64 a0_0, .int .i64 a0_1, .int .i64 a0_2, .int .i64 a0_3, .int .i64 a0_4, .int .i64 a0_5, .int .i64 a0_6], .slice Ao21 t342.length co21, .int .i64 a2_0, .int .i64 a2_1] rfl (by (try simp only [List.map_toArray, List.map_cons, List.map_nil]); first | done | rfl | (simp only [List.length_drop, List.length_take]; rfl)) ?_; (with_reducible refine (stream_Window.calls a0_0 a0_1 a0_2 a0_3 a0_4 a0_5 a0_6 _ _ t342 a2_0 a2_1 t345 t346 _ ?side1 ?side2 A10.out).mono ?_); (case side1 => repeat (first | exact (Kd.R_reads' HO344.out).2.2 | (with_reducible refine Kd.C_alloc ?_ _) | (with_reducible refine Kd.C_drewN ?_ _) | (with_reducible refine Kd.C_drew ?_))); (case side2 => exact (Kd.R_reads' HO344.out).2.1); rintro e w22 ⟨rfl, hb⟩; refine ⟨_, rfl, ?_⟩; have n0_ := Aside0.mk (Kd.R_below (by (with_reducible repeat (first | apply Kd.R_alloc | apply Kd.R_drewN | apply Kd.R_drew)); exact HO344.out) hb); have n1_ := Aside0.mk (blk_below (g := gb339) (o := .cells #[.int .i64 a0_0, .int .i64 a0_1, .int .i64 a0_2, .int .i64 a0_3, .int .i64 a0_4, .int .i64 a0_5, .int .i64 a0_6] 25 (0, 0)) (by (with_reducible repeat (first | refine blk_drewN ?_ _ | refine blk_drew ?_ | refine blk_alloc ?_ _)); exact BK339.out) hb); have n2_ := Aside0.mk (blk_below (g := gb340) (o := .cells #[.int .i64 a2_0, .int .i64 a2_1] 58 (0, 0)) (by (with_reducible repeat (first | refine blk_drewN ?_ _ | refine blk_drew ?_ | refine blk_alloc ?_ _)); exact BK340.out) hb); have n3_ := Aside0.mk (below_step (by repeat (first | (with_reducible first | exact HB.out | apply below_alloc | apply pw_below_drewN | apply below_drew1 | refine below_set ?_ GE339.out | refine below_set ?_ GE340.out) | exact HB.out)) hb); clear HO344; clear BK339; clear BK340; clear HB; have HO344 := n0_; have BK339 := n1_; have BK340 := n2_; have HB := n3_; clear n0_ n1_ n2_ n3_; (try clear hb); (try clear hb2); (try clear hk); (try clear hi)) | ((with_reducible refine gate_callee (f := 22) rfl ?_); refine goesL_ (some 30) rfl rfl Try.func22 (by kernel_rfl) rfl #[.slice Ao21 t342.length co21, .slice A1 l1.length c1] rfl (by (try simp only [List.map_toArray, List.map_cons, List.map_nil]); first | done | rfl | (simp only [List.length_drop, List.length_take]; rfl)) ?_; (with_reducible refine (walkmillref02_Same.calls k _ _ t342 _ _ l1 true _ ?side1 ?side2 ?side3 ?side4 A11.out).mono ?_); (case side1 => repeat (first | exact (Kd.R_reads' HO344.out).2.2 | (with_reducible refine Kd.C_alloc ?_ _) | (with_reducible refine Kd.C_drewN ?_ _) | (with_reducible refine Kd.C_drew ?_))); (case side2 => exact (Kd.R_reads' HO344.out).2.1); (case side3 => repeat (first | exact (Kd.C_below HR1.out HB.out) | (with_reducible refine Kd.C_alloc ?_ _) | (with_reducible refine Kd.C_drewN ?_ _) | (with_reducible refine Kd.C_drew ?_))); (case side4 => exact HC1.out); rintro e w' ⟨rfl, ⟨nd, rfl⟩⟩; refine ⟨_, rfl, ?_⟩; have hcz23_0 : w22.cell? ⟨gb339, 0, none⟩ = some (.int .i64 a0_0) := (blk_cell BK339.out 0).trans rfl; have hcz23_1 : w22.cell? ⟨gb339, 1, none⟩ = some (.int .i64 a0_1) := (blk_cell BK339.out 1).trans rfl; have hcz23_2 : w22.cell? ⟨gb339, 2, none⟩ = some (.int .i64 a0_2) := (blk_cell BK339.out 2).trans rfl; have hcz23_3 : w22.cell? ⟨gb339, 3, none⟩ = some (.int .i64 a0_3) := (blk_cell BK339.out 3).trans rfl; have hcz23_4 : w22.cell? ⟨gb339, 4, none⟩ = some (.int .i64 a0_4) := (blk_cell BK339.out 4).trans rfl; have hcz23_5 : w22.cell? ⟨gb339, 5, none⟩ = some (.int .i64 a0_5) := (blk_cell BK339.out 5).trans rfl; have hcz23_6 : w22.cell? ⟨gb339, 6, none⟩ = some (.int .i64 a0_6) := (blk_cell BK339.out 6).trans rfl; have hfz23_0 := blk_frozen BK339.out 0; have hfz23_1 := blk_frozen BK339.out 1; have hfz23_2 := blk_frozen BK339.out 2; have hfz23_3 := blk_frozen BK339.out 3; have hfz23_4 := blk_frozen BK339.out 4; have hfz23_5 := blk_frozen BK339.out 5; have hfz23_6 := blk_frozen BK339.out 6) | ((with_reducible refine gate_callee (f := 21) rfl ?_); refine goesL_ (some 34) rfl rfl Try.func21 (by kernel_rfl) rfl #[.agg #[.int .i64 a0_0, .int .i64 a0_1, .int .i64 a0_2, .int .i64 a0_3, .int .i64 a0_4, .int .i64 a0_5, .int .i64 a0_6], .slice A1 l1.length c1] rfl (by (try simp only [List.map_toArray, List.map_cons, List.map_nil]); first | done | rfl | (simp only [List.length_drop, List.length_take]; rfl)) ?_; (with_reducible refine (walkmillref02_Check.calls k a0_0 a0_1 a0_2 a0_3 a0_4 a0_5 a0_6 _ _ l1 t348 _ ?side1 ?side2 A13.out).mono ?_); (case side1 => repeat (first | exact (Kd.C_below HR1.out (by repeat (first | (with_reducible first | exact HB.out | apply below_alloc | apply pw_below_drewN | apply below_drew1 | refine below_set ?_ GE339.out | refine below_set ?_ GE340.out) | exact HB.out))) | (with_reducible refine Kd.C_alloc ?_ _) | (with_reducible refine Kd.C_drewN ?_ _) | (with_reducible refine Kd.C_drew ?_))); (case side2 => exact HC1.out); rintro e w24 ⟨rfl, hb⟩; refine ⟨_, rfl, ?_⟩; have n0_ := Aside0.mk (Kd.R_below (by (with_reducible repeat (first | apply Kd.R_alloc | apply Kd.R_drewN | apply Kd.R_drew)); exact HO344.out) hb); have n1_ := Aside0.mk (blk_below (g := gb339) (o := .cells #[.int .i64 a0_0, .int .i64 a0_1, .int .i64 a0_2, .int .i64 a0_3, .int .i64 a0_4, .int .i64 a0_5, .int .i64 a0_6] 25 (0, 0)) (by (with_reducible repeat (first | refine blk_drewN ?_ _ | refine blk_drew ?_ | refine blk_alloc ?_ _)); exact BK339.out) hb); have n2_ := Aside0.mk (blk_below (g := gb340) (o := .cells #[.int .i64 a2_0, .int .i64 a2_1] 58 (0, 0)) (by (with_reducible repeat (first | refine blk_drewN ?_ _ | refine blk_drew ?_ | refine blk_alloc ?_ _)); exact BK340.out) hb); have n3_ := Aside0.mk (below_step (by repeat (first | (with_reducible first | exact HB.out | apply below_alloc | apply pw_below_drewN | apply below_drew1 | refine below_set ?_ GE339.out | refine below_set ?_ GE340.out) | exact HB.out)) hb); clear HO344; clear BK339; clear BK340; clear HB; have HO344 := n0_; have BK339 := n1_; have BK340 := n2_; have HB := n3_; clear n0_ n1_ n2_ n3_; (try clear hb); (try clear hb2); (try clear hk); (try clear hi)))
      (try simp only [Act.put, List.setIfInBounds_toArray, List.set_cons_zero, List.set_cons_succ])
      go_cut [50] (fun v50 wc => ∃ (kq : Nat) (x50_13 : Bool), v50 = .bool x50_13 ∧ Aside0 (walkmilllaw02_StreamWindows.j0 kq l1 t345 t346 t348 x50_13 a0_0 a0_1 a0_2 a0_3 a0_4 a0_5 a0_6 a2_0 a2_1 = some r) ∧ Aside0 (kq ≤ k) ∧ Aside0 (wc.heap[gb339]? = some (.cells #[.int .i64 a0_0, .int .i64 a0_1, .int .i64 a0_2, .int .i64 a0_3, .int .i64 a0_4, .int .i64 a0_5, .int .i64 a0_6] 25 (0, 0))) ∧ Aside0 (wc.heap[gb340]? = some (.cells #[.int .i64 a2_0, .int .i64 a2_1] 58 (0, 0))) ∧ Aside0 (Below w.heap.size w wc))
      case first =>
        have H := HC14.out
        clear HC14
        by_cases c25 : t348 = 0
        · rw [if_pos c25] at H
          have c25b0 : (t348 == 0) = true := beq_iff_eq.mpr c25
          have c25b1 : (t348 != 0) = false := bne_eq_false_iff_eq.mpr c25
          clear c25
          (first | rw [c25b0] | (simp only [i64_w, i32_w]; rw [c25b0]) | skip)
          replace H := Option.bind_eq_some_iff.mp H
          obtain ⟨t349, A260, H⟩ := H
          replace H : (if t349 = true then ((walkmillref02_In.f a2_1 1 24).bind fun t350 => (walkmilllaw02_StreamWindows.j0 k l1 t345 t346 t348 (!t350) a0_0 a0_1 a0_2 a0_3 a0_4 a0_5 a0_6 a2_0 a2_1)) else (walkmilllaw02_StreamWindows.j0 k l1 t345 t346 t348 true a0_0 a0_1 a0_2 a0_3 a0_4 a0_5 a0_6 a2_0 a2_1)) = some r := H
          have A26 := Aside0.mk A260
          clear A260
          by_cases c27 : t349 = true
          · subst c27
            have H1 : ((walkmillref02_In.f a2_1 1 24).bind fun t350 => (walkmilllaw02_StreamWindows.j0 k l1 t345 t346 t348 (!t350) a0_0 a0_1 a0_2 a0_3 a0_4 a0_5 a0_6 a2_0 a2_1)) = some r := by rw [if_pos rfl] at H; exact H
            clear H
            have H := H1
            clear H1
            replace H := Option.bind_eq_some_iff.mp H
            obtain ⟨t350, A280, H⟩ := H
            replace H : (walkmilllaw02_StreamWindows.j0 k l1 t345 t346 t348 (!t350) a0_0 a0_1 a0_2 a0_3 a0_4 a0_5 a0_6 a2_0 a2_1) = some r := H
            have A28 := Aside0.mk A280
            clear A280
            have H' := Aside0.mk H
            clear H
            have hnb29 := NB340_339.out
            have hnc29 := NB339_340.out
            have hcz30_0 : w24.cell? ⟨gb340, 0, none⟩ = some (.int .i64 a2_0) := (blk_cell BK340.out 0).trans rfl
            have hcz30_1 : w24.cell? ⟨gb340, 1, none⟩ = some (.int .i64 a2_1) := (blk_cell BK340.out 1).trans rfl
            have hfz30_0 := blk_frozen BK340.out 0
            have hfz30_1 := blk_frozen BK340.out 1
            have hcz31_0 : w24.cell? ⟨gb339, 0, none⟩ = some (.int .i64 a0_0) := (blk_cell BK339.out 0).trans rfl
            have hcz31_1 : w24.cell? ⟨gb339, 1, none⟩ = some (.int .i64 a0_1) := (blk_cell BK339.out 1).trans rfl
            have hcz31_2 : w24.cell? ⟨gb339, 2, none⟩ = some (.int .i64 a0_2) := (blk_cell BK339.out 2).trans rfl
            have hcz31_3 : w24.cell? ⟨gb339, 3, none⟩ = some (.int .i64 a0_3) := (blk_cell BK339.out 3).trans rfl
            have hcz31_4 : w24.cell? ⟨gb339, 4, none⟩ = some (.int .i64 a0_4) := (blk_cell BK339.out 4).trans rfl
            have hcz31_5 : w24.cell? ⟨gb339, 5, none⟩ = some (.int .i64 a0_5) := (blk_cell BK339.out 5).trans rfl
            have hcz31_6 : w24.cell? ⟨gb339, 6, none⟩ = some (.int .i64 a0_6) := (blk_cell BK339.out 6).trans rfl
            have hfz31_0 := blk_frozen BK339.out 0
            have hfz31_1 := blk_frozen BK339.out 1
            have hfz31_2 := blk_frozen BK339.out 2
            have hfz31_3 := blk_frozen BK339.out 3
            have hfz31_4 := blk_frozen BK339.out 4
            have hfz31_5 := blk_frozen BK339.out 5
            have hfz31_6 := blk_frozen BK339.out 6
            go_wp2_with (first | (go_at_call 34; (with_reducible refine (walkmillref02_In.calls a2_0 1 a0_0 true _ A26.out).mono ?_); rintro e w' ⟨rfl, ⟨nd, rfl⟩⟩) | (go_at_call 34; (with_reducible refine (walkmillref02_In.calls a2_1 1 24 t350 _ A28.out).mono ?_); rintro e w' ⟨rfl, ⟨nd, rfl⟩⟩))
            go_meet
            case rel => exact ⟨_, (!t350), (by first | rfl | (simp; done) | (simp [*]; done)), H', ⟨by first | omega | exact Nat.le_refl _⟩, ⟨by (with_reducible repeat (first | refine blk_drewN ?_ _ | refine blk_drew ?_ | refine blk_alloc ?_ _)); exact BK339.out⟩, ⟨by (with_reducible repeat (first | refine blk_drewN ?_ _ | refine blk_drew ?_ | refine blk_alloc ?_ _)); exact BK340.out⟩, ⟨by repeat (first | (with_reducible first | exact HB.out | apply below_alloc | apply pw_below_drewN | apply below_drew1 | refine below_set ?_ GE339.out | refine below_set ?_ GE340.out) | exact HB.out)⟩⟩
          · replace c27 := Bool.eq_false_iff.mpr c27
            subst c27
            have H1 : (walkmilllaw02_StreamWindows.j0 k l1 t345 t346 t348 true a0_0 a0_1 a0_2 a0_3 a0_4 a0_5 a0_6 a2_0 a2_1) = some r := by rw [if_neg (show ¬ (false = true) by decide)] at H; exact H
            clear H
            have H := H1
            clear H1
            have H' := Aside0.mk H
            clear H
            have hnb32 := NB340_339.out
            have hnc32 := NB339_340.out
            have hcz33_0 : w24.cell? ⟨gb340, 0, none⟩ = some (.int .i64 a2_0) := (blk_cell BK340.out 0).trans rfl
            have hcz33_1 : w24.cell? ⟨gb340, 1, none⟩ = some (.int .i64 a2_1) := (blk_cell BK340.out 1).trans rfl
            have hfz33_0 := blk_frozen BK340.out 0
            have hfz33_1 := blk_frozen BK340.out 1
            have hcz34_0 : w24.cell? ⟨gb339, 0, none⟩ = some (.int .i64 a0_0) := (blk_cell BK339.out 0).trans rfl
            have hcz34_1 : w24.cell? ⟨gb339, 1, none⟩ = some (.int .i64 a0_1) := (blk_cell BK339.out 1).trans rfl
            have hcz34_2 : w24.cell? ⟨gb339, 2, none⟩ = some (.int .i64 a0_2) := (blk_cell BK339.out 2).trans rfl
            have hcz34_3 : w24.cell? ⟨gb339, 3, none⟩ = some (.int .i64 a0_3) := (blk_cell BK339.out 3).trans rfl
            have hcz34_4 : w24.cell? ⟨gb339, 4, none⟩ = some (.int .i64 a0_4) := (blk_cell BK339.out 4).trans rfl
            have hcz34_5 : w24.cell? ⟨gb339, 5, none⟩ = some (.int .i64 a0_5) := (blk_cell BK339.out 5).trans rfl
            have hcz34_6 : w24.cell? ⟨gb339, 6, none⟩ = some (.int .i64 a0_6) := (blk_cell BK339.out 6).trans rfl
            have hfz34_0 := blk_frozen BK339.out 0
            have hfz34_1 := blk_frozen BK339.out 1
            have hfz34_2 := blk_frozen BK339.out 2
            have hfz34_3 := blk_frozen BK339.out 3
            have hfz34_4 := blk_frozen BK339.out 4
            have hfz34_5 := blk_frozen BK339.out 5
            have hfz34_6 := blk_frozen BK339.out 6
            go_wp2_with (first | (go_at_call 34; (with_reducible refine (walkmillref02_In.calls a2_0 1 a0_0 false _ A26.out).mono ?_); rintro e w' ⟨rfl, ⟨nd, rfl⟩⟩))
            go_meet
            case rel => exact ⟨_, (true), (by first | rfl | (simp; done) | (simp [*]; done)), H', ⟨by first | omega | exact Nat.le_refl _⟩, ⟨by (with_reducible repeat (first | refine blk_drewN ?_ _ | refine blk_drew ?_ | refine blk_alloc ?_ _)); exact BK339.out⟩, ⟨by (with_reducible repeat (first | refine blk_drewN ?_ _ | refine blk_drew ?_ | refine blk_alloc ?_ _)); exact BK340.out⟩, ⟨by repeat (first | (with_reducible first | exact HB.out | apply below_alloc | apply pw_below_drewN | apply below_drew1 | refine below_set ?_ GE339.out | refine below_set ?_ GE340.out) | exact HB.out)⟩⟩
        · rw [if_neg c25] at H
          have c25b0 : (t348 == 0) = false := beq_eq_false_iff_ne.mpr c25
          have c25b1 : (t348 != 0) = true := bne_iff_ne.mpr c25
          (first | rw [c25b0] | (simp only [i64_w, i32_w]; rw [c25b0]) | skip)
          have H' := Aside0.mk H
          clear H
          go_wp2
          go_meet
          case rel => exact ⟨_, (false), (by first | rfl | (simp; done) | (simp [*]; done)), H', ⟨by first | omega | exact Nat.le_refl _⟩, ⟨by (with_reducible repeat (first | refine blk_drewN ?_ _ | refine blk_drew ?_ | refine blk_alloc ?_ _)); exact BK339.out⟩, ⟨by (with_reducible repeat (first | refine blk_drewN ?_ _ | refine blk_drew ?_ | refine blk_alloc ?_ _)); exact BK340.out⟩, ⟨by repeat (first | (with_reducible first | exact HB.out | apply below_alloc | apply pw_below_drewN | apply below_drew1 | refine below_set ?_ GE339.out | refine below_set ?_ GE340.out) | exact HB.out)⟩⟩
      case rest =>
        clear HC14
        try clear c1
        try clear c2
        try clear p2
        try clear c3
        try clear c4
        try clear c4b0
        try clear c4b1
        try clear c7
        try clear c12
        try clear c15
        try clear c16
        try clear c18
        try clear c21
        try clear c22
        try clear c25
        try clear c25b0
        try clear c25b1
        try clear c27
        try clear c29
        try clear c32
        try clear hcz19_0
        try clear hcz19_1
        try clear hcz19_2
        try clear hcz19_3
        try clear hcz19_4
        try clear hcz19_5
        try clear hcz19_6
        try clear hcz20_0
        try clear hcz20_1
        try clear hcz23_0
        try clear hcz23_1
        try clear hcz23_2
        try clear hcz23_3
        try clear hcz23_4
        try clear hcz23_5
        try clear hcz23_6
        try clear hcz30_0
        try clear hcz30_1
        try clear hcz31_0
        try clear hcz31_1
        try clear hcz31_2
        try clear hcz31_3
        try clear hcz31_4
        try clear hcz31_5
        try clear hcz31_6
        try clear hcz33_0
        try clear hcz33_1
        try clear hcz34_0
        try clear hcz34_1
        try clear hcz34_2
        try clear hcz34_3
        try clear hcz34_4
        try clear hcz34_5
        try clear hcz34_6
        try clear hfz19_0
        try clear hfz19_1
        try clear hfz19_2
        try clear hfz19_3
        try clear hfz19_4
        try clear hfz19_5
        try clear hfz19_6
        try clear hfz20_0
        try clear hfz20_1
        try clear hfz23_0
        try clear hfz23_1
        try clear hfz23_2
        try clear hfz23_3
        try clear hfz23_4
        try clear hfz23_5
        try clear hfz23_6
        try clear hfz30_0
        try clear hfz30_1
        try clear hfz31_0
        try clear hfz31_1
        try clear hfz31_2
        try clear hfz31_3
        try clear hfz31_4
        try clear hfz31_5
        try clear hfz31_6
        try clear hfz33_0
        try clear hfz33_1
        try clear hfz34_0
        try clear hfz34_1
        try clear hfz34_2
        try clear hfz34_3
        try clear hfz34_4
        try clear hfz34_5
        try clear hfz34_6
        obtain ⟨kq, x50_13, rfl, HA, HJ13, BK339, BK340, HB⟩ := hcut
        cases kq with
        | zero => exact absurd HA.out (by simp [walkmilllaw02_StreamWindows.j0])
        | succ kj13 =>
          have H := HA.out
          clear HA
          simp only [walkmilllaw02_StreamWindows.j0] at H
          have HC35 := Aside0.mk H
          clear H
          go_upto_if 50 with (fail)
          go_cut [10] (fun v10 wc => ∃ (kq : Nat) (x10_34 : Int), v10 = .int .i64 x10_34 ∧ Aside0 (walkmilllaw02_StreamWindows.j1 kq l1 t345 t346 x10_34 a0_0 a0_1 a0_2 a0_3 a0_4 a0_5 a0_6 a2_0 a2_1 = some r) ∧ Aside0 (kq ≤ kj13) ∧ Aside0 (wc.heap[gb339]? = some (.cells #[.int .i64 a0_0, .int .i64 a0_1, .int .i64 a0_2, .int .i64 a0_3, .int .i64 a0_4, .int .i64 a0_5, .int .i64 a0_6] 25 (0, 0))) ∧ Aside0 (wc.heap[gb340]? = some (.cells #[.int .i64 a2_0, .int .i64 a2_1] 58 (0, 0))) ∧ Aside0 (Below w.heap.size w wc))
          case first =>
            have H := HC35.out
            clear HC35
            by_cases c36 : x50_13 = true
            · subst c36
              have H1 : (walkmilllaw02_StreamWindows.j1 kj13 l1 t345 t346 3 a0_0 a0_1 a0_2 a0_3 a0_4 a0_5 a0_6 a2_0 a2_1) = some r := by rw [if_pos rfl] at H; exact H
              clear H
              have H := H1
              clear H1
              have H' := Aside0.mk H
              clear H
              go_wp2
              go_meet
              case rel => exact ⟨_, (3), (by first | rfl | (simp; done) | (simp [*]; done)), H', ⟨by have := HJ13.out; first | omega | exact Nat.le_refl _⟩, ⟨by (with_reducible repeat (first | refine blk_drewN ?_ _ | refine blk_drew ?_ | refine blk_alloc ?_ _)); exact BK339.out⟩, ⟨by (with_reducible repeat (first | refine blk_drewN ?_ _ | refine blk_drew ?_ | refine blk_alloc ?_ _)); exact BK340.out⟩, ⟨by repeat (first | (with_reducible first | exact HB.out | apply below_alloc | apply pw_below_drewN | apply below_drew1 | refine below_set ?_ GE339.out | refine below_set ?_ GE340.out) | exact HB.out)⟩⟩
            · replace c36 := Bool.eq_false_iff.mpr c36
              subst c36
              have H1 : (walkmilllaw02_StreamWindows.j1 kj13 l1 t345 t346 t348 a0_0 a0_1 a0_2 a0_3 a0_4 a0_5 a0_6 a2_0 a2_1) = some r := by rw [if_neg (show ¬ (false = true) by decide)] at H; exact H
              clear H
              have H := H1
              clear H1
              have H' := Aside0.mk H
              clear H
              go_wp2
              go_meet
              case rel => exact ⟨_, (t348), (by first | rfl | (simp; done) | (simp [*]; done)), H', ⟨by have := HJ13.out; first | omega | exact Nat.le_refl _⟩, ⟨by (with_reducible repeat (first | refine blk_drewN ?_ _ | refine blk_drew ?_ | refine blk_alloc ?_ _)); exact BK339.out⟩, ⟨by (with_reducible repeat (first | refine blk_drewN ?_ _ | refine blk_drew ?_ | refine blk_alloc ?_ _)); exact BK340.out⟩, ⟨by repeat (first | (with_reducible first | exact HB.out | apply below_alloc | apply pw_below_drewN | apply below_drew1 | refine below_set ?_ GE339.out | refine below_set ?_ GE340.out) | exact HB.out)⟩⟩
          case rest =>
            clear HC35
            try clear c1
            try clear c2
            try clear p2
            try clear c3
            try clear c4
            try clear c4b0
            try clear c4b1
            try clear c7
            try clear c12
            try clear c15
            try clear c16
            try clear c18
            try clear c21
            try clear c22
            try clear c25
            try clear c25b0
            try clear c25b1
            try clear c27
            try clear c29
            try clear c32
            try clear c36
            try clear hcz19_0
            try clear hcz19_1
            try clear hcz19_2
            try clear hcz19_3
            try clear hcz19_4
            try clear hcz19_5
            try clear hcz19_6
            try clear hcz20_0
            try clear hcz20_1
            try clear hcz23_0
            try clear hcz23_1
            try clear hcz23_2
            try clear hcz23_3
            try clear hcz23_4
            try clear hcz23_5
            try clear hcz23_6
            try clear hcz30_0
            try clear hcz30_1
            try clear hcz31_0
            try clear hcz31_1
            try clear hcz31_2
            try clear hcz31_3
            try clear hcz31_4
            try clear hcz31_5
            try clear hcz31_6
            try clear hcz33_0
            try clear hcz33_1
            try clear hcz34_0
            try clear hcz34_1
            try clear hcz34_2
            try clear hcz34_3
            try clear hcz34_4
            try clear hcz34_5
            try clear hcz34_6
            try clear hfz19_0
            try clear hfz19_1
            try clear hfz19_2
            try clear hfz19_3
            try clear hfz19_4
            try clear hfz19_5
            try clear hfz19_6
            try clear hfz20_0
            try clear hfz20_1
            try clear hfz23_0
            try clear hfz23_1
            try clear hfz23_2
            try clear hfz23_3
            try clear hfz23_4
            try clear hfz23_5
            try clear hfz23_6
            try clear hfz30_0
            try clear hfz30_1
            try clear hfz31_0
            try clear hfz31_1
            try clear hfz31_2
            try clear hfz31_3
            try clear hfz31_4
            try clear hfz31_5
            try clear hfz31_6
            try clear hfz33_0
            try clear hfz33_1
            try clear hfz34_0
            try clear hfz34_1
            try clear hfz34_2
            try clear hfz34_3
            try clear hfz34_4
            try clear hfz34_5
            try clear hfz34_6
            try clear p2
            obtain ⟨kq, x10_34, rfl, HA, HJ34, BK339, BK340, HB⟩ := hcut
            cases kq with
            | zero => exact absurd HA.out (by simp [walkmilllaw02_StreamWindows.j1])
            | succ kj34 =>
              have H := HA.out
              clear HA
              simp only [walkmilllaw02_StreamWindows.j1] at H
              by_cases c37 : x10_34 = 0
              · rw [if_pos c37] at H
                have c37b0 : (x10_34 == 0) = true := beq_iff_eq.mpr c37
                have c37b1 : (x10_34 != 0) = false := bne_eq_false_iff_eq.mpr c37
                clear c37
                replace H := Option.bind_eq_some_iff.mp H
                obtain ⟨t351, A380, H⟩ := H
                replace H : (if t351 ≥ 0 then (if t346 = 0 then (if t345 = t351 then ((walkmilllaw02_known.f).bind fun t352 => (some t352)) else (some false)) else (some false)) else (if t346 = 7 then (if t345 = 0 then ((walkmilllaw02_known.f).bind fun t353 => (some t353)) else (some false)) else (some false))) = some r := H
                have A38 := Aside0.mk A380
                clear A380
                by_cases c39 : t351 ≥ 0
                · rw [if_pos c39] at H
                  have c39b0 : decide (0 ≤ t351) = true := decide_eq_true c39
                  clear c39
                  by_cases c40 : t346 = 0
                  · rw [if_pos c40] at H
                    have c40b0 : (t346 == 0) = true := beq_iff_eq.mpr c40
                    have c40b1 : (t346 != 0) = false := bne_eq_false_iff_eq.mpr c40
                    clear c40
                    by_cases c41 : t345 = t351
                    · rw [if_pos c41] at H
                      have c41b0 : (t345 == t351) = true := beq_iff_eq.mpr c41
                      have c41b1 : (t345 != t351) = false := bne_eq_false_iff_eq.mpr c41
                      clear c41
                      replace H := Option.bind_eq_some_iff.mp H
                      obtain ⟨t352, A420, H⟩ := H
                      replace H : (some t352) = some r := H
                      have A42 := Aside0.mk A420
                      clear A420
                      obtain rfl := Option.some.inj H
                      have hnb43 := NB339_340.out
                      have hnc43 := NB340_339.out
                      have hcz44_0 : wc.cell? ⟨gb339, 0, none⟩ = some (.int .i64 a0_0) := (blk_cell BK339.out 0).trans rfl
                      have hcz44_1 : wc.cell? ⟨gb339, 1, none⟩ = some (.int .i64 a0_1) := (blk_cell BK339.out 1).trans rfl
                      have hcz44_2 : wc.cell? ⟨gb339, 2, none⟩ = some (.int .i64 a0_2) := (blk_cell BK339.out 2).trans rfl
                      have hcz44_3 : wc.cell? ⟨gb339, 3, none⟩ = some (.int .i64 a0_3) := (blk_cell BK339.out 3).trans rfl
                      have hcz44_4 : wc.cell? ⟨gb339, 4, none⟩ = some (.int .i64 a0_4) := (blk_cell BK339.out 4).trans rfl
                      have hcz44_5 : wc.cell? ⟨gb339, 5, none⟩ = some (.int .i64 a0_5) := (blk_cell BK339.out 5).trans rfl
                      have hcz44_6 : wc.cell? ⟨gb339, 6, none⟩ = some (.int .i64 a0_6) := (blk_cell BK339.out 6).trans rfl
                      have hfz44_0 := blk_frozen BK339.out 0
                      have hfz44_1 := blk_frozen BK339.out 1
                      have hfz44_2 := blk_frozen BK339.out 2
                      have hfz44_3 := blk_frozen BK339.out 3
                      have hfz44_4 := blk_frozen BK339.out 4
                      have hfz44_5 := blk_frozen BK339.out 5
                      have hfz44_6 := blk_frozen BK339.out 6
                      have hcz45_0 : wc.cell? ⟨gb340, 0, none⟩ = some (.int .i64 a2_0) := (blk_cell BK340.out 0).trans rfl
                      have hcz45_1 : wc.cell? ⟨gb340, 1, none⟩ = some (.int .i64 a2_1) := (blk_cell BK340.out 1).trans rfl
                      have hfz45_0 := blk_frozen BK340.out 0
                      have hfz45_1 := blk_frozen BK340.out 1
                      go_wp2_with (first | ((with_reducible refine gate_callee (f := 39) rfl ?_); refine goesL_ (some 59) rfl rfl Try.func39 (by kernel_rfl) rfl #[.agg #[.int .i64 a0_0, .int .i64 a0_1, .int .i64 a0_2, .int .i64 a0_3, .int .i64 a0_4, .int .i64 a0_5, .int .i64 a0_6], .slice A1 l1.length c1, .int .i64 a2_0, .int .i64 a2_1] rfl (by (try simp only [List.map_toArray, List.map_cons, List.map_nil]); first | done | rfl | (simp only [List.length_drop, List.length_take]; rfl)) ?_; (with_reducible refine (walkmillref02_Window.calls kj34 a0_0 a0_1 a0_2 a0_3 a0_4 a0_5 a0_6 _ _ l1 a2_0 a2_1 t351 _ ?side1 ?side2 A38.out).mono ?_); (case side1 => repeat (first | exact (Kd.C_below HR1.out HB.out) | (with_reducible refine Kd.C_alloc ?_ _) | (with_reducible refine Kd.C_drewN ?_ _) | (with_reducible refine Kd.C_drew ?_))); (case side2 => exact HC1.out); rintro e w46 ⟨rfl, hb⟩; refine ⟨_, rfl, ?_⟩; have n0_ := Aside0.mk (blk_below (g := gb339) (o := .cells #[.int .i64 a0_0, .int .i64 a0_1, .int .i64 a0_2, .int .i64 a0_3, .int .i64 a0_4, .int .i64 a0_5, .int .i64 a0_6] 25 (0, 0)) (by (with_reducible repeat (first | refine blk_drewN ?_ _ | refine blk_drew ?_ | refine blk_alloc ?_ _)); exact BK339.out) hb); have n1_ := Aside0.mk (blk_below (g := gb340) (o := .cells #[.int .i64 a2_0, .int .i64 a2_1] 58 (0, 0)) (by (with_reducible repeat (first | refine blk_drewN ?_ _ | refine blk_drew ?_ | refine blk_alloc ?_ _)); exact BK340.out) hb); have n2_ := Aside0.mk (below_step (by repeat (first | (with_reducible first | exact HB.out | apply below_alloc | apply pw_below_drewN | apply below_drew1 | refine below_set ?_ GE339.out | refine below_set ?_ GE340.out) | exact HB.out)) hb); clear BK339; clear BK340; clear HB; have BK339 := n0_; have BK340 := n1_; have HB := n2_; clear n0_ n1_ n2_; (try clear hb); (try clear hb2); (try clear hk); (try clear hi)) | (go_at_call 15; (with_reducible refine (walkmilllaw02_known.calls  t352 _ A42.out).mono ?_); rintro e w47 ⟨rfl, hb⟩; have n0_ := Aside0.mk (blk_below (g := gb339) (o := .cells #[.int .i64 a0_0, .int .i64 a0_1, .int .i64 a0_2, .int .i64 a0_3, .int .i64 a0_4, .int .i64 a0_5, .int .i64 a0_6] 25 (0, 0)) (by (with_reducible repeat (first | refine blk_drewN ?_ _ | refine blk_drew ?_ | refine blk_alloc ?_ _)); exact BK339.out) hb); have n1_ := Aside0.mk (blk_below (g := gb340) (o := .cells #[.int .i64 a2_0, .int .i64 a2_1] 58 (0, 0)) (by (with_reducible repeat (first | refine blk_drewN ?_ _ | refine blk_drew ?_ | refine blk_alloc ?_ _)); exact BK340.out) hb); have n2_ := Aside0.mk (below_step (by repeat (first | (with_reducible first | exact HB.out | apply below_alloc | apply pw_below_drewN | apply below_drew1 | refine below_set ?_ GE339.out | refine below_set ?_ GE340.out) | exact HB.out)) hb); clear BK339; clear BK340; clear HB; have BK339 := n0_; have BK340 := n1_; have HB := n2_; clear n0_ n1_ n2_; (try clear hb); (try clear hb2); (try clear hk); (try clear hi)))
                      go_ret
                      exact ⟨by first | rfl | (simp [errW_none, errW_some] <;> rfl) | (simp [*, errW_none, errW_some] <;> rfl), by repeat (first | (with_reducible first | exact HB.out | apply below_alloc | apply pw_below_drewN | apply below_drew1 | refine below_set ?_ GE339.out | refine below_set ?_ GE340.out) | exact HB.out)⟩
                    · rw [if_neg c41] at H
                      have c41b0 : (t345 == t351) = false := beq_eq_false_iff_ne.mpr c41
                      have c41b1 : (t345 != t351) = true := bne_iff_ne.mpr c41
                      obtain rfl := Option.some.inj H
                      have hnb48 := NB339_340.out
                      have hnc48 := NB340_339.out
                      have hcz49_0 : wc.cell? ⟨gb339, 0, none⟩ = some (.int .i64 a0_0) := (blk_cell BK339.out 0).trans rfl
                      have hcz49_1 : wc.cell? ⟨gb339, 1, none⟩ = some (.int .i64 a0_1) := (blk_cell BK339.out 1).trans rfl
                      have hcz49_2 : wc.cell? ⟨gb339, 2, none⟩ = some (.int .i64 a0_2) := (blk_cell BK339.out 2).trans rfl
                      have hcz49_3 : wc.cell? ⟨gb339, 3, none⟩ = some (.int .i64 a0_3) := (blk_cell BK339.out 3).trans rfl
                      have hcz49_4 : wc.cell? ⟨gb339, 4, none⟩ = some (.int .i64 a0_4) := (blk_cell BK339.out 4).trans rfl
                      have hcz49_5 : wc.cell? ⟨gb339, 5, none⟩ = some (.int .i64 a0_5) := (blk_cell BK339.out 5).trans rfl
                      have hcz49_6 : wc.cell? ⟨gb339, 6, none⟩ = some (.int .i64 a0_6) := (blk_cell BK339.out 6).trans rfl
                      have hfz49_0 := blk_frozen BK339.out 0
                      have hfz49_1 := blk_frozen BK339.out 1
                      have hfz49_2 := blk_frozen BK339.out 2
                      have hfz49_3 := blk_frozen BK339.out 3
                      have hfz49_4 := blk_frozen BK339.out 4
                      have hfz49_5 := blk_frozen BK339.out 5
                      have hfz49_6 := blk_frozen BK339.out 6
                      have hcz50_0 : wc.cell? ⟨gb340, 0, none⟩ = some (.int .i64 a2_0) := (blk_cell BK340.out 0).trans rfl
                      have hcz50_1 : wc.cell? ⟨gb340, 1, none⟩ = some (.int .i64 a2_1) := (blk_cell BK340.out 1).trans rfl
                      have hfz50_0 := blk_frozen BK340.out 0
                      have hfz50_1 := blk_frozen BK340.out 1
                      go_wp2_with (first | ((with_reducible refine gate_callee (f := 39) rfl ?_); refine goesL_ (some 59) rfl rfl Try.func39 (by kernel_rfl) rfl #[.agg #[.int .i64 a0_0, .int .i64 a0_1, .int .i64 a0_2, .int .i64 a0_3, .int .i64 a0_4, .int .i64 a0_5, .int .i64 a0_6], .slice A1 l1.length c1, .int .i64 a2_0, .int .i64 a2_1] rfl (by (try simp only [List.map_toArray, List.map_cons, List.map_nil]); first | done | rfl | (simp only [List.length_drop, List.length_take]; rfl)) ?_; (with_reducible refine (walkmillref02_Window.calls kj34 a0_0 a0_1 a0_2 a0_3 a0_4 a0_5 a0_6 _ _ l1 a2_0 a2_1 t351 _ ?side1 ?side2 A38.out).mono ?_); (case side1 => repeat (first | exact (Kd.C_below HR1.out HB.out) | (with_reducible refine Kd.C_alloc ?_ _) | (with_reducible refine Kd.C_drewN ?_ _) | (with_reducible refine Kd.C_drew ?_))); (case side2 => exact HC1.out); rintro e w51 ⟨rfl, hb⟩; refine ⟨_, rfl, ?_⟩; have n0_ := Aside0.mk (blk_below (g := gb339) (o := .cells #[.int .i64 a0_0, .int .i64 a0_1, .int .i64 a0_2, .int .i64 a0_3, .int .i64 a0_4, .int .i64 a0_5, .int .i64 a0_6] 25 (0, 0)) (by (with_reducible repeat (first | refine blk_drewN ?_ _ | refine blk_drew ?_ | refine blk_alloc ?_ _)); exact BK339.out) hb); have n1_ := Aside0.mk (blk_below (g := gb340) (o := .cells #[.int .i64 a2_0, .int .i64 a2_1] 58 (0, 0)) (by (with_reducible repeat (first | refine blk_drewN ?_ _ | refine blk_drew ?_ | refine blk_alloc ?_ _)); exact BK340.out) hb); have n2_ := Aside0.mk (below_step (by repeat (first | (with_reducible first | exact HB.out | apply below_alloc | apply pw_below_drewN | apply below_drew1 | refine below_set ?_ GE339.out | refine below_set ?_ GE340.out) | exact HB.out)) hb); clear BK339; clear BK340; clear HB; have BK339 := n0_; have BK340 := n1_; have HB := n2_; clear n0_ n1_ n2_; (try clear hb); (try clear hb2); (try clear hk); (try clear hi)))
                      go_ret
                      exact ⟨by first | rfl | (simp [errW_none, errW_some] <;> rfl) | (simp [*, errW_none, errW_some] <;> rfl), by repeat (first | (with_reducible first | exact HB.out | apply below_alloc | apply pw_below_drewN | apply below_drew1 | refine below_set ?_ GE339.out | refine below_set ?_ GE340.out) | exact HB.out)⟩
                  · rw [if_neg c40] at H
                    have c40b0 : (t346 == 0) = false := beq_eq_false_iff_ne.mpr c40
                    have c40b1 : (t346 != 0) = true := bne_iff_ne.mpr c40
                    obtain rfl := Option.some.inj H
                    have hnb52 := NB339_340.out
                    have hnc52 := NB340_339.out
                    have hcz53_0 : wc.cell? ⟨gb339, 0, none⟩ = some (.int .i64 a0_0) := (blk_cell BK339.out 0).trans rfl
                    have hcz53_1 : wc.cell? ⟨gb339, 1, none⟩ = some (.int .i64 a0_1) := (blk_cell BK339.out 1).trans rfl
                    have hcz53_2 : wc.cell? ⟨gb339, 2, none⟩ = some (.int .i64 a0_2) := (blk_cell BK339.out 2).trans rfl
                    have hcz53_3 : wc.cell? ⟨gb339, 3, none⟩ = some (.int .i64 a0_3) := (blk_cell BK339.out 3).trans rfl
                    have hcz53_4 : wc.cell? ⟨gb339, 4, none⟩ = some (.int .i64 a0_4) := (blk_cell BK339.out 4).trans rfl
                    have hcz53_5 : wc.cell? ⟨gb339, 5, none⟩ = some (.int .i64 a0_5) := (blk_cell BK339.out 5).trans rfl
                    have hcz53_6 : wc.cell? ⟨gb339, 6, none⟩ = some (.int .i64 a0_6) := (blk_cell BK339.out 6).trans rfl
                    have hfz53_0 := blk_frozen BK339.out 0
                    have hfz53_1 := blk_frozen BK339.out 1
                    have hfz53_2 := blk_frozen BK339.out 2
                    have hfz53_3 := blk_frozen BK339.out 3
                    have hfz53_4 := blk_frozen BK339.out 4
                    have hfz53_5 := blk_frozen BK339.out 5
                    have hfz53_6 := blk_frozen BK339.out 6
                    have hcz54_0 : wc.cell? ⟨gb340, 0, none⟩ = some (.int .i64 a2_0) := (blk_cell BK340.out 0).trans rfl
                    have hcz54_1 : wc.cell? ⟨gb340, 1, none⟩ = some (.int .i64 a2_1) := (blk_cell BK340.out 1).trans rfl
                    have hfz54_0 := blk_frozen BK340.out 0
                    have hfz54_1 := blk_frozen BK340.out 1
                    go_wp2_with (first | ((with_reducible refine gate_callee (f := 39) rfl ?_); refine goesL_ (some 59) rfl rfl Try.func39 (by kernel_rfl) rfl #[.agg #[.int .i64 a0_0, .int .i64 a0_1, .int .i64 a0_2, .int .i64 a0_3, .int .i64 a0_4, .int .i64 a0_5, .int .i64 a0_6], .slice A1 l1.length c1, .int .i64 a2_0, .int .i64 a2_1] rfl (by (try simp only [List.map_toArray, List.map_cons, List.map_nil]); first | done | rfl | (simp only [List.length_drop, List.length_take]; rfl)) ?_; (with_reducible refine (walkmillref02_Window.calls kj34 a0_0 a0_1 a0_2 a0_3 a0_4 a0_5 a0_6 _ _ l1 a2_0 a2_1 t351 _ ?side1 ?side2 A38.out).mono ?_); (case side1 => repeat (first | exact (Kd.C_below HR1.out HB.out) | (with_reducible refine Kd.C_alloc ?_ _) | (with_reducible refine Kd.C_drewN ?_ _) | (with_reducible refine Kd.C_drew ?_))); (case side2 => exact HC1.out); rintro e w55 ⟨rfl, hb⟩; refine ⟨_, rfl, ?_⟩; have n0_ := Aside0.mk (blk_below (g := gb339) (o := .cells #[.int .i64 a0_0, .int .i64 a0_1, .int .i64 a0_2, .int .i64 a0_3, .int .i64 a0_4, .int .i64 a0_5, .int .i64 a0_6] 25 (0, 0)) (by (with_reducible repeat (first | refine blk_drewN ?_ _ | refine blk_drew ?_ | refine blk_alloc ?_ _)); exact BK339.out) hb); have n1_ := Aside0.mk (blk_below (g := gb340) (o := .cells #[.int .i64 a2_0, .int .i64 a2_1] 58 (0, 0)) (by (with_reducible repeat (first | refine blk_drewN ?_ _ | refine blk_drew ?_ | refine blk_alloc ?_ _)); exact BK340.out) hb); have n2_ := Aside0.mk (below_step (by repeat (first | (with_reducible first | exact HB.out | apply below_alloc | apply pw_below_drewN | apply below_drew1 | refine below_set ?_ GE339.out | refine below_set ?_ GE340.out) | exact HB.out)) hb); clear BK339; clear BK340; clear HB; have BK339 := n0_; have BK340 := n1_; have HB := n2_; clear n0_ n1_ n2_; (try clear hb); (try clear hb2); (try clear hk); (try clear hi)))
                    go_ret
                    exact ⟨by first | rfl | (simp [errW_none, errW_some] <;> rfl) | (simp [*, errW_none, errW_some] <;> rfl), by repeat (first | (with_reducible first | exact HB.out | apply below_alloc | apply pw_below_drewN | apply below_drew1 | refine below_set ?_ GE339.out | refine below_set ?_ GE340.out) | exact HB.out)⟩
                · rw [if_neg c39] at H
                  have c39b0 : decide (0 ≤ t351) = false := decide_eq_false c39
                  clear c39
                  by_cases c56 : t346 = 7
                  · rw [if_pos c56] at H
                    have c56b0 : (t346 == 7) = true := beq_iff_eq.mpr c56
                    have c56b1 : (t346 != 7) = false := bne_eq_false_iff_eq.mpr c56
                    clear c56
                    by_cases c57 : t345 = 0
                    · rw [if_pos c57] at H
                      have c57b0 : (t345 == 0) = true := beq_iff_eq.mpr c57
                      have c57b1 : (t345 != 0) = false := bne_eq_false_iff_eq.mpr c57
                      clear c57
                      replace H := Option.bind_eq_some_iff.mp H
                      obtain ⟨t353, A580, H⟩ := H
                      replace H : (some t353) = some r := H
                      have A58 := Aside0.mk A580
                      clear A580
                      obtain rfl := Option.some.inj H
                      have hnb59 := NB339_340.out
                      have hnc59 := NB340_339.out
                      have hcz60_0 : wc.cell? ⟨gb339, 0, none⟩ = some (.int .i64 a0_0) := (blk_cell BK339.out 0).trans rfl
                      have hcz60_1 : wc.cell? ⟨gb339, 1, none⟩ = some (.int .i64 a0_1) := (blk_cell BK339.out 1).trans rfl
                      have hcz60_2 : wc.cell? ⟨gb339, 2, none⟩ = some (.int .i64 a0_2) := (blk_cell BK339.out 2).trans rfl
                      have hcz60_3 : wc.cell? ⟨gb339, 3, none⟩ = some (.int .i64 a0_3) := (blk_cell BK339.out 3).trans rfl
                      have hcz60_4 : wc.cell? ⟨gb339, 4, none⟩ = some (.int .i64 a0_4) := (blk_cell BK339.out 4).trans rfl
                      have hcz60_5 : wc.cell? ⟨gb339, 5, none⟩ = some (.int .i64 a0_5) := (blk_cell BK339.out 5).trans rfl
                      have hcz60_6 : wc.cell? ⟨gb339, 6, none⟩ = some (.int .i64 a0_6) := (blk_cell BK339.out 6).trans rfl
                      have hfz60_0 := blk_frozen BK339.out 0
                      have hfz60_1 := blk_frozen BK339.out 1
                      have hfz60_2 := blk_frozen BK339.out 2
                      have hfz60_3 := blk_frozen BK339.out 3
                      have hfz60_4 := blk_frozen BK339.out 4
                      have hfz60_5 := blk_frozen BK339.out 5
                      have hfz60_6 := blk_frozen BK339.out 6
                      have hcz61_0 : wc.cell? ⟨gb340, 0, none⟩ = some (.int .i64 a2_0) := (blk_cell BK340.out 0).trans rfl
                      have hcz61_1 : wc.cell? ⟨gb340, 1, none⟩ = some (.int .i64 a2_1) := (blk_cell BK340.out 1).trans rfl
                      have hfz61_0 := blk_frozen BK340.out 0
                      have hfz61_1 := blk_frozen BK340.out 1
                      go_wp2_with (first | ((with_reducible refine gate_callee (f := 39) rfl ?_); refine goesL_ (some 59) rfl rfl Try.func39 (by kernel_rfl) rfl #[.agg #[.int .i64 a0_0, .int .i64 a0_1, .int .i64 a0_2, .int .i64 a0_3, .int .i64 a0_4, .int .i64 a0_5, .int .i64 a0_6], .slice A1 l1.length c1, .int .i64 a2_0, .int .i64 a2_1] rfl (by (try simp only [List.map_toArray, List.map_cons, List.map_nil]); first | done | rfl | (simp only [List.length_drop, List.length_take]; rfl)) ?_; (with_reducible refine (walkmillref02_Window.calls kj34 a0_0 a0_1 a0_2 a0_3 a0_4 a0_5 a0_6 _ _ l1 a2_0 a2_1 t351 _ ?side1 ?side2 A38.out).mono ?_); (case side1 => repeat (first | exact (Kd.C_below HR1.out HB.out) | (with_reducible refine Kd.C_alloc ?_ _) | (with_reducible refine Kd.C_drewN ?_ _) | (with_reducible refine Kd.C_drew ?_))); (case side2 => exact HC1.out); rintro e w62 ⟨rfl, hb⟩; refine ⟨_, rfl, ?_⟩; have n0_ := Aside0.mk (blk_below (g := gb339) (o := .cells #[.int .i64 a0_0, .int .i64 a0_1, .int .i64 a0_2, .int .i64 a0_3, .int .i64 a0_4, .int .i64 a0_5, .int .i64 a0_6] 25 (0, 0)) (by (with_reducible repeat (first | refine blk_drewN ?_ _ | refine blk_drew ?_ | refine blk_alloc ?_ _)); exact BK339.out) hb); have n1_ := Aside0.mk (blk_below (g := gb340) (o := .cells #[.int .i64 a2_0, .int .i64 a2_1] 58 (0, 0)) (by (with_reducible repeat (first | refine blk_drewN ?_ _ | refine blk_drew ?_ | refine blk_alloc ?_ _)); exact BK340.out) hb); have n2_ := Aside0.mk (below_step (by repeat (first | (with_reducible first | exact HB.out | apply below_alloc | apply pw_below_drewN | apply below_drew1 | refine below_set ?_ GE339.out | refine below_set ?_ GE340.out) | exact HB.out)) hb); clear BK339; clear BK340; clear HB; have BK339 := n0_; have BK340 := n1_; have HB := n2_; clear n0_ n1_ n2_; (try clear hb); (try clear hb2); (try clear hk); (try clear hi)) | (go_at_call 15; (with_reducible refine (walkmilllaw02_known.calls  t353 _ A58.out).mono ?_); rintro e w63 ⟨rfl, hb⟩; have n0_ := Aside0.mk (blk_below (g := gb339) (o := .cells #[.int .i64 a0_0, .int .i64 a0_1, .int .i64 a0_2, .int .i64 a0_3, .int .i64 a0_4, .int .i64 a0_5, .int .i64 a0_6] 25 (0, 0)) (by (with_reducible repeat (first | refine blk_drewN ?_ _ | refine blk_drew ?_ | refine blk_alloc ?_ _)); exact BK339.out) hb); have n1_ := Aside0.mk (blk_below (g := gb340) (o := .cells #[.int .i64 a2_0, .int .i64 a2_1] 58 (0, 0)) (by (with_reducible repeat (first | refine blk_drewN ?_ _ | refine blk_drew ?_ | refine blk_alloc ?_ _)); exact BK340.out) hb); have n2_ := Aside0.mk (below_step (by repeat (first | (with_reducible first | exact HB.out | apply below_alloc | apply pw_below_drewN | apply below_drew1 | refine below_set ?_ GE339.out | refine below_set ?_ GE340.out) | exact HB.out)) hb); clear BK339; clear BK340; clear HB; have BK339 := n0_; have BK340 := n1_; have HB := n2_; clear n0_ n1_ n2_; (try clear hb); (try clear hb2); (try clear hk); (try clear hi)))
                      go_ret
                      exact ⟨by first | rfl | (simp [errW_none, errW_some] <;> rfl) | (simp [*, errW_none, errW_some] <;> rfl), by repeat (first | (with_reducible first | exact HB.out | apply below_alloc | apply pw_below_drewN | apply below_drew1 | refine below_set ?_ GE339.out | refine below_set ?_ GE340.out) | exact HB.out)⟩
                    · rw [if_neg c57] at H
                      have c57b0 : (t345 == 0) = false := beq_eq_false_iff_ne.mpr c57
                      have c57b1 : (t345 != 0) = true := bne_iff_ne.mpr c57
                      obtain rfl := Option.some.inj H
                      have hnb64 := NB339_340.out
                      have hnc64 := NB340_339.out
                      have hcz65_0 : wc.cell? ⟨gb339, 0, none⟩ = some (.int .i64 a0_0) := (blk_cell BK339.out 0).trans rfl
                      have hcz65_1 : wc.cell? ⟨gb339, 1, none⟩ = some (.int .i64 a0_1) := (blk_cell BK339.out 1).trans rfl
                      have hcz65_2 : wc.cell? ⟨gb339, 2, none⟩ = some (.int .i64 a0_2) := (blk_cell BK339.out 2).trans rfl
                      have hcz65_3 : wc.cell? ⟨gb339, 3, none⟩ = some (.int .i64 a0_3) := (blk_cell BK339.out 3).trans rfl
                      have hcz65_4 : wc.cell? ⟨gb339, 4, none⟩ = some (.int .i64 a0_4) := (blk_cell BK339.out 4).trans rfl
                      have hcz65_5 : wc.cell? ⟨gb339, 5, none⟩ = some (.int .i64 a0_5) := (blk_cell BK339.out 5).trans rfl
                      have hcz65_6 : wc.cell? ⟨gb339, 6, none⟩ = some (.int .i64 a0_6) := (blk_cell BK339.out 6).trans rfl
                      have hfz65_0 := blk_frozen BK339.out 0
                      have hfz65_1 := blk_frozen BK339.out 1
                      have hfz65_2 := blk_frozen BK339.out 2
                      have hfz65_3 := blk_frozen BK339.out 3
                      have hfz65_4 := blk_frozen BK339.out 4
                      have hfz65_5 := blk_frozen BK339.out 5
                      have hfz65_6 := blk_frozen BK339.out 6
                      have hcz66_0 : wc.cell? ⟨gb340, 0, none⟩ = some (.int .i64 a2_0) := (blk_cell BK340.out 0).trans rfl
                      have hcz66_1 : wc.cell? ⟨gb340, 1, none⟩ = some (.int .i64 a2_1) := (blk_cell BK340.out 1).trans rfl
                      have hfz66_0 := blk_frozen BK340.out 0
                      have hfz66_1 := blk_frozen BK340.out 1
                      go_wp2_with (first | ((with_reducible refine gate_callee (f := 39) rfl ?_); refine goesL_ (some 59) rfl rfl Try.func39 (by kernel_rfl) rfl #[.agg #[.int .i64 a0_0, .int .i64 a0_1, .int .i64 a0_2, .int .i64 a0_3, .int .i64 a0_4, .int .i64 a0_5, .int .i64 a0_6], .slice A1 l1.length c1, .int .i64 a2_0, .int .i64 a2_1] rfl (by (try simp only [List.map_toArray, List.map_cons, List.map_nil]); first | done | rfl | (simp only [List.length_drop, List.length_take]; rfl)) ?_; (with_reducible refine (walkmillref02_Window.calls kj34 a0_0 a0_1 a0_2 a0_3 a0_4 a0_5 a0_6 _ _ l1 a2_0 a2_1 t351 _ ?side1 ?side2 A38.out).mono ?_); (case side1 => repeat (first | exact (Kd.C_below HR1.out HB.out) | (with_reducible refine Kd.C_alloc ?_ _) | (with_reducible refine Kd.C_drewN ?_ _) | (with_reducible refine Kd.C_drew ?_))); (case side2 => exact HC1.out); rintro e w67 ⟨rfl, hb⟩; refine ⟨_, rfl, ?_⟩; have n0_ := Aside0.mk (blk_below (g := gb339) (o := .cells #[.int .i64 a0_0, .int .i64 a0_1, .int .i64 a0_2, .int .i64 a0_3, .int .i64 a0_4, .int .i64 a0_5, .int .i64 a0_6] 25 (0, 0)) (by (with_reducible repeat (first | refine blk_drewN ?_ _ | refine blk_drew ?_ | refine blk_alloc ?_ _)); exact BK339.out) hb); have n1_ := Aside0.mk (blk_below (g := gb340) (o := .cells #[.int .i64 a2_0, .int .i64 a2_1] 58 (0, 0)) (by (with_reducible repeat (first | refine blk_drewN ?_ _ | refine blk_drew ?_ | refine blk_alloc ?_ _)); exact BK340.out) hb); have n2_ := Aside0.mk (below_step (by repeat (first | (with_reducible first | exact HB.out | apply below_alloc | apply pw_below_drewN | apply below_drew1 | refine below_set ?_ GE339.out | refine below_set ?_ GE340.out) | exact HB.out)) hb); clear BK339; clear BK340; clear HB; have BK339 := n0_; have BK340 := n1_; have HB := n2_; clear n0_ n1_ n2_; (try clear hb); (try clear hb2); (try clear hk); (try clear hi)))
                      go_ret
                      exact ⟨by first | rfl | (simp [errW_none, errW_some] <;> rfl) | (simp [*, errW_none, errW_some] <;> rfl), by repeat (first | (with_reducible first | exact HB.out | apply below_alloc | apply pw_below_drewN | apply below_drew1 | refine below_set ?_ GE339.out | refine below_set ?_ GE340.out) | exact HB.out)⟩
                  · rw [if_neg c56] at H
                    have c56b0 : (t346 == 7) = false := beq_eq_false_iff_ne.mpr c56
                    have c56b1 : (t346 != 7) = true := bne_iff_ne.mpr c56
                    obtain rfl := Option.some.inj H
                    have hnb68 := NB339_340.out
                    have hnc68 := NB340_339.out
                    have hcz69_0 : wc.cell? ⟨gb339, 0, none⟩ = some (.int .i64 a0_0) := (blk_cell BK339.out 0).trans rfl
                    have hcz69_1 : wc.cell? ⟨gb339, 1, none⟩ = some (.int .i64 a0_1) := (blk_cell BK339.out 1).trans rfl
                    have hcz69_2 : wc.cell? ⟨gb339, 2, none⟩ = some (.int .i64 a0_2) := (blk_cell BK339.out 2).trans rfl
                    have hcz69_3 : wc.cell? ⟨gb339, 3, none⟩ = some (.int .i64 a0_3) := (blk_cell BK339.out 3).trans rfl
                    have hcz69_4 : wc.cell? ⟨gb339, 4, none⟩ = some (.int .i64 a0_4) := (blk_cell BK339.out 4).trans rfl
                    have hcz69_5 : wc.cell? ⟨gb339, 5, none⟩ = some (.int .i64 a0_5) := (blk_cell BK339.out 5).trans rfl
                    have hcz69_6 : wc.cell? ⟨gb339, 6, none⟩ = some (.int .i64 a0_6) := (blk_cell BK339.out 6).trans rfl
                    have hfz69_0 := blk_frozen BK339.out 0
                    have hfz69_1 := blk_frozen BK339.out 1
                    have hfz69_2 := blk_frozen BK339.out 2
                    have hfz69_3 := blk_frozen BK339.out 3
                    have hfz69_4 := blk_frozen BK339.out 4
                    have hfz69_5 := blk_frozen BK339.out 5
                    have hfz69_6 := blk_frozen BK339.out 6
                    have hcz70_0 : wc.cell? ⟨gb340, 0, none⟩ = some (.int .i64 a2_0) := (blk_cell BK340.out 0).trans rfl
                    have hcz70_1 : wc.cell? ⟨gb340, 1, none⟩ = some (.int .i64 a2_1) := (blk_cell BK340.out 1).trans rfl
                    have hfz70_0 := blk_frozen BK340.out 0
                    have hfz70_1 := blk_frozen BK340.out 1
                    go_wp2_with (first | ((with_reducible refine gate_callee (f := 39) rfl ?_); refine goesL_ (some 59) rfl rfl Try.func39 (by kernel_rfl) rfl #[.agg #[.int .i64 a0_0, .int .i64 a0_1, .int .i64 a0_2, .int .i64 a0_3, .int .i64 a0_4, .int .i64 a0_5, .int .i64 a0_6], .slice A1 l1.length c1, .int .i64 a2_0, .int .i64 a2_1] rfl (by (try simp only [List.map_toArray, List.map_cons, List.map_nil]); first | done | rfl | (simp only [List.length_drop, List.length_take]; rfl)) ?_; (with_reducible refine (walkmillref02_Window.calls kj34 a0_0 a0_1 a0_2 a0_3 a0_4 a0_5 a0_6 _ _ l1 a2_0 a2_1 t351 _ ?side1 ?side2 A38.out).mono ?_); (case side1 => repeat (first | exact (Kd.C_below HR1.out HB.out) | (with_reducible refine Kd.C_alloc ?_ _) | (with_reducible refine Kd.C_drewN ?_ _) | (with_reducible refine Kd.C_drew ?_))); (case side2 => exact HC1.out); rintro e w71 ⟨rfl, hb⟩; refine ⟨_, rfl, ?_⟩; have n0_ := Aside0.mk (blk_below (g := gb339) (o := .cells #[.int .i64 a0_0, .int .i64 a0_1, .int .i64 a0_2, .int .i64 a0_3, .int .i64 a0_4, .int .i64 a0_5, .int .i64 a0_6] 25 (0, 0)) (by (with_reducible repeat (first | refine blk_drewN ?_ _ | refine blk_drew ?_ | refine blk_alloc ?_ _)); exact BK339.out) hb); have n1_ := Aside0.mk (blk_below (g := gb340) (o := .cells #[.int .i64 a2_0, .int .i64 a2_1] 58 (0, 0)) (by (with_reducible repeat (first | refine blk_drewN ?_ _ | refine blk_drew ?_ | refine blk_alloc ?_ _)); exact BK340.out) hb); have n2_ := Aside0.mk (below_step (by repeat (first | (with_reducible first | exact HB.out | apply below_alloc | apply pw_below_drewN | apply below_drew1 | refine below_set ?_ GE339.out | refine below_set ?_ GE340.out) | exact HB.out)) hb); clear BK339; clear BK340; clear HB; have BK339 := n0_; have BK340 := n1_; have HB := n2_; clear n0_ n1_ n2_; (try clear hb); (try clear hb2); (try clear hk); (try clear hi)))
                    go_ret
                    exact ⟨by first | rfl | (simp [errW_none, errW_some] <;> rfl) | (simp [*, errW_none, errW_some] <;> rfl), by repeat (first | (with_reducible first | exact HB.out | apply below_alloc | apply pw_below_drewN | apply below_drew1 | refine below_set ?_ GE339.out | refine below_set ?_ GE340.out) | exact HB.out)⟩
              · rw [if_neg c37] at H
                have c37b0 : (x10_34 == 0) = false := beq_eq_false_iff_ne.mpr c37
                have c37b1 : (x10_34 != 0) = true := bne_iff_ne.mpr c37
                by_cases c72 : t346 = x10_34
                · rw [if_pos c72] at H
                  have c72b0 : (t346 == x10_34) = true := beq_iff_eq.mpr c72
                  have c72b1 : (t346 != x10_34) = false := bne_eq_false_iff_eq.mpr c72
                  clear c72
                  by_cases c73 : t345 = 0
                  · rw [if_pos c73] at H
                    have c73b0 : (t345 == 0) = true := beq_iff_eq.mpr c73
                    have c73b1 : (t345 != 0) = false := bne_eq_false_iff_eq.mpr c73
                    clear c73
                    replace H := Option.bind_eq_some_iff.mp H
                    obtain ⟨t354, A740, H⟩ := H
                    replace H : (some t354) = some r := H
                    have A74 := Aside0.mk A740
                    clear A740
                    obtain rfl := Option.some.inj H
                    go_wp2_with (first | (go_at_call 15; (with_reducible refine (walkmilllaw02_known.calls  t354 _ A74.out).mono ?_); rintro e w75 ⟨rfl, hb⟩; have n0_ := Aside0.mk (blk_below (g := gb339) (o := .cells #[.int .i64 a0_0, .int .i64 a0_1, .int .i64 a0_2, .int .i64 a0_3, .int .i64 a0_4, .int .i64 a0_5, .int .i64 a0_6] 25 (0, 0)) (by (with_reducible repeat (first | refine blk_drewN ?_ _ | refine blk_drew ?_ | refine blk_alloc ?_ _)); exact BK339.out) hb); have n1_ := Aside0.mk (blk_below (g := gb340) (o := .cells #[.int .i64 a2_0, .int .i64 a2_1] 58 (0, 0)) (by (with_reducible repeat (first | refine blk_drewN ?_ _ | refine blk_drew ?_ | refine blk_alloc ?_ _)); exact BK340.out) hb); have n2_ := Aside0.mk (below_step (by repeat (first | (with_reducible first | exact HB.out | apply below_alloc | apply pw_below_drewN | apply below_drew1 | refine below_set ?_ GE339.out | refine below_set ?_ GE340.out) | exact HB.out)) hb); clear BK339; clear BK340; clear HB; have BK339 := n0_; have BK340 := n1_; have HB := n2_; clear n0_ n1_ n2_; (try clear hb); (try clear hb2); (try clear hk); (try clear hi)))
                    go_ret
                    exact ⟨by first | rfl | (simp [errW_none, errW_some] <;> rfl) | (simp [*, errW_none, errW_some] <;> rfl), by repeat (first | (with_reducible first | exact HB.out | apply below_alloc | apply pw_below_drewN | apply below_drew1 | refine below_set ?_ GE339.out | refine below_set ?_ GE340.out) | exact HB.out)⟩
                  · rw [if_neg c73] at H
                    have c73b0 : (t345 == 0) = false := beq_eq_false_iff_ne.mpr c73
                    have c73b1 : (t345 != 0) = true := bne_iff_ne.mpr c73
                    obtain rfl := Option.some.inj H
                    go_wp2
                    go_ret
                    exact ⟨by first | rfl | (simp [errW_none, errW_some] <;> rfl) | (simp [*, errW_none, errW_some] <;> rfl), by repeat (first | (with_reducible first | exact HB.out | apply below_alloc | apply pw_below_drewN | apply below_drew1 | refine below_set ?_ GE339.out | refine below_set ?_ GE340.out) | exact HB.out)⟩
                · rw [if_neg c72] at H
                  have c72b0 : (t346 == x10_34) = false := beq_eq_false_iff_ne.mpr c72
                  have c72b1 : (t346 != x10_34) = true := bne_iff_ne.mpr c72
                  obtain rfl := Option.some.inj H
                  go_wp2
                  go_ret
                  exact ⟨by first | rfl | (simp [errW_none, errW_some] <;> rfl) | (simp [*, errW_none, errW_some] <;> rfl), by repeat (first | (with_reducible first | exact HB.out | apply below_alloc | apply pw_below_drewN | apply below_drew1 | refine below_set ?_ GE339.out | refine below_set ?_ GE340.out) | exact HB.out)⟩
    · replace c12 := Bool.eq_false_iff.mpr c12
      subst c12
      have H1 : (some false) = some r := by rw [if_neg (show ¬ (false = true) by decide)] at H; exact H
      clear H
      have H := H1
      clear H1
      obtain rfl := Option.some.inj H
      go_enter Try.func7, Try.ntmps7
      go_wp2_with (first | ((with_reducible refine gate_dst (N := 3) rfl ?_); refine box_event ?hg (N := 3) ?hd (cs := #[.int .i64 a0_0, .int .i64 a0_1, .int .i64 a0_2, .int .i64 a0_3, .int .i64 a0_4, .int .i64 a0_5, .int .i64 a0_6]) (t := 25) ?hr ?_; (case hd => rfl); (case hg => rfl); (case hr => first | (go_simp; done) | (go_simp; rfl)); intro gb339 hg w76 hbox hb; have n0_ := Aside0.mk (below_step (by repeat (first | (with_reducible first | exact HB.out | apply below_alloc | apply pw_below_drewN | apply below_drew1) | exact HB.out)) hb); have n1_ := Aside0.mk (hbox); have n2_ := Aside0.mk ((by rw [hg]; exact (below_size (by repeat (first | (with_reducible first | exact HB.out | apply below_alloc | apply pw_below_drewN | apply below_drew1) | exact HB.out))) : w.heap.size ≤ gb339)); have n3_ := Aside0.mk ((by rw [hg]; exact (below_size (by repeat (first | (with_reducible first | exact HB.out | apply below_alloc | apply pw_below_drewN | apply below_drew1) | exact HB.out))) : w.heap.size ≤ gb339)); clear HB; have HB := n0_; have BK339 := n1_; have GW339 := n2_; have GE339 := n3_; clear n0_ n1_ n2_ n3_; clear hb hbox hg) | ((with_reducible refine gate_dst (N := 5) rfl ?_); refine box_event ?hg (N := 5) ?hd (cs := #[.int .i64 a2_0, .int .i64 a2_1]) (t := 58) ?hr ?_; (case hd => rfl); (case hg => rfl); (case hr => first | (go_simp; done) | (go_simp; rfl)); intro gb340 hg w77 hbox hb; have n0_ := Aside0.mk (blk_below (g := gb339) (o := .cells #[.int .i64 a0_0, .int .i64 a0_1, .int .i64 a0_2, .int .i64 a0_3, .int .i64 a0_4, .int .i64 a0_5, .int .i64 a0_6] 25 (0, 0)) (by (with_reducible repeat (first | refine blk_drewN ?_ _ | refine blk_drew ?_ | refine blk_alloc ?_ _)); exact BK339.out) hb); have n1_ := Aside0.mk (below_step (by repeat (first | (with_reducible first | exact HB.out | apply below_alloc | apply pw_below_drewN | apply below_drew1 | refine below_set ?_ GE339.out) | exact HB.out)) hb); have n2_ := Aside0.mk (hbox); have n3_ := Aside0.mk ((by rw [hg]; exact (below_size (by repeat (first | (with_reducible first | exact HB.out | apply below_alloc | apply pw_below_drewN | apply below_drew1 | refine below_set ?_ GE339.out) | exact HB.out))) : w.heap.size ≤ gb340)); have n4_ := Aside0.mk ((by rw [hg]; exact (below_size (by repeat (first | (with_reducible first | exact HB.out | apply below_alloc | apply pw_below_drewN | apply below_drew1 | refine below_set ?_ GE339.out) | exact HB.out))) : w.heap.size ≤ gb340)); have n5_ := Aside0.mk ((by rw [hg]; exact Nat.ne_of_lt (blk_lt (g := gb339) (o := .cells #[.int .i64 a0_0, .int .i64 a0_1, .int .i64 a0_2, .int .i64 a0_3, .int .i64 a0_4, .int .i64 a0_5, .int .i64 a0_6] 25 (0, 0)) (by (with_reducible repeat (first | refine blk_drewN ?_ _ | refine blk_drew ?_ | refine blk_alloc ?_ _)); exact BK339.out)) : gb339 ≠ gb340)); have n6_ := Aside0.mk ((by rw [hg]; exact Nat.ne_of_gt (blk_lt (g := gb339) (o := .cells #[.int .i64 a0_0, .int .i64 a0_1, .int .i64 a0_2, .int .i64 a0_3, .int .i64 a0_4, .int .i64 a0_5, .int .i64 a0_6] 25 (0, 0)) (by (with_reducible repeat (first | refine blk_drewN ?_ _ | refine blk_drew ?_ | refine blk_alloc ?_ _)); exact BK339.out)) : gb340 ≠ gb339)); clear BK339; clear HB; have BK339 := n0_; have HB := n1_; have BK340 := n2_; have GW340 := n3_; have GE340 := n4_; have NB339_340 := n5_; have NB340_339 := n6_; clear n0_ n1_ n2_ n3_ n4_ n5_ n6_; clear hb hbox hg) | ((with_reducible refine gate_callee (f := 16) rfl ?_); refine goesL_ (some 17) rfl rfl Try.func16 (by kernel_rfl) rfl #[.slice A1 l1.length c1] rfl (by (try simp only [List.map_toArray, List.map_cons, List.map_nil]); first | done | rfl | (simp only [List.length_drop, List.length_take]; rfl)) ?_; (with_reducible refine (walkmillref02_Copy.calls _ _ l1 t342 _ ?side1 ?side2 A9.out).mono ?_); (case side1 => repeat (first | exact (Kd.C_below HR1.out HB.out) | (with_reducible refine Kd.C_alloc ?_ _) | (with_reducible refine Kd.C_drewN ?_ _) | (with_reducible refine Kd.C_drew ?_))); (case side2 => exact HC1.out); rintro e w78 ⟨v343, rfl, ho0, hb⟩; refine ⟨_, rfl, ?_⟩; have n0_ := Aside0.mk (Kd.R_lower ho0 (below_size (by repeat (first | (with_reducible first | exact HB.out | apply below_alloc | apply pw_below_drewN | apply below_drew1 | refine below_set ?_ GE339.out | refine below_set ?_ GE340.out) | exact HB.out)))); have n1_ := Aside0.mk (blk_below (g := gb339) (o := .cells #[.int .i64 a0_0, .int .i64 a0_1, .int .i64 a0_2, .int .i64 a0_3, .int .i64 a0_4, .int .i64 a0_5, .int .i64 a0_6] 25 (0, 0)) (by (with_reducible repeat (first | refine blk_drewN ?_ _ | refine blk_drew ?_ | refine blk_alloc ?_ _)); exact BK339.out) hb); have n2_ := Aside0.mk (blk_below (g := gb340) (o := .cells #[.int .i64 a2_0, .int .i64 a2_1] 58 (0, 0)) (by (with_reducible repeat (first | refine blk_drewN ?_ _ | refine blk_drew ?_ | refine blk_alloc ?_ _)); exact BK340.out) hb); have n3_ := Aside0.mk (below_step (by repeat (first | (with_reducible first | exact HB.out | apply below_alloc | apply pw_below_drewN | apply below_drew1 | refine below_set ?_ GE339.out | refine below_set ?_ GE340.out) | exact HB.out)) hb); clear BK339; clear BK340; clear HB; have HO344 := n0_; have BK339 := n1_; have BK340 := n2_; have HB := n3_; clear n0_ n1_ n2_ n3_; (try clear hb); (try clear hb2); (try clear hk); (try clear hi); (try clear ho0); have hnb79 := NB339_340.out; have hnc79 := NB340_339.out; have hcz80_0 : w78.cell? ⟨gb339, 0, none⟩ = some (.int .i64 a0_0) := (blk_cell BK339.out 0).trans rfl; have hcz80_1 : w78.cell? ⟨gb339, 1, none⟩ = some (.int .i64 a0_1) := (blk_cell BK339.out 1).trans rfl; have hcz80_2 : w78.cell? ⟨gb339, 2, none⟩ = some (.int .i64 a0_2) := (blk_cell BK339.out 2).trans rfl; have hcz80_3 : w78.cell? ⟨gb339, 3, none⟩ = some (.int .i64 a0_3) := (blk_cell BK339.out 3).trans rfl; have hcz80_4 : w78.cell? ⟨gb339, 4, none⟩ = some (.int .i64 a0_4) := (blk_cell BK339.out 4).trans rfl; have hcz80_5 : w78.cell? ⟨gb339, 5, none⟩ = some (.int .i64 a0_5) := (blk_cell BK339.out 5).trans rfl; have hcz80_6 : w78.cell? ⟨gb339, 6, none⟩ = some (.int .i64 a0_6) := (blk_cell BK339.out 6).trans rfl; have hfz80_0 := blk_frozen BK339.out 0; have hfz80_1 := blk_frozen BK339.out 1; have hfz80_2 := blk_frozen BK339.out 2; have hfz80_3 := blk_frozen BK339.out 3; have hfz80_4 := blk_frozen BK339.out 4; have hfz80_5 := blk_frozen BK339.out 5; have hfz80_6 := blk_frozen BK339.out 6; have hcz81_0 : w78.cell? ⟨gb340, 0, none⟩ = some (.int .i64 a2_0) := (blk_cell BK340.out 0).trans rfl; have hcz81_1 : w78.cell? ⟨gb340, 1, none⟩ = some (.int .i64 a2_1) := (blk_cell BK340.out 1).trans rfl; have hfz81_0 := blk_frozen BK340.out 0; have hfz81_1 := blk_frozen BK340.out 1; obtain ⟨Ao82, co82, eo82⟩ := Kd.R_slice HO344.out; subst eo82) | ((with_reducible refine gate_callee (f := 38) rfl ?_); refine goesL_ (some 25) rfl rfl Try.func38 (by kernel_rfl) rfl #[.agg #[.int .i64 a0_0, .int .i64 a0_1, .int .i64 a0_2, .int .i64 a0_3, .int .i64 a0_4, .int .i64 a0_5, .int .i64 a0_6], .slice Ao82 t342.length co82, .int .i64 a2_0, .int .i64 a2_1] rfl (by (try simp only [List.map_toArray, List.map_cons, List.map_nil]); first | done | rfl | (simp only [List.length_drop, List.length_take]; rfl)) ?_; (with_reducible refine (stream_Window.calls a0_0 a0_1 a0_2 a0_3 a0_4 a0_5 a0_6 _ _ t342 a2_0 a2_1 t345 t346 _ ?side1 ?side2 A10.out).mono ?_); (case side1 => repeat (first | exact (Kd.R_reads' HO344.out).2.2 | (with_reducible refine Kd.C_alloc ?_ _) | (with_reducible refine Kd.C_drewN ?_ _) | (with_reducible refine Kd.C_drew ?_))); (case side2 => exact (Kd.R_reads' HO344.out).2.1); rintro e w83 ⟨rfl, hb⟩; refine ⟨_, rfl, ?_⟩; have n0_ := Aside0.mk (Kd.R_below (by (with_reducible repeat (first | apply Kd.R_alloc | apply Kd.R_drewN | apply Kd.R_drew)); exact HO344.out) hb); have n1_ := Aside0.mk (blk_below (g := gb339) (o := .cells #[.int .i64 a0_0, .int .i64 a0_1, .int .i64 a0_2, .int .i64 a0_3, .int .i64 a0_4, .int .i64 a0_5, .int .i64 a0_6] 25 (0, 0)) (by (with_reducible repeat (first | refine blk_drewN ?_ _ | refine blk_drew ?_ | refine blk_alloc ?_ _)); exact BK339.out) hb); have n2_ := Aside0.mk (blk_below (g := gb340) (o := .cells #[.int .i64 a2_0, .int .i64 a2_1] 58 (0, 0)) (by (with_reducible repeat (first | refine blk_drewN ?_ _ | refine blk_drew ?_ | refine blk_alloc ?_ _)); exact BK340.out) hb); have n3_ := Aside0.mk (below_step (by repeat (first | (with_reducible first | exact HB.out | apply below_alloc | apply pw_below_drewN | apply below_drew1 | refine below_set ?_ GE339.out | refine below_set ?_ GE340.out) | exact HB.out)) hb); clear HO344; clear BK339; clear BK340; clear HB; have HO344 := n0_; have BK339 := n1_; have BK340 := n2_; have HB := n3_; clear n0_ n1_ n2_ n3_; (try clear hb); (try clear hb2); (try clear hk); (try clear hi)) | ((with_reducible refine gate_callee (f := 22) rfl ?_); refine goesL_ (some 30) rfl rfl Try.func22 (by kernel_rfl) rfl #[.slice Ao82 t342.length co82, .slice A1 l1.length c1] rfl (by (try simp only [List.map_toArray, List.map_cons, List.map_nil]); first | done | rfl | (simp only [List.length_drop, List.length_take]; rfl)) ?_; (with_reducible refine (walkmillref02_Same.calls k _ _ t342 _ _ l1 false _ ?side1 ?side2 ?side3 ?side4 A11.out).mono ?_); (case side1 => repeat (first | exact (Kd.R_reads' HO344.out).2.2 | (with_reducible refine Kd.C_alloc ?_ _) | (with_reducible refine Kd.C_drewN ?_ _) | (with_reducible refine Kd.C_drew ?_))); (case side2 => exact (Kd.R_reads' HO344.out).2.1); (case side3 => repeat (first | exact (Kd.C_below HR1.out HB.out) | (with_reducible refine Kd.C_alloc ?_ _) | (with_reducible refine Kd.C_drewN ?_ _) | (with_reducible refine Kd.C_drew ?_))); (case side4 => exact HC1.out); rintro e w' ⟨rfl, ⟨nd, rfl⟩⟩; refine ⟨_, rfl, ?_⟩))
      go_ret
      exact ⟨by first | rfl | (simp [errW_none, errW_some] <;> rfl) | (simp [*, errW_none, errW_some] <;> rfl), by repeat (first | (with_reducible first | exact HB.out | apply below_alloc | apply pw_below_drewN | apply below_drew1 | refine below_set ?_ GE339.out | refine below_set ?_ GE340.out) | exact HB.out)⟩
end Go.Proofs.Ytcnlbbmokphjnaa.Q
namespace Go.Proofs.Ytcnlbbmokphjnaa.Rw
open Go.RowKit Go.Proofs.YtcnlbbmokphjnaaW.PrintWords
set_option linter.unusedVariables false
set_option linter.unusedSimpArgs false
theorem add_two (a : Addr) (x y : Nat) : (a.add x).add y = a.add (x + y) := by
  unfold Addr.add
  by_cases h1 : x = 0
  · subst h1; simp
  · by_cases h2 : y = 0
    · subst h2; simp
    · have h3 : ¬ x + y = 0 := by omega
      simp [h1, h2, Nat.add_assoc]
structure Opens {α : Type} (P : Program) (t : TypeId) (d : Kd α) (good : α → Prop) : Prop where
  size : d.sz = P.cellsOf t
  read : ∀ {H : Type} {enc : TypeId × Value → H} {w : World} {base : Nat} {sp : Nat → Bool} {held : Bool} {fuel : Nat} {cs : List Value} {x : DataW H × List MemPlace}, DataW.trod enc P w base sp held fuel t cs = some x → ∃ y : α, d.K w y cs ∧ good y
theorem Opens.int {P : Program} {t : TypeId} {k : IntKind} (ht : P.underlying t = some (.int k)) (hc : 1 = P.cellsOf t) : Opens P t (Kd.int k) (fun n => (Lit.int k n).wf = true) := ⟨hc, fun h => by
  obtain ⟨n, rfl, rfl, hw⟩ := DataW.trod_int ht h
  exact ⟨n, rfl, hw⟩⟩
theorem Opens.bool {P : Program} {t : TypeId} (ht : P.underlying t = some .bool) (hc : 1 = P.cellsOf t) : Opens P t Kd.bool (fun _ => True) := ⟨hc, fun h => by
  obtain ⟨b, rfl, rfl⟩ := DataW.trod_bool ht h
  exact ⟨b, rfl, trivial⟩⟩
theorem Opens.string {P : Program} {t : TypeId} (ht : P.underlying t = some .string) (hc : 1 = P.cellsOf t) : Opens P t Kd.string (fun _ => True) := ⟨hc, fun h => by
  obtain ⟨s, rfl, rfl, _⟩ := DataW.trod_string ht h
  exact ⟨s, rfl, trivial⟩⟩
theorem Opens.slice {α : Type} {P : Program} {t e : TypeId} {d : Kd α} {good : α → Prop} (ht : P.underlying t = some (.slice e)) (hc : 1 = P.cellsOf t) (h : Opens P e d good) : Opens P t (Kd.slice e d) (fun l => ∀ x ∈ l, good x) := ⟨hc, fun {H enc w base sp held fuel cs x} hx => by
  rcases DataW.trod_slice ht hx with ⟨rfl, _⟩ | ⟨a, len, cap, elems, rest, n, _, rfl, _, hb, hl, hm, hlen, hel, _, _⟩
  · exact ⟨[], ⟨none, 0, rfl, Nat.le_refl _, Kd.C_nil _ _⟩, fun x hx => by cases hx⟩
  · have key : ∀ m, m ≤ len → ∃ l : List α, l.length = m ∧ ∀ i z, l[i]? = some z → good z ∧ ∃ c, c.length = d.sz ∧ d.K w z c ∧ ∀ j u, c[j]? = some u → w.cell? (a.add (i * d.sz + j)) = some u := by
      intro m
      induction m with
      | zero => intro _; exact ⟨[], rfl, fun i z hz => by simp at hz⟩
      | succ m ih =>
        intro hle
        obtain ⟨l, hll, hl2⟩ := ih (by omega)
        have h1 := hel m (by omega)
        rw [List.getElem?_eq_getElem (by omega), Option.bind_eq_some_iff] at h1
        obtain ⟨c, hc1, hc2⟩ := h1
        obtain ⟨z, hz, hg⟩ := h.read hc2
        obtain ⟨_, hcl, hcc⟩ := World.cells?_some hc1
        refine ⟨l ++ [z], by simp [hll], fun i z' hz' => ?_⟩
        rcases Nat.lt_or_ge i l.length with hlt | hge
        · rw [List.getElem?_append_left hlt] at hz'
          exact hl2 i z' hz'
        · rw [List.getElem?_append_right hge] at hz'
          have e : i = m := by
            rcases Nat.eq_zero_or_pos (i - l.length) with e | e
            · omega
            · rw [List.getElem?_eq_none (by simp; omega)] at hz'; cases hz'
          subst e
          rw [show i - l.length = 0 by omega] at hz'
          simp only [List.getElem?_cons_zero, Option.some.injEq] at hz'
          subst hz'
          refine ⟨hg, c, by rw [hcl, h.size], hz, fun j u hu => ?_⟩
          have hj : j < P.cellsOf e := by rw [← hcl]; exact (List.getElem?_eq_some_iff.1 hu).1
          have := hcc j hj
          rw [hu] at this
          rw [h.size, ← this, add_two]
    obtain ⟨l, hll, hl2⟩ := key len (Nat.le_refl _)
    refine ⟨l, ⟨some a, cap, by rw [hll], by omega, rfl, by unfold maxLen at hm; omega, fun _ => ⟨a, rfl, fun j p hj => ?_⟩⟩, fun x hx => ?_⟩
    · obtain ⟨_, c, h1, h2, h3⟩ := hl2 j p hj
      exact ⟨c, h1, h2, h3⟩
    · obtain ⟨i, hi⟩ := List.getElem?_of_mem hx
      exact (hl2 i x hi).1⟩
structure FOpens {α : Type} (P : Program) (fs : List Field) (off : Nat) (d : Kd α) (good : α → Prop) : Prop where
  read : ∀ {H : Type} {enc : TypeId × Value → H} {w : World} {base : Nat} {sp : Nat → Bool} {held : Bool} {fuel : Nat} {cs : List Value},
  (∀ (i : Nat) (f : Field), fs[i]? = some f → ∃ y, DataW.trod enc P w base sp held fuel f.type ((cs.drop f.offset).take (P.cellsOf f.type)) = some y) → cs.length = off + d.sz → ∃ y : α, d.K w y (cs.drop off) ∧ good y
theorem FOpens.one {α : Type} {P : Program} {f : Field} {off : Nat} {d : Kd α} {good : α → Prop} (h : Opens P f.type d good) (ho : f.offset = off) : FOpens P [f] off d good := ⟨fun {H enc w base sp held fuel cs} hf hl => by
  obtain ⟨y, hy⟩ := hf 0 f rfl
  rw [ho, ← h.size, List.take_of_length_le (by rw [List.length_drop]; omega)] at hy
  exact h.read hy⟩
theorem FOpens.cons {α β : Type} {P : Program} {f : Field} {fs : List Field} {off : Nat} {d1 : Kd α} {d2 : Kd β} {g1 : α → Prop} {g2 : β → Prop} (h1 : Opens P f.type d1 g1) (ho : f.offset = off) (h2 : FOpens P fs (off + d1.sz) d2 g2) : FOpens P (f :: fs) off (Kd.pair d1 d2) (fun x => g1 x.1 ∧ g2 x.2) := ⟨fun {H enc w base sp held fuel cs} hf hl => by
  have hsz : (Kd.pair d1 d2).sz = d1.sz + d2.sz := rfl
  obtain ⟨y1, hy1⟩ := hf 0 f rfl
  rw [ho, ← h1.size] at hy1
  obtain ⟨x1, hk1, hg1⟩ := h1.read hy1
  obtain ⟨x2, hk2, hg2⟩ := h2.read (cs := cs) (fun i g hg => hf (i + 1) g (by simpa using hg)) (by omega)
  refine ⟨(x1, x2), ⟨_, _, ?_, hk1, hk2⟩, hg1, hg2⟩
  rw [← List.drop_drop, List.take_append_drop]⟩
theorem Opens.struct {α : Type} {P : Program} {t : TypeId} {fs : Array Field} {d : Kd α} {good : α → Prop} (ht : P.underlying t = some (.struct fs)) (hs : d.sz = P.cellsOf t) (h : FOpens P fs.toList 0 d good) : Opens P t d good := ⟨hs, fun {H enc w base sp held fuel cs x} hx => by
  obtain ⟨xs, n, _, _, hcl, hxl, hf⟩ := DataW.trod_struct ht hx
  have := h.read (enc := enc) (w := w) (base := base) (sp := sp) (held := held) (fuel := n) (cs := cs) (fun i f hi => by
    rw [Array.getElem?_toList] at hi
    have hlt := (Array.getElem?_eq_some_iff.1 hi).1
    exact ⟨xs[i]'(by omega), by rw [hf i f hi, List.getElem?_eq_getElem]⟩) (by omega)
  simpa using this⟩
def fld (e : TypeId) (off : Nat) : Field := { name := "", type := e, offset := off, embedded := false, tag := "", pkgPath := "", byteOffset := 0 }
theorem Opens.array {α : Type} {P : Program} {t e : TypeId} {n : Nat} {d : Kd α} {good : α → Prop} (c : Nat) (ht : P.underlying t = some (.array n e)) (hs : d.sz = P.cellsOf t) (hc : c = P.cellsOf e) (h : FOpens P ((List.range n).map fun i => fld e (i * c)) 0 d good) : Opens P t d good := ⟨hs, fun {H enc w base sp held fuel cs x} hx => by
  subst hc
  obtain ⟨xs, m, _, _, hcl, hxl, hf⟩ := DataW.trod_array ht hx
  have := h.read (enc := enc) (w := w) (base := base) (sp := sp) (held := held) (fuel := m) (cs := cs) (fun i f hi => by
    rw [List.getElem?_map, Option.map_eq_some_iff] at hi
    obtain ⟨j, hj, rfl⟩ := hi
    have hlt := (List.getElem?_eq_some_iff.1 hj).1
    rw [List.length_range] at hlt
    rw [List.getElem?_range hlt] at hj
    cases hj
    exact ⟨xs[i]'(by omega), (hf i hlt).trans (List.getElem?_eq_getElem (by omega))⟩) (by omega)
  simpa using this⟩
theorem okWide_array {P : Program} {w : World} {r : Reach} {base : Nat} {t e : TypeId} {n : Nat} {v : Value} (ht : P.underlying t = some (.array n e)) (h : Value.okWide P w r base t v) : ∃ cs, v = .agg cs ∧ cs.size = P.cellsOf t := by
  simp only [Value.okWide, ht] at h
  obtain ⟨cs, h1, h2, _⟩ := h
  exact ⟨cs, h1, h2⟩
theorem Opens.iso {α β : Type} {P : Program} {t : TypeId} {d : Kd α} {good : α → Prop} (f : β → α) (g : α → β) (hfg : ∀ x, f (g x) = x) (h : Opens P t d good) : Opens P t (Kd.iso d f) (fun y => good (f y)) := ⟨h.size, fun hx => by
  obtain ⟨y, hk, hg⟩ := h.read hx
  exact ⟨g y, by show d.K _ (f (g y)) _; rw [hfg]; exact hk, by rw [hfg]; exact hg⟩⟩
end Go.Proofs.Ytcnlbbmokphjnaa.Rw
namespace Go.Proofs.Ytcnlbbmokphjnaa.Q
open Go.RowKit Go.Proofs.YtcnlbbmokphjnaaW.PrintWords Go.Proofs.YtcnlbbmokphjnaaW.PrintLast Go.Proofs.YtcnlbbmokphjnaaW.PrintMore
attribute [local go_sem] max2_int min2_int max_two min_two max_three min_three max_four min_four   -- for this text's walks alone
set_option linter.unusedVariables false
set_option linter.unusedSimpArgs false
def walkmillref02_Like.l0 : Nat → List Int → List Int → Int → Option (Bool)
  | 0, _, _, _ => none
  | k + 1, x0, x1, x5 => if x5 < (x0.length : Int) then (if 0 ≤ x5 then (if x5 < (x1.length : Int) then (if (rd x0 x5) = (rd x1 x5) then (walkmillref02_Like.l0 k x0 x1 (wrap64 (x5 + 1))) else (some false)) else (none)) else (none)) else (some true)
def walkmillref02_Like.f (k : Nat) (l0 : List Int) (l1 : List Int) : Option (Bool) := if (l0.length : Int) = (l1.length : Int) then (walkmillref02_Like.l0 k l0 l1 0) else (some false)
theorem walkmillref02_Like.mono_l : ∀ k, (∀ y0 y1 y2, LeO (walkmillref02_Like.l0 k y0 y1 y2) (walkmillref02_Like.l0 (k + 1) y0 y1 y2))
  | 0 => fun _ _ _ r h => by simp [walkmillref02_Like.l0] at h
  | k + 1 => by
    have ih0 := walkmillref02_Like.mono_l k
    · intro y0 y1 y2
      unfold walkmillref02_Like.l0
      repeat' first
      | (with_reducible exact ih0 _ _ _)
      | (with_reducible exact LeO.refl _)
      | (with_reducible exact LeO.none _)
      | (with_reducible refine LeO.ite ?_ ?_)
      | (with_reducible refine LeO.bind ?_ (fun _ => ?_))
      | exact ih0 _ _ _
      | exact LeO.none _
      | refine LeO.ite ?_ ?_
      | refine LeO.bind ?_ (fun _ => ?_)
theorem walkmillref02_Like.mono : ∀ a0 a1 k, LeO (walkmillref02_Like.f k a0 a1) (walkmillref02_Like.f (k + 1) a0 a1) := by
  intro a0 a1 k
  have ih0 := walkmillref02_Like.mono_l k
  unfold walkmillref02_Like.f
  repeat' first
      | (with_reducible exact ih0 _ _ _)
      | (with_reducible exact LeO.refl _)
      | (with_reducible exact LeO.none _)
      | (with_reducible refine LeO.ite ?_ ?_)
      | (with_reducible refine LeO.bind ?_ (fun _ => ?_))
      | exact ih0 _ _ _
      | exact LeO.none _
      | refine LeO.ite ?_ ?_
      | refine LeO.bind ?_ (fun _ => ?_)
set_option maxHeartbeats 8000000 in
set_option maxRecDepth 100000 in
theorem walkmillref02_Like.calls (k : Nat) (A0 : Option Addr) (c0 : Nat) (l0 : List Int) (A1 : Option Addr) (c1 : Nat) (l1 : List Int) (r : Bool) (w : World) (hr0 : Kd.C (Kd.int .i64) w A0 l0.length l0) (hc0 : l0.length ≤ c0) (hr1 : Kd.C (Kd.int .i64) w A1 l1.length l1) (hc1 : l1.length ≤ c1) (h : walkmillref02_Like.f k l0 l1 = some r) :
    Calls Try.prog 23 #[.slice A0 l0.length c0, .slice A1 l1.length c1] w fun e w' => e = .returned (.bool r) ∧ Drawn0 w w' := by
  have HR0 := Aside0.mk hr0
  have HC0 := Aside0.mk hc0
  clear hr0 hc0
  have HR1 := Aside0.mk hr1
  have HC1 := Aside0.mk hc1
  clear hr1 hc1
  have H : (if (l0.length : Int) = (l1.length : Int) then (walkmillref02_Like.l0 k l0 l1 0) else (some false)) = some r := h
  clear h
  by_cases c3 : (l0.length : Int) = (l1.length : Int)
  · rw [if_pos c3] at H
    have c3b0 : ((l0.length : Int) == (l1.length : Int)) = true := beq_iff_eq.mpr c3
    have c3b1 : ((l0.length : Int) != (l1.length : Int)) = false := bne_eq_false_iff_eq.mpr c3
    have c3b2 : (l0.length == l1.length) = true := by first | simpa using c3 | (simp at c3 ⊢; omega)
    clear c3
    have H' := Aside0.mk H
    clear H
    go_enter Try.func23, Try.ntmps23
    go_wp2
    repeat (go_quiet (fail); try go_wp2)
    go_loopg [5] k (fun kq v5 w' => ∃ (x5_1 : Int), v5 = .int .i64 x5_1 ∧ Aside0 (walkmillref02_Like.l0 kq l0 l1 x5_1 = some r) ∧ Aside0 (kq ≤ k) ∧ Drawn0 w w')
    case atStart => exact ⟨(0), (by first | rfl | (simp; done) | (simp [*]; done)), H', ⟨Nat.le_refl _⟩, by repeat (first | exact Drawn0.refl _ | apply Drawn0.step)⟩
    case round =>
      clear H'
      try clear c1
      try clear c2
      try clear p2
      try clear c3
      try clear c3b0
      try clear c3b1
      try clear c3b2
      obtain ⟨x5_1, rfl, HA, HK1, ⟨m1, rfl⟩⟩ := hrel
      cases gk with
      | zero => exact absurd HA.out (by simp [walkmillref02_Like.l0])
      | succ k1 =>
        have H := HA.out
        clear HA
        simp only [walkmillref02_Like.l0] at H
        by_cases c4 : x5_1 < (l0.length : Int)
        · rw [if_pos c4] at H
          have c4b0 : decide (x5_1 < (l0.length : Int)) = true := decide_eq_true c4
          clear c4
          by_cases c5 : 0 ≤ x5_1
          · rw [if_pos c5] at H
            have c5b0 : decide (0 ≤ x5_1) = true := decide_eq_true c5
            clear c5
            by_cases c6 : x5_1 < (l1.length : Int)
            · rw [if_pos c6] at H
              have c6b0 : decide (x5_1 < (l1.length : Int)) = true := decide_eq_true c6
              clear c6
              by_cases c7 : (rd l0 x5_1) = (rd l1 x5_1)
              · rw [if_pos c7] at H
                have c7b0 : ((rd l0 x5_1) == (rd l1 x5_1)) = true := beq_iff_eq.mpr c7
                have c7b1 : ((rd l0 x5_1) != (rd l1 x5_1)) = false := bne_eq_false_iff_eq.mpr c7
                clear c7
                have H' := Aside0.mk H
                clear H
                have p127 : 0 ≤ (x5_1 : Int) := of_decide_eq_true (by first | (with_reducible assumption) | assumption)
                have q127 : x5_1 < (l0.length : Int) := of_decide_eq_true (by first | (with_reducible assumption) | assumption)
                obtain ⟨ad127, e127, hx127_0⟩ := Kd.at_int HR0.out x5_1 p127 q127
                cases e127
                replace p127 := eq_true p127
                replace q127 := eq_true q127
                have p128 : 0 ≤ (x5_1 : Int) := of_decide_eq_true (by first | (with_reducible assumption) | assumption)
                have q128 : x5_1 < (l1.length : Int) := of_decide_eq_true (by first | (with_reducible assumption) | assumption)
                obtain ⟨ad128, e128, hx128_0⟩ := Kd.at_int HR1.out x5_1 p128 q128
                cases e128
                replace p128 := eq_true p128
                replace q128 := eq_true q128
                go_wp2
                repeat (go_quiet (fail); try go_wp2)
                go_roundg k1
                case measure => have := HK1.out; omega
                case rel => exact ⟨(wrap64 (x5_1 + 1)), (by first | rfl | (simp; done) | (simp [*]; done)), H', ⟨by have := HK1.out; omega⟩, by repeat (first | exact Drawn0.refl _ | apply Drawn0.step)⟩
              · rw [if_neg c7] at H
                have c7b0 : ((rd l0 x5_1) == (rd l1 x5_1)) = false := beq_eq_false_iff_ne.mpr c7
                have c7b1 : ((rd l0 x5_1) != (rd l1 x5_1)) = true := bne_iff_ne.mpr c7
                obtain rfl := Option.some.inj H
                have p127 : 0 ≤ (x5_1 : Int) := of_decide_eq_true (by first | (with_reducible assumption) | assumption)
                have q127 : x5_1 < (l0.length : Int) := of_decide_eq_true (by first | (with_reducible assumption) | assumption)
                obtain ⟨ad127, e127, hx127_0⟩ := Kd.at_int HR0.out x5_1 p127 q127
                cases e127
                replace p127 := eq_true p127
                replace q127 := eq_true q127
                have p128 : 0 ≤ (x5_1 : Int) := of_decide_eq_true (by first | (with_reducible assumption) | assumption)
                have q128 : x5_1 < (l1.length : Int) := of_decide_eq_true (by first | (with_reducible assumption) | assumption)
                obtain ⟨ad128, e128, hx128_0⟩ := Kd.at_int HR1.out x5_1 p128 q128
                cases e128
                replace p128 := eq_true p128
                replace q128 := eq_true q128
                go_wp2
                repeat (go_quiet (fail); try go_wp2)
                go_ret
                exact ⟨by first | rfl | (simp; done) | (simp [*]; done), by repeat (first | exact Drawn0.refl _ | apply Drawn0.step)⟩
            · rw [if_neg c6] at H
              exact absurd H (by simp)
          · rw [if_neg c5] at H
            exact absurd H (by simp)
        · rw [if_neg c4] at H
          have c4b0 : decide (x5_1 < (l0.length : Int)) = false := decide_eq_false c4
          clear c4
          obtain rfl := Option.some.inj H
          go_wp2
          repeat (go_quiet (fail); try go_wp2)
          go_ret
          exact ⟨by first | rfl | (simp; done) | (simp [*]; done), by repeat (first | exact Drawn0.refl _ | apply Drawn0.step)⟩
  · rw [if_neg c3] at H
    have c3b0 : ((l0.length : Int) == (l1.length : Int)) = false := beq_eq_false_iff_ne.mpr c3
    have c3b1 : ((l0.length : Int) != (l1.length : Int)) = true := bne_iff_ne.mpr c3
    have c3b2 : (l0.length == l1.length) = false := by first | simpa using c3 | (simp at c3 ⊢; omega)
    obtain rfl := Option.some.inj H
    go_enter Try.func23, Try.ntmps23
    go_wp2
    repeat (go_quiet (fail); try go_wp2)
    go_ret
    exact ⟨by first | rfl | (simp; done) | (simp [*]; done), by repeat (first | exact Drawn0.refl _ | apply Drawn0.step)⟩
end Go.Proofs.Ytcnlbbmokphjnaa.Q
namespace Go.Proofs.Ytcnlbbmokphjnaa.Q
open Go.RowKit Go.Proofs.YtcnlbbmokphjnaaW.PrintWords Go.Proofs.YtcnlbbmokphjnaaW.PrintLast Go.Proofs.YtcnlbbmokphjnaaW.PrintMore
attribute [local go_sem] max2_int min2_int max_two min_two max_three min_three max_four min_four   -- for this text's walks alone
set_option linter.unusedVariables false
set_option linter.unusedSimpArgs false
def walkmillref02_Plan.l0 : Nat → List Int → Int → Int → Int → Int → Int → Int → Int → Int → Int → Int → Option (Bool)
  | 0, _, _, _, _, _, _, _, _, _, _, _ => none
  | k + 1, x1, x2, x3, x9, x130000, x130001, x130002, x130003, x130004, x130005, x130006 => if x9 < (x1.length : Int) then (if 0 ≤ x9 then ((walkmillref02_In.f (rd x1 x9) 0 x130000).bind fun t131 => (if t131 = true then (walkmillref02_Plan.l0 k x1 x2 x3 (wrap64 (x9 + 1)) x130000 x130001 x130002 x130003 x130004 x130005 x130006) else (some false))) else (none)) else ((walkmillref02_In.f (x1.length : Int) x2 x3).bind fun t132 => (some t132))
def walkmillref02_Plan.f (k : Nat) (a0_0 : Int) (a0_1 : Int) (a0_2 : Int) (a0_3 : Int) (a0_4 : Int) (a0_5 : Int) (a0_6 : Int) (l1 : List Int) (a2 : Int) (a3 : Int) : Option (Bool) := walkmillref02_Plan.l0 k l1 a2 a3 0 a0_0 a0_1 a0_2 a0_3 a0_4 a0_5 a0_6
theorem walkmillref02_Plan.mono_l : ∀ k, (∀ y0 y1 y2 y3 y4 y5 y6 y7 y8 y9 y10, LeO (walkmillref02_Plan.l0 k y0 y1 y2 y3 y4 y5 y6 y7 y8 y9 y10) (walkmillref02_Plan.l0 (k + 1) y0 y1 y2 y3 y4 y5 y6 y7 y8 y9 y10))
  | 0 => fun _ _ _ _ _ _ _ _ _ _ _ r h => by simp [walkmillref02_Plan.l0] at h
  | k + 1 => by
    have ih0 := walkmillref02_Plan.mono_l k
    · intro y0 y1 y2 y3 y4 y5 y6 y7 y8 y9 y10
      unfold walkmillref02_Plan.l0
      repeat' first
      | (with_reducible exact ih0 _ _ _ _ _ _ _ _ _ _ _)
      | (with_reducible exact LeO.refl _)
      | (with_reducible exact LeO.none _)
      | (with_reducible refine LeO.ite ?_ ?_)
      | (with_reducible refine LeO.bind ?_ (fun _ => ?_))
      | exact ih0 _ _ _ _ _ _ _ _ _ _ _
      | exact LeO.none _
      | refine LeO.ite ?_ ?_
      | refine LeO.bind ?_ (fun _ => ?_)
theorem walkmillref02_Plan.mono : ∀ a0 a1 a2 a3 a4 a5 a6 a7 a8 a9 k, LeO (walkmillref02_Plan.f k a0 a1 a2 a3 a4 a5 a6 a7 a8 a9) (walkmillref02_Plan.f (k + 1) a0 a1 a2 a3 a4 a5 a6 a7 a8 a9) := by
  intro a0 a1 a2 a3 a4 a5 a6 a7 a8 a9 k
  have ih0 := walkmillref02_Plan.mono_l k
  unfold walkmillref02_Plan.f
  repeat' first
      | (with_reducible exact ih0 _ _ _ _ _ _ _ _ _ _ _)
      | (with_reducible exact LeO.refl _)
      | (with_reducible exact LeO.none _)
      | (with_reducible refine LeO.ite ?_ ?_)
      | (with_reducible refine LeO.bind ?_ (fun _ => ?_))
      | exact ih0 _ _ _ _ _ _ _ _ _ _ _
      | exact LeO.none _
      | refine LeO.ite ?_ ?_
      | refine LeO.bind ?_ (fun _ => ?_)
set_option maxHeartbeats 8000000 in
set_option maxRecDepth 100000 in
theorem walkmillref02_Plan.calls (k : Nat) (a0_0 : Int) (a0_1 : Int) (a0_2 : Int) (a0_3 : Int) (a0_4 : Int) (a0_5 : Int) (a0_6 : Int) (A1 : Option Addr) (c1 : Nat) (l1 : List Int) (a2 : Int) (a3 : Int) (r : Bool) (w : World) (hr1 : Kd.C (Kd.int .i64) w A1 l1.length l1) (hc1 : l1.length ≤ c1) (h : walkmillref02_Plan.f k a0_0 a0_1 a0_2 a0_3 a0_4 a0_5 a0_6 l1 a2 a3 = some r) :
    Calls Try.prog 24 #[.agg #[.int .i64 a0_0, .int .i64 a0_1, .int .i64 a0_2, .int .i64 a0_3, .int .i64 a0_4, .int .i64 a0_5, .int .i64 a0_6], .slice A1 l1.length c1, .int .i64 a2, .int .i64 a3] w fun e w' => e = .returned (.bool r) ∧ Below w.heap.size w w' := by
  have hu25 := Try.underlying25
  have HR1 := Aside0.mk hr1
  have HC1 := Aside0.mk hc1
  clear hr1 hc1
  have HB := Aside0.mk (Below.refl w.heap.size w)
  have H : (walkmillref02_Plan.l0 k l1 a2 a3 0 a0_0 a0_1 a0_2 a0_3 a0_4 a0_5 a0_6) = some r := h
  clear h
  have H' := Aside0.mk H
  clear H
  go_enter Try.func24, Try.ntmps24
  go_wp2_with (first | ((with_reducible refine gate_dst (N := 4) rfl ?_); refine box_event ?hg (N := 4) ?hd (cs := #[.int .i64 a0_0, .int .i64 a0_1, .int .i64 a0_2, .int .i64 a0_3, .int .i64 a0_4, .int .i64 a0_5, .int .i64 a0_6]) (t := 25) ?hr ?_; (case hd => rfl); (case hg => rfl); (case hr => first | (go_simp; done) | (go_simp; rfl)); intro gb129 hg w5 hbox hb; have n0_ := Aside0.mk (below_step (by repeat (first | (with_reducible first | exact HB.out | apply below_alloc | apply pw_below_drewN | apply below_drew1) | exact HB.out)) hb); have n1_ := Aside0.mk (hbox); have n2_ := Aside0.mk ((by rw [hg]; exact (below_size (by repeat (first | (with_reducible first | exact HB.out | apply below_alloc | apply pw_below_drewN | apply below_drew1) | exact HB.out))) : w.heap.size ≤ gb129)); have n3_ := Aside0.mk ((by rw [hg]; exact (below_size (by repeat (first | (with_reducible first | exact HB.out | apply below_alloc | apply pw_below_drewN | apply below_drew1) | exact HB.out))) : w.heap.size ≤ gb129)); clear HB; have HB := n0_; have BK129 := n1_; have GW129 := n2_; have GE129 := n3_; clear n0_ n1_ n2_ n3_; clear hb hbox hg))
  repeat (go_quiet (first | ((with_reducible refine gate_dst (N := 4) rfl ?_); refine box_event ?hg (N := 4) ?hd (cs := #[.int .i64 a0_0, .int .i64 a0_1, .int .i64 a0_2, .int .i64 a0_3, .int .i64 a0_4, .int .i64 a0_5, .int .i64 a0_6]) (t := 25) ?hr ?_; (case hd => rfl); (case hg => rfl); (case hr => first | (go_simp; done) | (go_simp; rfl)); intro gb129 hg w5 hbox hb; have n0_ := Aside0.mk (below_step (by repeat (first | (with_reducible first | exact HB.out | apply below_alloc | apply pw_below_drewN | apply below_drew1) | exact HB.out)) hb); have n1_ := Aside0.mk (hbox); have n2_ := Aside0.mk ((by rw [hg]; exact (below_size (by repeat (first | (with_reducible first | exact HB.out | apply below_alloc | apply pw_below_drewN | apply below_drew1) | exact HB.out))) : w.heap.size ≤ gb129)); have n3_ := Aside0.mk ((by rw [hg]; exact (below_size (by repeat (first | (with_reducible first | exact HB.out | apply below_alloc | apply pw_below_drewN | apply below_drew1) | exact HB.out))) : w.heap.size ≤ gb129)); clear HB; have HB := n0_; have BK129 := n1_; have GW129 := n2_; have GE129 := n3_; clear n0_ n1_ n2_ n3_; clear hb hbox hg)); try go_wp2_with (first | ((with_reducible refine gate_dst (N := 4) rfl ?_); refine box_event ?hg (N := 4) ?hd (cs := #[.int .i64 a0_0, .int .i64 a0_1, .int .i64 a0_2, .int .i64 a0_3, .int .i64 a0_4, .int .i64 a0_5, .int .i64 a0_6]) (t := 25) ?hr ?_; (case hd => rfl); (case hg => rfl); (case hr => first | (go_simp; done) | (go_simp; rfl)); intro gb129 hg w5 hbox hb; have n0_ := Aside0.mk (below_step (by repeat (first | (with_reducible first | exact HB.out | apply below_alloc | apply pw_below_drewN | apply below_drew1) | exact HB.out)) hb); have n1_ := Aside0.mk (hbox); have n2_ := Aside0.mk ((by rw [hg]; exact (below_size (by repeat (first | (with_reducible first | exact HB.out | apply below_alloc | apply pw_below_drewN | apply below_drew1) | exact HB.out))) : w.heap.size ≤ gb129)); have n3_ := Aside0.mk ((by rw [hg]; exact (below_size (by repeat (first | (with_reducible first | exact HB.out | apply below_alloc | apply pw_below_drewN | apply below_drew1) | exact HB.out))) : w.heap.size ≤ gb129)); clear HB; have HB := n0_; have BK129 := n1_; have GW129 := n2_; have GE129 := n3_; clear n0_ n1_ n2_ n3_; clear hb hbox hg)))
  go_loopg [9] k (fun kq v9 w' => ∃ (x9_1 : Int), v9 = .int .i64 x9_1 ∧ Aside0 (walkmillref02_Plan.l0 kq l1 a2 a3 x9_1 a0_0 a0_1 a0_2 a0_3 a0_4 a0_5 a0_6 = some r) ∧ Aside0 (kq ≤ k) ∧ Aside0 (w'.heap[gb129]? = some (.cells #[.int .i64 a0_0, .int .i64 a0_1, .int .i64 a0_2, .int .i64 a0_3, .int .i64 a0_4, .int .i64 a0_5, .int .i64 a0_6] 25 (0, 0))) ∧ Aside0 (Below w.heap.size w w'))
  case atStart => exact ⟨(0), (by first | rfl | (simp; done) | (simp [*]; done)), H', ⟨Nat.le_refl _⟩, ⟨by (with_reducible repeat (first | refine blk_drewN ?_ _ | refine blk_drew ?_ | refine blk_alloc ?_ _)); exact BK129.out⟩, ⟨by repeat (first | (with_reducible first | exact HB.out | apply below_alloc | apply pw_below_drewN | apply below_drew1 | refine below_set ?_ GE129.out) | exact HB.out)⟩⟩
  case round =>
    clear H'
    try clear c1
    try clear c2
    try clear p2
    obtain ⟨x9_1, rfl, HA, HK1, BK129, HB⟩ := hrel
    cases gk with
    | zero => exact absurd HA.out (by simp [walkmillref02_Plan.l0])
    | succ k1 =>
      have H := HA.out
      clear HA
      simp only [walkmillref02_Plan.l0] at H
      by_cases c6 : x9_1 < (l1.length : Int)
      · rw [if_pos c6] at H
        have c6b0 : decide (x9_1 < (l1.length : Int)) = true := decide_eq_true c6
        clear c6
        by_cases c7 : 0 ≤ x9_1
        · rw [if_pos c7] at H
          have c7b0 : decide (0 ≤ x9_1) = true := decide_eq_true c7
          clear c7
          replace H := Option.bind_eq_some_iff.mp H
          obtain ⟨t131, A80, H⟩ := H
          replace H : (if t131 = true then (walkmillref02_Plan.l0 k1 l1 a2 a3 (wrap64 (x9_1 + 1)) a0_0 a0_1 a0_2 a0_3 a0_4 a0_5 a0_6) else (some false)) = some r := H
          have A8 := Aside0.mk A80
          clear A80
          by_cases c9 : t131 = true
          · subst c9
            have H1 : (walkmillref02_Plan.l0 k1 l1 a2 a3 (wrap64 (x9_1 + 1)) a0_0 a0_1 a0_2 a0_3 a0_4 a0_5 a0_6) = some r := by rw [if_pos rfl] at H; exact H
            clear H
            have H := H1
            clear H1
            have H' := Aside0.mk H
            clear H
            have p130 : 0 ≤ (x9_1 : Int) := of_decide_eq_true (by first | (with_reducible assumption) | assumption)
            have q130 : x9_1 < (l1.length : Int) := of_decide_eq_true (by first | (with_reducible assumption) | assumption)
            obtain ⟨ad130, e130, hx130_0⟩ := Kd.at_int HR1.out x9_1 p130 q130
            cases e130
            replace hx130_0 := (HB.out.cell (World.block_lt_of_cell? w _ hx130_0)).trans hx130_0
            replace p130 := eq_true p130
            replace q130 := eq_true q130
            have hcz10_0 : wr.cell? ⟨gb129, 0, none⟩ = some (.int .i64 a0_0) := (blk_cell BK129.out 0).trans rfl
            have hcz10_1 : wr.cell? ⟨gb129, 1, none⟩ = some (.int .i64 a0_1) := (blk_cell BK129.out 1).trans rfl
            have hcz10_2 : wr.cell? ⟨gb129, 2, none⟩ = some (.int .i64 a0_2) := (blk_cell BK129.out 2).trans rfl
            have hcz10_3 : wr.cell? ⟨gb129, 3, none⟩ = some (.int .i64 a0_3) := (blk_cell BK129.out 3).trans rfl
            have hcz10_4 : wr.cell? ⟨gb129, 4, none⟩ = some (.int .i64 a0_4) := (blk_cell BK129.out 4).trans rfl
            have hcz10_5 : wr.cell? ⟨gb129, 5, none⟩ = some (.int .i64 a0_5) := (blk_cell BK129.out 5).trans rfl
            have hcz10_6 : wr.cell? ⟨gb129, 6, none⟩ = some (.int .i64 a0_6) := (blk_cell BK129.out 6).trans rfl
            have hfz10_0 := blk_frozen BK129.out 0
            have hfz10_1 := blk_frozen BK129.out 1
            have hfz10_2 := blk_frozen BK129.out 2
            have hfz10_3 := blk_frozen BK129.out 3
            have hfz10_4 := blk_frozen BK129.out 4
            have hfz10_5 := blk_frozen BK129.out 5
            have hfz10_6 := blk_frozen BK129.out 6
            go_wp2_with (first | (go_at_call 34; (with_reducible refine (walkmillref02_In.calls (rd l1 x9_1) 0 a0_0 true _ A8.out).mono ?_); rintro e w' ⟨rfl, ⟨nd, rfl⟩⟩; (try first | exact ⟨rfl, _, World.drewN_drewN _ _ _⟩ | exact ⟨rfl, _, Eq.trans (World.drewN_drewN _ _ _) (congrArg (World.drewN _) (Nat.add_assoc _ _ _))⟩)))
            repeat (go_quiet (first | (go_at_call 34; (with_reducible refine (walkmillref02_In.calls (rd l1 x9_1) 0 a0_0 true _ A8.out).mono ?_); rintro e w' ⟨rfl, ⟨nd, rfl⟩⟩; (try first | exact ⟨rfl, _, World.drewN_drewN _ _ _⟩ | exact ⟨rfl, _, Eq.trans (World.drewN_drewN _ _ _) (congrArg (World.drewN _) (Nat.add_assoc _ _ _))⟩))); try go_wp2_with (first | (go_at_call 34; (with_reducible refine (walkmillref02_In.calls (rd l1 x9_1) 0 a0_0 true _ A8.out).mono ?_); rintro e w' ⟨rfl, ⟨nd, rfl⟩⟩; (try first | exact ⟨rfl, _, World.drewN_drewN _ _ _⟩ | exact ⟨rfl, _, Eq.trans (World.drewN_drewN _ _ _) (congrArg (World.drewN _) (Nat.add_assoc _ _ _))⟩))))
            go_roundg k1
            case measure => have := HK1.out; omega
            case rel => exact ⟨(wrap64 (x9_1 + 1)), (by first | rfl | (simp; done) | (simp [*]; done)), H', ⟨by have := HK1.out; omega⟩, ⟨by (with_reducible repeat (first | refine blk_drewN ?_ _ | refine blk_drew ?_ | refine blk_alloc ?_ _)); exact BK129.out⟩, ⟨by repeat (first | (with_reducible first | exact HB.out | apply below_alloc | apply pw_below_drewN | apply below_drew1 | refine below_set ?_ GE129.out) | exact HB.out)⟩⟩
          · replace c9 := Bool.eq_false_iff.mpr c9
            subst c9
            have H1 : (some false) = some r := by rw [if_neg (show ¬ (false = true) by decide)] at H; exact H
            clear H
            have H := H1
            clear H1
            obtain rfl := Option.some.inj H
            have p130 : 0 ≤ (x9_1 : Int) := of_decide_eq_true (by first | (with_reducible assumption) | assumption)
            have q130 : x9_1 < (l1.length : Int) := of_decide_eq_true (by first | (with_reducible assumption) | assumption)
            obtain ⟨ad130, e130, hx130_0⟩ := Kd.at_int HR1.out x9_1 p130 q130
            cases e130
            replace hx130_0 := (HB.out.cell (World.block_lt_of_cell? w _ hx130_0)).trans hx130_0
            replace p130 := eq_true p130
            replace q130 := eq_true q130
            have hcz11_0 : wr.cell? ⟨gb129, 0, none⟩ = some (.int .i64 a0_0) := (blk_cell BK129.out 0).trans rfl
            have hcz11_1 : wr.cell? ⟨gb129, 1, none⟩ = some (.int .i64 a0_1) := (blk_cell BK129.out 1).trans rfl
            have hcz11_2 : wr.cell? ⟨gb129, 2, none⟩ = some (.int .i64 a0_2) := (blk_cell BK129.out 2).trans rfl
            have hcz11_3 : wr.cell? ⟨gb129, 3, none⟩ = some (.int .i64 a0_3) := (blk_cell BK129.out 3).trans rfl
            have hcz11_4 : wr.cell? ⟨gb129, 4, none⟩ = some (.int .i64 a0_4) := (blk_cell BK129.out 4).trans rfl
            have hcz11_5 : wr.cell? ⟨gb129, 5, none⟩ = some (.int .i64 a0_5) := (blk_cell BK129.out 5).trans rfl
            have hcz11_6 : wr.cell? ⟨gb129, 6, none⟩ = some (.int .i64 a0_6) := (blk_cell BK129.out 6).trans rfl
            have hfz11_0 := blk_frozen BK129.out 0
            have hfz11_1 := blk_frozen BK129.out 1
            have hfz11_2 := blk_frozen BK129.out 2
            have hfz11_3 := blk_frozen BK129.out 3
            have hfz11_4 := blk_frozen BK129.out 4
            have hfz11_5 := blk_frozen BK129.out 5
            have hfz11_6 := blk_frozen BK129.out 6
            go_wp2_with (first | (go_at_call 34; (with_reducible refine (walkmillref02_In.calls (rd l1 x9_1) 0 a0_0 false _ A8.out).mono ?_); rintro e w' ⟨rfl, ⟨nd, rfl⟩⟩; (try first | exact ⟨rfl, _, World.drewN_drewN _ _ _⟩ | exact ⟨rfl, _, Eq.trans (World.drewN_drewN _ _ _) (congrArg (World.drewN _) (Nat.add_assoc _ _ _))⟩)))
            repeat (go_quiet (first | (go_at_call 34; (with_reducible refine (walkmillref02_In.calls (rd l1 x9_1) 0 a0_0 false _ A8.out).mono ?_); rintro e w' ⟨rfl, ⟨nd, rfl⟩⟩; (try first | exact ⟨rfl, _, World.drewN_drewN _ _ _⟩ | exact ⟨rfl, _, Eq.trans (World.drewN_drewN _ _ _) (congrArg (World.drewN _) (Nat.add_assoc _ _ _))⟩))); try go_wp2_with (first | (go_at_call 34; (with_reducible refine (walkmillref02_In.calls (rd l1 x9_1) 0 a0_0 false _ A8.out).mono ?_); rintro e w' ⟨rfl, ⟨nd, rfl⟩⟩; (try first | exact ⟨rfl, _, World.drewN_drewN _ _ _⟩ | exact ⟨rfl, _, Eq.trans (World.drewN_drewN _ _ _) (congrArg (World.drewN _) (Nat.add_assoc _ _ _))⟩))))
            go_ret
            exact ⟨by first | rfl | (simp [errW_none, errW_some] <;> rfl) | (simp [*, errW_none, errW_some] <;> rfl), by repeat (first | (with_reducible first | exact HB.out | apply below_alloc | apply pw_below_drewN | apply below_drew1 | refine below_set ?_ GE129.out) | exact HB.out)⟩
        · rw [if_neg c7] at H
          exact absurd H (by simp)
      · rw [if_neg c6] at H
        have c6b0 : decide (x9_1 < (l1.length : Int)) = false := decide_eq_false c6
        clear c6
        replace H := Option.bind_eq_some_iff.mp H
        obtain ⟨t132, A120, H⟩ := H
        replace H : (some t132) = some r := H
        have A12 := Aside0.mk A120
        clear A120
        obtain rfl := Option.some.inj H
        go_wp2_with (first | (go_at_call 34; (with_reducible refine (walkmillref02_In.calls (l1.length : Int) a2 a3 t132 _ A12.out).mono ?_); rintro e w' ⟨rfl, ⟨nd, rfl⟩⟩; (try first | exact ⟨rfl, _, World.drewN_drewN _ _ _⟩ | exact ⟨rfl, _, Eq.trans (World.drewN_drewN _ _ _) (congrArg (World.drewN _) (Nat.add_assoc _ _ _))⟩)))
        repeat (go_quiet (first | (go_at_call 34; (with_reducible refine (walkmillref02_In.calls (l1.length : Int) a2 a3 t132 _ A12.out).mono ?_); rintro e w' ⟨rfl, ⟨nd, rfl⟩⟩; (try first | exact ⟨rfl, _, World.drewN_drewN _ _ _⟩ | exact ⟨rfl, _, Eq.trans (World.drewN_drewN _ _ _) (congrArg (World.drewN _) (Nat.add_assoc _ _ _))⟩))); try go_wp2_with (first | (go_at_call 34; (with_reducible refine (walkmillref02_In.calls (l1.length : Int) a2 a3 t132 _ A12.out).mono ?_); rintro e w' ⟨rfl, ⟨nd, rfl⟩⟩; (try first | exact ⟨rfl, _, World.drewN_drewN _ _ _⟩ | exact ⟨rfl, _, Eq.trans (World.drewN_drewN _ _ _) (congrArg (World.drewN _) (Nat.add_assoc _ _ _))⟩))))
        go_ret
        exact ⟨by first | rfl | (simp [errW_none, errW_some] <;> rfl) | (simp [*, errW_none, errW_some] <;> rfl), by repeat (first | (with_reducible first | exact HB.out | apply below_alloc | apply pw_below_drewN | apply below_drew1 | refine below_set ?_ GE129.out) | exact HB.out)⟩
end Go.Proofs.Ytcnlbbmokphjnaa.Q
namespace Go.Proofs.Ytcnlbbmokphjnaa.Q
open Go.RowKit Go.Proofs.YtcnlbbmokphjnaaW.PrintWords Go.Proofs.YtcnlbbmokphjnaaW.PrintLast Go.Proofs.YtcnlbbmokphjnaaW.PrintMore
attribute [local go_sem] max2_int min2_int max_two min_two max_three min_three max_four min_four   -- for this text's walks alone
set_option linter.unusedVariables false
set_option linter.unusedSimpArgs false
def stream_Blows.f (a0_0 : Int) (a0_1 : Int) (a0_2 : Int) (a0_3 : Int) (a0_4 : Int) (a0_5 : Int) (a0_6 : Int) (l1 : List Int) : Option (Int × Int × Int) := some ((blowsS ⟨a0_0, a0_1, a0_2, a0_3, a0_4, a0_5, a0_6⟩ l1).lo, (blowsS ⟨a0_0, a0_1, a0_2, a0_3, a0_4, a0_5, a0_6⟩ l1).hi, blowsE ⟨a0_0, a0_1, a0_2, a0_3, a0_4, a0_5, a0_6⟩ l1)
theorem stream_Blows.calls (a0_0 : Int) (a0_1 : Int) (a0_2 : Int) (a0_3 : Int) (a0_4 : Int) (a0_5 : Int) (a0_6 : Int) (A1 : Option Addr) (c1 : Nat) (l1 : List Int) (r1 : Int) (r2 : Int) (r3 : Int) (w : World) (hr1 : Kd.C (Kd.int .i64) w A1 l1.length l1) (hc1 : l1.length ≤ c1) (h : stream_Blows.f a0_0 a0_1 a0_2 a0_3 a0_4 a0_5 a0_6 l1 = some (r1, r2, r3)) :
    Calls Try.prog 27 #[.agg #[.int .i64 a0_0, .int .i64 a0_1, .int .i64 a0_2, .int .i64 a0_3, .int .i64 a0_4, .int .i64 a0_5, .int .i64 a0_6], .slice A1 l1.length c1] w fun e w' => e = .returned (.tuple #[.agg #[.int .i64 r1, .int .i64 r2], .int .i64 r3]) ∧ Below w.heap.size w w' := by
  simp only [stream_Blows.f, Option.some.injEq, Prod.mk.injEq] at h
  obtain ⟨rfl, rfl, rfl⟩ := h
  exact blowsF_ ⟨a0_0, a0_1, a0_2, a0_3, a0_4, a0_5, a0_6⟩ A1 c1 l1 w hr1 hc1
def walkmillref02_Sum.l0 : Nat → List Int → Int → Int → Option (Int)
  | 0, _, _, _ => none
  | k + 1, x0, x3, x4 => if x4 < (x0.length : Int) then (if 0 ≤ x4 then (walkmillref02_Sum.l0 k x0 (wrap64 (x3 + (rd x0 x4))) (wrap64 (x4 + 1))) else (none)) else (some x3)
def walkmillref02_Sum.f (k : Nat) (l0 : List Int) : Option (Int) := walkmillref02_Sum.l0 k l0 0 0
theorem walkmillref02_Sum.mono_l : ∀ k, (∀ y0 y1 y2, LeO (walkmillref02_Sum.l0 k y0 y1 y2) (walkmillref02_Sum.l0 (k + 1) y0 y1 y2))
  | 0 => fun _ _ _ r h => by simp [walkmillref02_Sum.l0] at h
  | k + 1 => by
    have ih0 := walkmillref02_Sum.mono_l k
    · intro y0 y1 y2
      unfold walkmillref02_Sum.l0
      repeat' first
      | (with_reducible exact ih0 _ _ _)
      | (with_reducible exact LeO.refl _)
      | (with_reducible exact LeO.none _)
      | (with_reducible refine LeO.ite ?_ ?_)
      | (with_reducible refine LeO.bind ?_ (fun _ => ?_))
      | exact ih0 _ _ _
      | exact LeO.none _
      | refine LeO.ite ?_ ?_
      | refine LeO.bind ?_ (fun _ => ?_)
theorem walkmillref02_Sum.mono : ∀ a0 k, LeO (walkmillref02_Sum.f k a0) (walkmillref02_Sum.f (k + 1) a0) := by
  intro a0 k
  have ih0 := walkmillref02_Sum.mono_l k
  unfold walkmillref02_Sum.f
  repeat' first
      | (with_reducible exact ih0 _ _ _)
      | (with_reducible exact LeO.refl _)
      | (with_reducible exact LeO.none _)
      | (with_reducible refine LeO.ite ?_ ?_)
      | (with_reducible refine LeO.bind ?_ (fun _ => ?_))
      | exact ih0 _ _ _
      | exact LeO.none _
      | refine LeO.ite ?_ ?_
      | refine LeO.bind ?_ (fun _ => ?_)
set_option maxHeartbeats 8000000 in
set_option maxRecDepth 100000 in
theorem walkmillref02_Sum.calls (k : Nat) (A0 : Option Addr) (c0 : Nat) (l0 : List Int) (r : Int) (w : World) (hr0 : Kd.C (Kd.int .i64) w A0 l0.length l0) (hc0 : l0.length ≤ c0) (h : walkmillref02_Sum.f k l0 = some r) :
    Calls Try.prog 29 #[.slice A0 l0.length c0] w fun e w' => e = .returned (.int .i64 r) ∧ Drawn0 w w' := by
  have HR0 := Aside0.mk hr0
  have HC0 := Aside0.mk hc0
  clear hr0 hc0
  have H : (walkmillref02_Sum.l0 k l0 0 0) = some r := h
  clear h
  have H' := Aside0.mk H
  clear H
  go_enter Try.func29, Try.ntmps29
  go_wp2
  go_loopg [3, 4] k (fun kq v3 v4 w' => ∃ (x3_1 : Int) (x4_1 : Int), v3 = .int .i64 x3_1 ∧ v4 = .int .i64 x4_1 ∧ Aside0 (walkmillref02_Sum.l0 kq l0 x3_1 x4_1 = some r) ∧ Aside0 (kq ≤ k) ∧ Drawn0 w w')
  case atStart => exact ⟨(0), (0), (by first | rfl | (simp; done) | (simp [*]; done)), (by first | rfl | (simp; done) | (simp [*]; done)), H', ⟨Nat.le_refl _⟩, by repeat (first | exact Drawn0.refl _ | apply Drawn0.step)⟩
  case round =>
    clear H'
    obtain ⟨x3_1, x4_1, rfl, rfl, HA, HK1, ⟨m1, rfl⟩⟩ := hrel
    cases gk with
    | zero => exact absurd HA.out (by simp [walkmillref02_Sum.l0])
    | succ k1 =>
      have H := HA.out
      clear HA
      simp only [walkmillref02_Sum.l0] at H
      by_cases c2 : x4_1 < (l0.length : Int)
      · rw [if_pos c2] at H
        have c2b0 : decide (x4_1 < (l0.length : Int)) = true := decide_eq_true c2
        clear c2
        by_cases c3 : 0 ≤ x4_1
        · rw [if_pos c3] at H
          have c3b0 : decide (0 ≤ x4_1) = true := decide_eq_true c3
          clear c3
          have H' := Aside0.mk H
          clear H
          have p222 : 0 ≤ (x4_1 : Int) := of_decide_eq_true (by first | (with_reducible assumption) | assumption)
          have q222 : x4_1 < (l0.length : Int) := of_decide_eq_true (by first | (with_reducible assumption) | assumption)
          obtain ⟨ad222, e222, hx222_0⟩ := Kd.at_int HR0.out x4_1 p222 q222
          cases e222
          replace p222 := eq_true p222
          replace q222 := eq_true q222
          go_wp2
          go_roundg k1
          case measure => have := HK1.out; omega
          case rel => exact ⟨(wrap64 (x3_1 + (rd l0 x4_1))), (wrap64 (x4_1 + 1)), (by first | rfl | (simp; done) | (simp [*]; done)), (by first | rfl | (simp; done) | (simp [*]; done)), H', ⟨by have := HK1.out; omega⟩, by repeat (first | exact Drawn0.refl _ | apply Drawn0.step)⟩
        · rw [if_neg c3] at H
          exact absurd H (by simp)
      · rw [if_neg c2] at H
        have c2b0 : decide (x4_1 < (l0.length : Int)) = false := decide_eq_false c2
        clear c2
        obtain rfl := Option.some.inj H
        go_wp2
        go_ret
        exact ⟨by first | rfl | (simp; done) | (simp [*]; done), by repeat (first | exact Drawn0.refl _ | apply Drawn0.step)⟩
def walkmilllaw02_span.f (a0 : Int) (a1 : Int) : Option (Int × Int) := some (a0, a1)
set_option maxHeartbeats 8000000 in
set_option maxRecDepth 100000 in
theorem walkmilllaw02_span.calls (a0 : Int) (a1 : Int) (r1 : Int) (r2 : Int) (w : World) (h : walkmilllaw02_span.f a0 a1 = some (r1, r2)) :
    Calls Try.prog 30 #[.int .i64 a0, .int .i64 a1] w fun e w' => e = .returned (.agg #[.int .i64 r1, .int .i64 r2]) ∧ Below w.heap.size w w' := by
  have hu23 := Try.underlying23
  have HB := Aside0.mk (Below.refl w.heap.size w)
  have H : (some (a0, a1)) = some (r1, r2) := h
  clear h
  simp only [Option.some.injEq, Prod.mk.injEq] at H
  obtain ⟨rfl, rfl⟩ := H
  go_enter Try.func30, Try.ntmps30
  go_wp2_with (first | ((with_reducible refine gate_dst (N := 4) rfl ?_); refine box_event ?hg (N := 4) ?hd (cs := #[.int .i64 0, .int .i64 0]) (t := 23) ?hr ?_; (case hd => rfl); (case hg => rfl); (case hr => first | (go_simp; done) | (go_simp; rfl)); intro gb223 hg w3 hbox hb; have n0_ := Aside0.mk (below_step (by repeat (first | (with_reducible first | exact HB.out | apply below_alloc | apply pw_below_drewN | apply below_drew1) | exact HB.out)) hb); have n1_ := Aside0.mk (hbox); have n2_ := Aside0.mk ((by rw [hg]; exact (below_size (by repeat (first | (with_reducible first | exact HB.out | apply below_alloc | apply pw_below_drewN | apply below_drew1) | exact HB.out))) : w.heap.size ≤ gb223)); have n3_ := Aside0.mk ((by rw [hg]; exact (below_size (by repeat (first | (with_reducible first | exact HB.out | apply below_alloc | apply pw_below_drewN | apply below_drew1) | exact HB.out))) : w.heap.size ≤ gb223)); clear HB; have HB := n0_; have BK223 := n1_; have GW223 := n2_; have GE223 := n3_; clear n0_ n1_ n2_ n3_; clear hb hbox hg; have hcz4_0 : w3.cell? ⟨gb223, 0, none⟩ = some (.int .i64 0) := (blk_cell BK223.out 0).trans rfl; have hcz4_1 : w3.cell? ⟨gb223, 1, none⟩ = some (.int .i64 0) := (blk_cell BK223.out 1).trans rfl; have hfz4_0 := blk_frozen BK223.out 0; have hfz4_1 := blk_frozen BK223.out 1))
  refine bodyPost_ret (results_cell_row rfl _ _ gb223 23 #[.int .i64 a0, .int .i64 a1] (0, 0) _ rfl (by (with_reducible repeat (first | refine blk_drewN ?_ _ | refine blk_drew ?_ | refine blk_alloc ?_ _)); refine blk_put (cs := #[.int .i64 a0, .int .i64 0]) ?_ 1 _ rfl; (with_reducible repeat (first | refine blk_drewN ?_ _ | refine blk_drew ?_ | refine blk_alloc ?_ _)); refine blk_put (cs := #[.int .i64 0, .int .i64 0]) ?_ 0 _ rfl; (with_reducible repeat (first | refine blk_drewN ?_ _ | refine blk_drew ?_ | refine blk_alloc ?_ _)); exact BK223.out) Try.underlying23 rfl (by kernel_rfl)) rfl ?_
  exact ⟨by first | rfl | (simp [errW_none, errW_some] <;> rfl) | (simp [*, errW_none, errW_some] <;> rfl), by repeat (first | (with_reducible first | exact HB.out | apply below_alloc | apply pw_below_drewN | apply below_drew1 | refine below_set ?_ GE223.out) | exact HB.out)⟩
end Go.Proofs.Ytcnlbbmokphjnaa.Q
namespace Go.Proofs.Ytcnlbbmokphjnaa.Q
open Go.RowKit Go.Proofs.YtcnlbbmokphjnaaW.PrintWords
set_option linter.unusedVariables false
set_option linter.unusedSimpArgs false
theorem Ev.up {α : Type} {g : Nat → Option α} {r : α} (h : Ev (fun k => g (k + 1)) r) : Ev g r := by
  obtain ⟨K, hK⟩ := h
  refine ⟨K + 1, fun k hk => ?_⟩
  obtain ⟨m, rfl⟩ : ∃ m, k = m + 1 := ⟨k - 1, by omega⟩
  exact hK m (by omega)
theorem wr {x : Int} (h : -9223372036854775808 ≤ x ∧ x ≤ 9223372036854775807) : wrap64 x = x := by unfold wrap64; omega
theorem wi (i : Nat) (h : i ≤ 100000) : wrap64 ((i : Int) + 1) = ((i + 1 : Nat) : Int) := by rw [wr (by omega)]; omega
theorem rd23 (l : List S23) (i : Nat) (h : i < l.length) : rd_T23 l (i : Int) = l[i] := by simp [rd_T23, h]
theorem rdI (l : List Int) (i : Nat) (h : i < l.length) : rd l (i : Int) = l[i] := by simp [rd, h]
theorem toSp_drop (l : List S23) (i : Nat) (h : i < l.length) : (toSp l).drop i = ⟨(l[i]).f0, (l[i]).f1⟩ :: (toSp l).drop (i + 1) := by
  rw [List.drop_eq_getElem_cons (by rw [toSp_len]; exact h)]
  simp [toSp]
theorem toSp_inj {a b : List S23} (h : toSp a = toSp b) : a = b := by
  have h2 := congrArg ofSp h
  simpa [toSp, ofSp, Function.comp_def] using h2
instance : DecidableEq S23 := fun a b => if h : a.f0 = b.f0 ∧ a.f1 = b.f1 then isTrue (by cases a; cases b; simp_all) else isFalse (by rintro rfl; exact h ⟨rfl, rfl⟩)
theorem drop_dec {α : Type} [DecidableEq α] (a b : List α) (i : Nat) (ha : i < a.length) (hb : i < b.length) : decide (a.drop i = b.drop i) = (decide (a[i] = b[i]) && decide (a.drop (i + 1) = b.drop (i + 1))) := by
  rw [List.drop_eq_getElem_cons ha, List.drop_eq_getElem_cons hb, Bool.eq_iff_iff]
  simp only [decide_eq_true_eq, Bool.and_eq_true, List.cons.injEq]
theorem Copy_f (l : List S23) (h : l.length ≤ 1000) : walkmillref02_Copy.f l = some l := by
  simp only [walkmillref02_Copy.f, Option.bind_some, List.length_nil, Nat.zero_add, List.nil_append]
  rw [if_pos (by omega)]
theorem Ints_f (l : List Int) (h : l.length ≤ 1000) : walkmillref02_Ints.f l = some l := by
  simp only [walkmillref02_Ints.f, Option.bind_some, List.length_nil, Nat.zero_add, List.nil_append]
  rw [if_pos (by omega)]
theorem In_f (a b c : Int) : walkmillref02_In.f a b c = some (inB b c [a]) := by
  have e : inB b c [a] = (decide (b ≤ a) && decide (a ≤ c)) := by
    rw [Bool.eq_iff_iff, inB_iff]
    simp
  rw [e]
  unfold walkmillref02_In.f
  split <;> simp_all <;> omega
theorem Span_f (a b lo hi : Int) : walkmillref02_Span.f a b lo hi = some (isSpanB a b lo hi) := by
  have e : isSpanB a b lo hi = (inB lo b [a] && decide (b ≤ hi)) := by
    rw [Bool.eq_iff_iff, isSpanB_iff]
    simp [inB_iff]
    omega
  rw [e]
  unfold walkmillref02_Span.f
  rw [In_f, Option.bind_some]
  split <;> simp_all
theorem Mill_f (a0 a1 a2 a3 a4 a5 a6 : Int) : walkmillref02_Mill.f a0 a1 a2 a3 a4 a5 a6 = some (millE ⟨a0, a1, a2, a3, a4, a5, a6⟩) := by
  unfold walkmillref02_Mill.f millE millB
  simp only [In_f, Span_f, Option.bind_some]
  repeat' split
  all_goals simp_all
theorem Check_l0 (l : List S23) (hl : l.length ≤ 1000) : ∀ (d i : Nat), i + d = l.length → Ev (fun k => walkmillref02_Check.l0 k l (i : Int)) (if ((toSp l).drop i).any badSp then 3 else 0)
  | 0, i, h => by
    refine Ev.up ?_
    simp only [walkmillref02_Check.l0, if_neg (show ¬ (i : Int) < (l.length : Int) by omega)]
    rw [List.drop_eq_nil_of_le (by rw [toSp_len]; omega)]
    exact Ev.now 0
  | d + 1, i, h => by
    refine Ev.up ?_
    simp only [walkmillref02_Check.l0, if_pos (show (i : Int) < (l.length : Int) by omega), if_pos (show (0 : Int) ≤ (i : Int) by omega), Span_f, Option.bind_some, wi i (by omega), rd23 l i (by omega)]
    rw [toSp_drop l i (by omega), List.any_cons]
    have hb : badSp ⟨l[i].f0, l[i].f1⟩ = !isSpanB l[i].f0 l[i].f1 0 500 := rfl
    rw [hb]
    cases isSpanB l[i].f0 l[i].f1 0 500
    · simpa using Ev.now 3
    · simpa using Check_l0 l hl d (i + 1) (by omega)
theorem Check_f (a0 a1 a2 a3 a4 a5 a6 : Int) (l : List S23) (hl : l.length ≤ 1000) : Ev (fun k => walkmillref02_Check.f k a0 a1 a2 a3 a4 a5 a6 l) (checkE ⟨a0, a1, a2, a3, a4, a5, a6⟩ (toSp l)) := by
  simp only [walkmillref02_Check.f, Mill_f, Option.bind_some, checkE, toSp_len]
  by_cases h0 : millE ⟨a0, a1, a2, a3, a4, a5, a6⟩ = 0
  · simp only [if_pos h0]
    by_cases h1 : l.length > 24
    · simp only [if_pos h1, if_pos (show (l.length : Int) > 24 by omega)]
      exact Ev.now 5
    · simp only [if_neg h1, if_neg (show ¬ (l.length : Int) > 24 by omega)]
      by_cases h2 : l.length = 0
      · simp only [if_pos h2, if_pos (show (l.length : Int) = 0 by omega)]
        exact Ev.now 7
      · simp only [if_neg h2, if_neg (show ¬ (l.length : Int) = 0 by omega)]
        exact Check_l0 l hl l.length 0 (by omega)
  · simp only [if_neg h0]
    exact Ev.now _
theorem Same_l0 (a b : List S23) (hl : a.length ≤ 1000) (hab : a.length = b.length) : ∀ (d i : Nat), i + d = a.length → Ev (fun k => walkmillref02_Same.l0 k a b (i : Int)) (decide (a.drop i = b.drop i))
  | 0, i, h => by
    refine Ev.up ?_
    simp only [walkmillref02_Same.l0, if_neg (show ¬ (i : Int) < (a.length : Int) by omega)]
    rw [List.drop_eq_nil_of_le (by omega), List.drop_eq_nil_of_le (by omega)]
    simpa using Ev.now true
  | d + 1, i, h => by
    refine Ev.up ?_
    simp only [walkmillref02_Same.l0, if_pos (show (i : Int) < (a.length : Int) by omega), if_pos (show (0 : Int) ≤ (i : Int) by omega), if_pos (show (i : Int) < (b.length : Int) by omega), wi i (by omega), rd23 a i (by omega), rd23 b i (by omega)]
    rw [drop_dec a b i (by omega) (by omega)]
    by_cases hq : a[i] = b[i]
    · rw [decide_eq_true hq, Bool.true_and]
      have h2 : (!(a[i].f0 == b[i].f0) || !(a[i].f1 == b[i].f1)) = false := by rw [hq]; simp
      simp only [h2, Bool.false_eq_true, if_false]
      exact Same_l0 a b hl hab d (i + 1) (by omega)
    · have h2 : (!(a[i].f0 == b[i].f0) || !(a[i].f1 == b[i].f1)) = true := by
        cases hx : (!(a[i].f0 == b[i].f0) || !(a[i].f1 == b[i].f1))
        · simp at hx
          exact absurd (by
            have e1 : a[i] = ⟨a[i].f0, a[i].f1⟩ := rfl
            have e2 : b[i] = ⟨b[i].f0, b[i].f1⟩ := rfl
            rw [e1, e2, hx.1, hx.2]) hq
        · rfl
      simp only [h2, if_true]
      rw [decide_eq_false hq, Bool.false_and]
      exact Ev.now false
theorem Same_f (a b : List S23) (hl : a.length ≤ 1000) : Ev (fun k => walkmillref02_Same.f k a b) (decide (a = b)) := by
  unfold walkmillref02_Same.f
  by_cases h : a.length = b.length
  · simp only [if_pos (show (a.length : Int) = (b.length : Int) by omega)]
    simpa using Same_l0 a b hl h a.length 0 (by omega)
  · simp only [if_neg (show ¬ (a.length : Int) = (b.length : Int) by omega)]
    have : ¬ a = b := fun e => h (by rw [e])
    simpa [this] using Ev.now false
theorem Like_l0 (a b : List Int) (hl : a.length ≤ 1000) (hab : a.length = b.length) : ∀ (d i : Nat), i + d = a.length → Ev (fun k => walkmillref02_Like.l0 k a b (i : Int)) (decide (a.drop i = b.drop i))
  | 0, i, h => by
    refine Ev.up ?_
    simp only [walkmillref02_Like.l0, if_neg (show ¬ (i : Int) < (a.length : Int) by omega)]
    rw [List.drop_eq_nil_of_le (by omega), List.drop_eq_nil_of_le (by omega)]
    simpa using Ev.now true
  | d + 1, i, h => by
    refine Ev.up ?_
    simp only [walkmillref02_Like.l0, if_pos (show (i : Int) < (a.length : Int) by omega), if_pos (show (0 : Int) ≤ (i : Int) by omega), if_pos (show (i : Int) < (b.length : Int) by omega), wi i (by omega), rdI a i (by omega), rdI b i (by omega)]
    rw [drop_dec a b i (by omega) (by omega)]
    by_cases hq : a[i] = b[i]
    · rw [decide_eq_true hq, Bool.true_and]
      simp only [if_pos hq]
      exact Like_l0 a b hl hab d (i + 1) (by omega)
    · rw [decide_eq_false hq, Bool.false_and]
      simp only [if_neg hq]
      exact Ev.now false
theorem Like_f (a b : List Int) (hl : a.length ≤ 1000) : Ev (fun k => walkmillref02_Like.f k a b) (decide (a = b)) := by
  unfold walkmillref02_Like.f
  by_cases h : a.length = b.length
  · simp only [if_pos (show (a.length : Int) = (b.length : Int) by omega)]
    simpa using Like_l0 a b hl h a.length 0 (by omega)
  · simp only [if_neg (show ¬ (a.length : Int) = (b.length : Int) by omega)]
    have : ¬ a = b := fun e => h (by rw [e])
    simpa [this] using Ev.now false
theorem Plan_l0 (p : List Int) (hl : p.length ≤ 1000) (b c a0 a1 a2 a3 a4 a5 a6 : Int) : ∀ (d i : Nat), i + d = p.length → Ev (fun k => walkmillref02_Plan.l0 k p b c (i : Int) a0 a1 a2 a3 a4 a5 a6) (inB b c [(p.length : Int)] && inB 0 a0 (p.drop i))
  | 0, i, h => by
    refine Ev.up ?_
    simp only [walkmillref02_Plan.l0, if_neg (show ¬ (i : Int) < (p.length : Int) by omega), In_f, Option.bind_some]
    rw [List.drop_eq_nil_of_le (by omega)]
    simpa [inB] using Ev.now (inB b c [(p.length : Int)])
  | d + 1, i, h => by
    refine Ev.up ?_
    simp only [walkmillref02_Plan.l0, if_pos (show (i : Int) < (p.length : Int) by omega), if_pos (show (0 : Int) ≤ (i : Int) by omega), In_f, Option.bind_some, wi i (by omega), rdI p i (by omega)]
    rw [List.drop_eq_getElem_cons (show i < p.length by omega)]
    have e : inB 0 a0 (p[i] :: p.drop (i + 1)) = (inB 0 a0 [p[i]] && inB 0 a0 (p.drop (i + 1))) := by
      simp only [inB, List.any_cons, List.any_nil, Bool.or_false, Bool.not_or]
    rw [e]
    cases inB 0 a0 [p[i]]
    · simpa using Ev.now false
    · simpa using Plan_l0 p hl b c a0 a1 a2 a3 a4 a5 a6 d (i + 1) (by omega)
theorem Plan_f (a0 a1 a2 a3 a4 a5 a6 : Int) (p : List Int) (hl : p.length ≤ 1000) (b c : Int) : Ev (fun k => walkmillref02_Plan.f k a0 a1 a2 a3 a4 a5 a6 p b c) (inB b c [(p.length : Int)] && inB 0 a0 p) := by
  have h := Plan_l0 p hl b c a0 a1 a2 a3 a4 a5 a6 p.length 0 (by omega)
  simpa [walkmillref02_Plan.f] using h
theorem Sum_l0 (l : List Int) (hl : l.length ≤ 1000) (hb : ∀ x ∈ l, 0 ≤ x ∧ x ≤ 10) : ∀ (d i : Nat), i + d = l.length → Ev (fun k => walkmillref02_Sum.l0 k l (l.take i).sum (i : Int)) l.sum
  | 0, i, h => by
    refine Ev.up ?_
    simp only [walkmillref02_Sum.l0, if_neg (show ¬ (i : Int) < (l.length : Int) by omega)]
    rw [List.take_of_length_le (by omega)]
    exact Ev.now _
  | d + 1, i, h => by
    refine Ev.up ?_
    have h1 := sum_bd (l.take i) 10 (fun x hx => hb x (List.mem_of_mem_take hx))
    have h2 := hb (rd l i) (by rw [rdI l i (by omega)]; exact List.getElem_mem _)
    rw [List.length_take] at h1
    simp only [walkmillref02_Sum.l0, if_pos (show (i : Int) < (l.length : Int) by omega), if_pos (show (0 : Int) ≤ (i : Int) by omega), wi i (by omega)]
    rw [wr (by omega), ← take_sum l i (by omega)]
    exact Sum_l0 l hl hb d (i + 1) (by omega)
theorem Sum_f (l : List Int) (hl : l.length ≤ 1000) (hb : ∀ x ∈ l, 0 ≤ x ∧ x ≤ 10) : Ev (fun k => walkmillref02_Sum.f k l) l.sum := by
  simpa [walkmillref02_Sum.f] using Sum_l0 l hl hb l.length 0 (by omega)
theorem known_f : walkmilllaw02_known.f = some true := rfl
theorem span_f (a b : Int) : walkmilllaw02_span.f a b = some (a, b) := rfl
end Go.Proofs.Ytcnlbbmokphjnaa.Q
namespace Go.Proofs.Ytcnlbbmokphjnaa.Q
open Go.RowKit Go.Proofs.YtcnlbbmokphjnaaW.PrintWords Go.Proofs.YtcnlbbmokphjnaaW.PrintLast Go.Proofs.YtcnlbbmokphjnaaW.PrintMore
attribute [local go_sem] max2_int min2_int max_two min_two max_three min_three max_four min_four   -- for this text's walks alone
set_option linter.unusedVariables false
set_option linter.unusedSimpArgs false
def walkmillref02_Levels.l0 : Nat → List Int → List Int → List Int → List (S23) → Int → Option ((List (S23)))
  | 0, _, _, _, _, _ => none
  | k + 1, x2, x9, x10, x11, x12 => if x12 < (x2.length : Int) then (if 0 ≤ x12 then (if x12 < (x9.length : Int) then (if x12 < (x10.length : Int) then (if x11.length < 8796093022208 then (walkmillref02_Levels.l0 k x2 x9 x10 (x11 ++ [(⟨rd x9 x12, rd x10 x12⟩ : S23)]) (wrap64 (x12 + 1))) else (none)) else (none)) else (none)) else (none)) else (some x11)
def walkmillref02_Levels.f (k : Nat) (a0_0 : Int) (a0_1 : Int) (a0_2 : Int) (a0_3 : Int) (a0_4 : Int) (a0_5 : Int) (a0_6 : Int) (l1 : List (S23)) (l2 : List Int) : Option ((List (S23))) := (walkmillref02_Truth.f k a0_0 a0_1 a0_2 a0_3 a0_4 a0_5 a0_6 l1 false).bind fun bt171 => ((walkmillref02_Pond.f k a0_0 a0_1 a0_2 a0_3 a0_4 a0_5 a0_6 bt171.1 bt171.2 l2).bind fun t175 => ((walkmillref02_Truth.f k a0_0 a0_1 a0_2 a0_3 a0_4 a0_5 a0_6 l1 true).bind fun bt178 => ((walkmillref02_Pond.f k a0_0 a0_1 a0_2 a0_3 a0_4 a0_5 a0_6 bt178.1 bt178.2 l2).bind fun t182 => (walkmillref02_Levels.l0 k l2 t175 t182 (([] : List (S23))) 0))))
theorem walkmillref02_Levels.mono_l : ∀ k, (∀ y0 y1 y2 y3 y4, LeO (walkmillref02_Levels.l0 k y0 y1 y2 y3 y4) (walkmillref02_Levels.l0 (k + 1) y0 y1 y2 y3 y4))
  | 0 => fun _ _ _ _ _ r h => by simp [walkmillref02_Levels.l0] at h
  | k + 1 => by
    have ih0 := walkmillref02_Levels.mono_l k
    · intro y0 y1 y2 y3 y4
      unfold walkmillref02_Levels.l0
      repeat' first
      | (with_reducible exact ih0 _ _ _ _ _)
      | (with_reducible exact walkmillref02_Pond.mono _ _ _ _ _ _ _ _ _ _ _)
      | (with_reducible exact walkmillref02_Truth.mono _ _ _ _ _ _ _ _ _ _)
      | (with_reducible exact LeO.refl _)
      | (with_reducible exact LeO.none _)
      | (with_reducible refine LeO.ite ?_ ?_)
      | (with_reducible refine LeO.bind ?_ (fun _ => ?_))
      | exact ih0 _ _ _ _ _
      | exact walkmillref02_Pond.mono _ _ _ _ _ _ _ _ _ _ _
      | exact walkmillref02_Truth.mono _ _ _ _ _ _ _ _ _ _
      | exact LeO.none _
      | refine LeO.ite ?_ ?_
      | refine LeO.bind ?_ (fun _ => ?_)
theorem walkmillref02_Levels.mono : ∀ a0 a1 a2 a3 a4 a5 a6 a7 a8 k, LeO (walkmillref02_Levels.f k a0 a1 a2 a3 a4 a5 a6 a7 a8) (walkmillref02_Levels.f (k + 1) a0 a1 a2 a3 a4 a5 a6 a7 a8) := by
  intro a0 a1 a2 a3 a4 a5 a6 a7 a8 k
  have ih0 := walkmillref02_Levels.mono_l k
  unfold walkmillref02_Levels.f
  repeat' first
      | (with_reducible exact ih0 _ _ _ _ _)
      | (with_reducible exact walkmillref02_Pond.mono _ _ _ _ _ _ _ _ _ _ _)
      | (with_reducible exact walkmillref02_Truth.mono _ _ _ _ _ _ _ _ _ _)
      | (with_reducible exact LeO.refl _)
      | (with_reducible exact LeO.none _)
      | (with_reducible refine LeO.ite ?_ ?_)
      | (with_reducible refine LeO.bind ?_ (fun _ => ?_))
      | exact ih0 _ _ _ _ _
      | exact walkmillref02_Pond.mono _ _ _ _ _ _ _ _ _ _ _
      | exact walkmillref02_Truth.mono _ _ _ _ _ _ _ _ _ _
      | exact LeO.none _
      | refine LeO.ite ?_ ?_
      | refine LeO.bind ?_ (fun _ => ?_)
def walkmillref02_Levels.T8 : Bool × List (List Nat × List Nat) := (true, [([], []), ([], []), ([], []), ([1, 2], [1, 2]), ([3], [3]), ([], []), ([], []), ([5, 6], [5, 6]), ([7], [7]), ([4, 8], [4, 8]), ([9], [9]), ([0, 10], [0, 10]), ([11, 11, 0, 1, 2, 3, 4, 5, 6, 7, 8, 9, 10, 11], [0, 11])])
def walkmillref02_Levels.B8 : List Nat := [0, 0, 0, 6, 14, 0, 0, 96, 224, 510, 1022, 2047, 4095]
theorem walkmillref02_Levels.tab8 : rtab .any (opsOf Try.f26 8) = walkmillref02_Levels.T8 := by kernel_rfl
theorem walkmillref02_Levels.bits8 : waitsOk walkmillref02_Levels.T8.2 walkmillref02_Levels.B8 = true := by kernel_rfl
set_option maxHeartbeats 8000000 in
set_option maxRecDepth 100000 in
theorem walkmillref02_Levels.calls (k : Nat) (a0_0 : Int) (a0_1 : Int) (a0_2 : Int) (a0_3 : Int) (a0_4 : Int) (a0_5 : Int) (a0_6 : Int) (A1 : Option Addr) (c1 : Nat) (l1 : List (S23)) (A2 : Option Addr) (c2 : Nat) (l2 : List Int) (r : List (S23)) (w : World) (hr1 : Kd.C k23 w A1 l1.length l1) (hc1 : l1.length ≤ c1) (hr2 : Kd.C (Kd.int .i64) w A2 l2.length l2) (hc2 : l2.length ≤ c2) (h : walkmillref02_Levels.f k a0_0 a0_1 a0_2 a0_3 a0_4 a0_5 a0_6 l1 l2 = some r) :
    Calls Try.prog 26 #[.agg #[.int .i64 a0_0, .int .i64 a0_1, .int .i64 a0_2, .int .i64 a0_3, .int .i64 a0_4, .int .i64 a0_5, .int .i64 a0_6], .slice A1 l1.length c1, .slice A2 l2.length c2] w fun e w' => ∃ v0_ : Value, e = .returned (v0_) ∧ Kd.R k23 23 w' w.heap.size (fun _ => True) v0_ r ∧ Below w.heap.size w w' := by
  have hu25 := Try.underlying25
  have hu23 := Try.underlying23
  have HR1 := Aside0.mk hr1
  have HC1 := Aside0.mk hc1
  clear hr1 hc1
  have HR2 := Aside0.mk hr2
  have HC2 := Aside0.mk hc2
  clear hr2 hc2
  have HB := Aside0.mk (Below.refl w.heap.size w)
  have H : ((walkmillref02_Truth.f k a0_0 a0_1 a0_2 a0_3 a0_4 a0_5 a0_6 l1 false).bind fun bt171 => ((walkmillref02_Pond.f k a0_0 a0_1 a0_2 a0_3 a0_4 a0_5 a0_6 bt171.1 bt171.2 l2).bind fun t175 => ((walkmillref02_Truth.f k a0_0 a0_1 a0_2 a0_3 a0_4 a0_5 a0_6 l1 true).bind fun bt178 => ((walkmillref02_Pond.f k a0_0 a0_1 a0_2 a0_3 a0_4 a0_5 a0_6 bt178.1 bt178.2 l2).bind fun t182 => (walkmillref02_Levels.l0 k l2 t175 t182 (([] : List (S23))) 0))))) = some r := h
  clear h
  replace H := Option.bind_eq_some_iff.mp H
  obtain ⟨⟨t171, t172⟩, A40, H⟩ := H
  replace H : ((walkmillref02_Pond.f k a0_0 a0_1 a0_2 a0_3 a0_4 a0_5 a0_6 t171 t172 l2).bind fun t175 => ((walkmillref02_Truth.f k a0_0 a0_1 a0_2 a0_3 a0_4 a0_5 a0_6 l1 true).bind fun bt178 => ((walkmillref02_Pond.f k a0_0 a0_1 a0_2 a0_3 a0_4 a0_5 a0_6 bt178.1 bt178.2 l2).bind fun t182 => (walkmillref02_Levels.l0 k l2 t175 t182 (([] : List (S23))) 0)))) = some r := H
  have A4 := Aside0.mk A40
  clear A40
  replace H := Option.bind_eq_some_iff.mp H
  obtain ⟨t175, A50, H⟩ := H
  replace H : ((walkmillref02_Truth.f k a0_0 a0_1 a0_2 a0_3 a0_4 a0_5 a0_6 l1 true).bind fun bt178 => ((walkmillref02_Pond.f k a0_0 a0_1 a0_2 a0_3 a0_4 a0_5 a0_6 bt178.1 bt178.2 l2).bind fun t182 => (walkmillref02_Levels.l0 k l2 t175 t182 (([] : List (S23))) 0))) = some r := H
  have A5 := Aside0.mk A50
  clear A50
  replace H := Option.bind_eq_some_iff.mp H
  obtain ⟨⟨t178, t179⟩, A60, H⟩ := H
  replace H : ((walkmillref02_Pond.f k a0_0 a0_1 a0_2 a0_3 a0_4 a0_5 a0_6 t178 t179 l2).bind fun t182 => (walkmillref02_Levels.l0 k l2 t175 t182 (([] : List (S23))) 0)) = some r := H
  have A6 := Aside0.mk A60
  clear A60
  replace H := Option.bind_eq_some_iff.mp H
  obtain ⟨t182, A70, H⟩ := H
  replace H : (walkmillref02_Levels.l0 k l2 t175 t182 (([] : List (S23))) 0) = some r := H
  have A7 := Aside0.mk A70
  clear A70
  obtain ⟨y185, hy185⟩ : ∃ y_ : List (S23), y_ = (([] : List (S23))) := ⟨_, rfl⟩
  replace H : (walkmillref02_Levels.l0 k l2 t175 t182 y185 0) = some r := by first | (rw [hy185]; with_reducible exact H) | (have H2_ := (Option.bind_some _ _).symm.trans H; rw [hy185]; with_reducible exact H2_) | (have H2_ := (Option.bind_some _ _).symm.trans H; with_reducible exact H2_) | with_reducible exact H | (rw [hy185]; exact H) | exact H
  have Ny185 := Aside0.mk hy185
  clear hy185
  have H' := Aside0.mk H
  clear H
  go_enter Try.func26, Try.ntmps26
  go_wp2_with (first | ((with_reducible refine gate_dst (N := 3) rfl ?_); refine box_event ?hg (N := 3) ?hd (cs := #[.int .i64 a0_0, .int .i64 a0_1, .int .i64 a0_2, .int .i64 a0_3, .int .i64 a0_4, .int .i64 a0_5, .int .i64 a0_6]) (t := 25) ?hr ?_; (case hd => rfl); (case hg => rfl); (case hr => first | (go_simp; done) | (go_simp; rfl)); intro gb170 hg w8 hbox hb; have n0_ := Aside0.mk (below_step (by repeat (first | (with_reducible first | exact HB.out | apply below_alloc | apply pw_below_drewN | apply below_drew1) | exact HB.out)) hb); have n1_ := Aside0.mk (hbox); have n2_ := Aside0.mk ((by rw [hg]; exact (below_size (by repeat (first | (with_reducible first | exact HB.out | apply below_alloc | apply pw_below_drewN | apply below_drew1) | exact HB.out))) : w.heap.size ≤ gb170)); have n3_ := Aside0.mk ((by rw [hg]; exact (below_size (by repeat (first | (with_reducible first | exact HB.out | apply below_alloc | apply pw_below_drewN | apply below_drew1) | exact HB.out))) : w.heap.size ≤ gb170)); clear HB; have HB := n0_; have BK170 := n1_; have GW170 := n2_; have GE170 := n3_; clear n0_ n1_ n2_ n3_; clear hb hbox hg; have hcz9_0 : w8.cell? ⟨gb170, 0, none⟩ = some (.int .i64 a0_0) := (blk_cell BK170.out 0).trans rfl; have hcz9_1 : w8.cell? ⟨gb170, 1, none⟩ = some (.int .i64 a0_1) := (blk_cell BK170.out 1).trans rfl; have hcz9_2 : w8.cell? ⟨gb170, 2, none⟩ = some (.int .i64 a0_2) := (blk_cell BK170.out 2).trans rfl; have hcz9_3 : w8.cell? ⟨gb170, 3, none⟩ = some (.int .i64 a0_3) := (blk_cell BK170.out 3).trans rfl; have hcz9_4 : w8.cell? ⟨gb170, 4, none⟩ = some (.int .i64 a0_4) := (blk_cell BK170.out 4).trans rfl; have hcz9_5 : w8.cell? ⟨gb170, 5, none⟩ = some (.int .i64 a0_5) := (blk_cell BK170.out 5).trans rfl; have hcz9_6 : w8.cell? ⟨gb170, 6, none⟩ = some (.int .i64 a0_6) := (blk_cell BK170.out 6).trans rfl; have hfz9_0 := blk_frozen BK170.out 0; have hfz9_1 := blk_frozen BK170.out 1; have hfz9_2 := blk_frozen BK170.out 2; have hfz9_3 := blk_frozen BK170.out 3; have hfz9_4 := blk_frozen BK170.out 4; have hfz9_5 := blk_frozen BK170.out 5; have hfz9_6 := blk_frozen BK170.out 6) | ((with_reducible refine gate_callee (f := 68) rfl ?_); refine goesL_ (some 16) rfl rfl Try.func68 (by kernel_rfl) rfl #[.agg #[.int .i64 a0_0, .int .i64 a0_1, .int .i64 a0_2, .int .i64 a0_3, .int .i64 a0_4, .int .i64 a0_5, .int .i64 a0_6], .slice A1 l1.length c1, .bool false] rfl (by (try simp only [List.map_toArray, List.map_cons, List.map_nil]); first | done | rfl | (simp only [List.length_drop, List.length_take]; rfl)) ?_; (with_reducible refine (walkmillref02_Truth.calls k a0_0 a0_1 a0_2 a0_3 a0_4 a0_5 a0_6 _ _ l1 false t171 t172 _ ?side1 ?side2 A4.out).mono ?_); (case side1 => repeat (first | exact (Kd.C_below HR1.out HB.out) | (with_reducible refine Kd.C_alloc ?_ _) | (with_reducible refine Kd.C_drewN ?_ _) | (with_reducible refine Kd.C_drew ?_))); (case side2 => exact HC1.out); rintro e w10 ⟨v173, rfl, ho0, hb⟩; refine ⟨_, rfl, ?_⟩; have n0_ := Aside0.mk (Kd.R_lower ho0 (below_size (by repeat (first | (with_reducible first | exact HB.out | apply below_alloc | apply pw_below_drewN | apply below_drew1 | refine below_set ?_ GE170.out) | exact HB.out)))); have n1_ := Aside0.mk (blk_below (g := gb170) (o := .cells #[.int .i64 a0_0, .int .i64 a0_1, .int .i64 a0_2, .int .i64 a0_3, .int .i64 a0_4, .int .i64 a0_5, .int .i64 a0_6] 25 (0, 0)) (by (with_reducible repeat (first | refine blk_drewN ?_ _ | refine blk_drew ?_ | refine blk_alloc ?_ _)); exact BK170.out) hb); have n2_ := Aside0.mk (below_step (by repeat (first | (with_reducible first | exact HB.out | apply below_alloc | apply pw_below_drewN | apply below_drew1 | refine below_set ?_ GE170.out) | exact HB.out)) hb); clear BK170; clear HB; have HO174 := n0_; have BK170 := n1_; have HB := n2_; clear n0_ n1_ n2_; (try clear hb); (try clear hb2); (try clear hk); (try clear hi); (try clear ho0); have hcz11_0 : w10.cell? ⟨gb170, 0, none⟩ = some (.int .i64 a0_0) := (blk_cell BK170.out 0).trans rfl; have hcz11_1 : w10.cell? ⟨gb170, 1, none⟩ = some (.int .i64 a0_1) := (blk_cell BK170.out 1).trans rfl; have hcz11_2 : w10.cell? ⟨gb170, 2, none⟩ = some (.int .i64 a0_2) := (blk_cell BK170.out 2).trans rfl; have hcz11_3 : w10.cell? ⟨gb170, 3, none⟩ = some (.int .i64 a0_3) := (blk_cell BK170.out 3).trans rfl; have hcz11_4 : w10.cell? ⟨gb170, 4, none⟩ = some (.int .i64 a0_4) := (blk_cell BK170.out 4).trans rfl; have hcz11_5 : w10.cell? ⟨gb170, 5, none⟩ = some (.int .i64 a0_5) := (blk_cell BK170.out 5).trans rfl; have hcz11_6 : w10.cell? ⟨gb170, 6, none⟩ = some (.int .i64 a0_6) := (blk_cell BK170.out 6).trans rfl; have hfz11_0 := blk_frozen BK170.out 0; have hfz11_1 := blk_frozen BK170.out 1; have hfz11_2 := blk_frozen BK170.out 2; have hfz11_3 := blk_frozen BK170.out 3; have hfz11_4 := blk_frozen BK170.out 4; have hfz11_5 := blk_frozen BK170.out 5; have hfz11_6 := blk_frozen BK170.out 6; obtain ⟨Ao12, co12, eo12⟩ := Kd.R_slice HO174.out; subst eo12) | ((with_reducible refine gate_callee (f := 70) rfl ?_); refine goesL_ (some 23) rfl rfl Try.func70 (by kernel_rfl) rfl #[.agg #[.int .i64 a0_0, .int .i64 a0_1, .int .i64 a0_2, .int .i64 a0_3, .int .i64 a0_4, .int .i64 a0_5, .int .i64 a0_6], .int .i64 t171, .slice Ao12 t172.length co12, .slice A2 l2.length c2] rfl (by (try simp only [List.map_toArray, List.map_cons, List.map_nil]); first | done | rfl | (simp only [List.length_drop, List.length_take]; rfl)) ?_; (with_reducible refine (walkmillref02_Pond.calls k a0_0 a0_1 a0_2 a0_3 a0_4 a0_5 a0_6 t171 _ _ t172 _ _ l2 t175 _ ?side1 ?side2 ?side3 ?side4 A5.out).mono ?_); (case side1 => repeat (first | exact (Kd.R_reads' HO174.out).2.2 | (with_reducible refine Kd.C_alloc ?_ _) | (with_reducible refine Kd.C_drewN ?_ _) | (with_reducible refine Kd.C_drew ?_))); (case side2 => exact (Kd.R_reads' HO174.out).2.1); (case side3 => repeat (first | exact (Kd.C_below HR2.out HB.out) | (with_reducible refine Kd.C_alloc ?_ _) | (with_reducible refine Kd.C_drewN ?_ _) | (with_reducible refine Kd.C_drew ?_))); (case side4 => exact HC2.out); rintro e w13 ⟨v176, rfl, ho0, hb⟩; refine ⟨_, rfl, ?_⟩; have n0_ := Aside0.mk (Kd.R_elder' (by (with_reducible repeat (first | apply Kd.R_alloc | apply Kd.R_drewN | apply Kd.R_drew)); exact HO174.out) (Kd.R_base ho0) hb); have n1_ := Aside0.mk (Kd.R_lower (Kd.R_new' ho0 (Kd.R_lt (by (with_reducible repeat (first | apply Kd.R_alloc | apply Kd.R_drewN | apply Kd.R_drew)); exact HO174.out))) (below_size (by repeat (first | (with_reducible first | exact HB.out | apply below_alloc | apply pw_below_drewN | apply below_drew1 | refine below_set ?_ GE170.out) | exact HB.out)))); have n2_ := Aside0.mk (blk_below (g := gb170) (o := .cells #[.int .i64 a0_0, .int .i64 a0_1, .int .i64 a0_2, .int .i64 a0_3, .int .i64 a0_4, .int .i64 a0_5, .int .i64 a0_6] 25 (0, 0)) (by (with_reducible repeat (first | refine blk_drewN ?_ _ | refine blk_drew ?_ | refine blk_alloc ?_ _)); exact BK170.out) hb); have n3_ := Aside0.mk (below_step (by repeat (first | (with_reducible first | exact HB.out | apply below_alloc | apply pw_below_drewN | apply below_drew1 | refine below_set ?_ GE170.out) | exact HB.out)) hb); clear HO174; clear BK170; clear HB; have HO174 := n0_; have HO177 := n1_; have BK170 := n2_; have HB := n3_; clear n0_ n1_ n2_ n3_; (try clear hb); (try clear hb2); (try clear hk); (try clear hi); (try clear ho0); have hcz14_0 : w13.cell? ⟨gb170, 0, none⟩ = some (.int .i64 a0_0) := (blk_cell BK170.out 0).trans rfl; have hcz14_1 : w13.cell? ⟨gb170, 1, none⟩ = some (.int .i64 a0_1) := (blk_cell BK170.out 1).trans rfl; have hcz14_2 : w13.cell? ⟨gb170, 2, none⟩ = some (.int .i64 a0_2) := (blk_cell BK170.out 2).trans rfl; have hcz14_3 : w13.cell? ⟨gb170, 3, none⟩ = some (.int .i64 a0_3) := (blk_cell BK170.out 3).trans rfl; have hcz14_4 : w13.cell? ⟨gb170, 4, none⟩ = some (.int .i64 a0_4) := (blk_cell BK170.out 4).trans rfl; have hcz14_5 : w13.cell? ⟨gb170, 5, none⟩ = some (.int .i64 a0_5) := (blk_cell BK170.out 5).trans rfl; have hcz14_6 : w13.cell? ⟨gb170, 6, none⟩ = some (.int .i64 a0_6) := (blk_cell BK170.out 6).trans rfl; have hfz14_0 := blk_frozen BK170.out 0; have hfz14_1 := blk_frozen BK170.out 1; have hfz14_2 := blk_frozen BK170.out 2; have hfz14_3 := blk_frozen BK170.out 3; have hfz14_4 := blk_frozen BK170.out 4; have hfz14_5 := blk_frozen BK170.out 5; have hfz14_6 := blk_frozen BK170.out 6) | ((with_reducible refine gate_callee (f := 68) rfl ?_); refine goesL_ (some 27) rfl rfl Try.func68 (by kernel_rfl) rfl #[.agg #[.int .i64 a0_0, .int .i64 a0_1, .int .i64 a0_2, .int .i64 a0_3, .int .i64 a0_4, .int .i64 a0_5, .int .i64 a0_6], .slice A1 l1.length c1, .bool true] rfl (by (try simp only [List.map_toArray, List.map_cons, List.map_nil]); first | done | rfl | (simp only [List.length_drop, List.length_take]; rfl)) ?_; (with_reducible refine (walkmillref02_Truth.calls k a0_0 a0_1 a0_2 a0_3 a0_4 a0_5 a0_6 _ _ l1 true t178 t179 _ ?side1 ?side2 A6.out).mono ?_); (case side1 => repeat (first | exact (Kd.C_below HR1.out HB.out) | (with_reducible refine Kd.C_alloc ?_ _) | (with_reducible refine Kd.C_drewN ?_ _) | (with_reducible refine Kd.C_drew ?_))); (case side2 => exact HC1.out); rintro e w15 ⟨v180, rfl, ho0, hb⟩; refine ⟨_, rfl, ?_⟩; have n0_ := Aside0.mk (Kd.R_elder' (by (with_reducible repeat (first | apply Kd.R_alloc | apply Kd.R_drewN | apply Kd.R_drew)); exact HO174.out) (Kd.R_base ho0) hb); have n1_ := Aside0.mk (Kd.R_elder' (by (with_reducible repeat (first | apply Kd.R_alloc | apply Kd.R_drewN | apply Kd.R_drew)); exact HO177.out) (Kd.R_base ho0) hb); have n2_ := Aside0.mk (Kd.R_lower (Kd.R_new' (Kd.R_new' ho0 (Kd.R_lt (by (with_reducible repeat (first | apply Kd.R_alloc | apply Kd.R_drewN | apply Kd.R_drew)); exact HO174.out))) (Kd.R_lt (by (with_reducible repeat (first | apply Kd.R_alloc | apply Kd.R_drewN | apply Kd.R_drew)); exact HO177.out))) (below_size (by repeat (first | (with_reducible first | exact HB.out | apply below_alloc | apply pw_below_drewN | apply below_drew1 | refine below_set ?_ GE170.out) | exact HB.out)))); have n3_ := Aside0.mk (blk_below (g := gb170) (o := .cells #[.int .i64 a0_0, .int .i64 a0_1, .int .i64 a0_2, .int .i64 a0_3, .int .i64 a0_4, .int .i64 a0_5, .int .i64 a0_6] 25 (0, 0)) (by (with_reducible repeat (first | refine blk_drewN ?_ _ | refine blk_drew ?_ | refine blk_alloc ?_ _)); exact BK170.out) hb); have n4_ := Aside0.mk (below_step (by repeat (first | (with_reducible first | exact HB.out | apply below_alloc | apply pw_below_drewN | apply below_drew1 | refine below_set ?_ GE170.out) | exact HB.out)) hb); clear HO174; clear HO177; clear BK170; clear HB; have HO174 := n0_; have HO177 := n1_; have HO181 := n2_; have BK170 := n3_; have HB := n4_; clear n0_ n1_ n2_ n3_ n4_; (try clear hb); (try clear hb2); (try clear hk); (try clear hi); (try clear ho0); have hcz16_0 : w15.cell? ⟨gb170, 0, none⟩ = some (.int .i64 a0_0) := (blk_cell BK170.out 0).trans rfl; have hcz16_1 : w15.cell? ⟨gb170, 1, none⟩ = some (.int .i64 a0_1) := (blk_cell BK170.out 1).trans rfl; have hcz16_2 : w15.cell? ⟨gb170, 2, none⟩ = some (.int .i64 a0_2) := (blk_cell BK170.out 2).trans rfl; have hcz16_3 : w15.cell? ⟨gb170, 3, none⟩ = some (.int .i64 a0_3) := (blk_cell BK170.out 3).trans rfl; have hcz16_4 : w15.cell? ⟨gb170, 4, none⟩ = some (.int .i64 a0_4) := (blk_cell BK170.out 4).trans rfl; have hcz16_5 : w15.cell? ⟨gb170, 5, none⟩ = some (.int .i64 a0_5) := (blk_cell BK170.out 5).trans rfl; have hcz16_6 : w15.cell? ⟨gb170, 6, none⟩ = some (.int .i64 a0_6) := (blk_cell BK170.out 6).trans rfl; have hfz16_0 := blk_frozen BK170.out 0; have hfz16_1 := blk_frozen BK170.out 1; have hfz16_2 := blk_frozen BK170.out 2; have hfz16_3 := blk_frozen BK170.out 3; have hfz16_4 := blk_frozen BK170.out 4; have hfz16_5 := blk_frozen BK170.out 5; have hfz16_6 := blk_frozen BK170.out 6; obtain ⟨Ao17, co17, eo17⟩ := Kd.R_slice HO181.out; subst eo17) | ((with_reducible refine gate_callee (f := 70) rfl ?_); refine goesL_ (some 34) rfl rfl Try.func70 (by kernel_rfl) rfl #[.agg #[.int .i64 a0_0, .int .i64 a0_1, .int .i64 a0_2, .int .i64 a0_3, .int .i64 a0_4, .int .i64 a0_5, .int .i64 a0_6], .int .i64 t178, .slice Ao17 t179.length co17, .slice A2 l2.length c2] rfl (by (try simp only [List.map_toArray, List.map_cons, List.map_nil]); first | done | rfl | (simp only [List.length_drop, List.length_take]; rfl)) ?_; (with_reducible refine (walkmillref02_Pond.calls k a0_0 a0_1 a0_2 a0_3 a0_4 a0_5 a0_6 t178 _ _ t179 _ _ l2 t182 _ ?side1 ?side2 ?side3 ?side4 A7.out).mono ?_); (case side1 => repeat (first | exact (Kd.R_reads' HO181.out).2.2 | (with_reducible refine Kd.C_alloc ?_ _) | (with_reducible refine Kd.C_drewN ?_ _) | (with_reducible refine Kd.C_drew ?_))); (case side2 => exact (Kd.R_reads' HO181.out).2.1); (case side3 => repeat (first | exact (Kd.C_below HR2.out HB.out) | (with_reducible refine Kd.C_alloc ?_ _) | (with_reducible refine Kd.C_drewN ?_ _) | (with_reducible refine Kd.C_drew ?_))); (case side4 => exact HC2.out); rintro e w18 ⟨v183, rfl, ho0, hb⟩; refine ⟨_, rfl, ?_⟩; have n0_ := Aside0.mk (Kd.R_elder' (by (with_reducible repeat (first | apply Kd.R_alloc | apply Kd.R_drewN | apply Kd.R_drew)); exact HO174.out) (Kd.R_base ho0) hb); have n1_ := Aside0.mk (Kd.R_elder' (by (with_reducible repeat (first | apply Kd.R_alloc | apply Kd.R_drewN | apply Kd.R_drew)); exact HO177.out) (Kd.R_base ho0) hb); have n2_ := Aside0.mk (Kd.R_elder' (by (with_reducible repeat (first | apply Kd.R_alloc | apply Kd.R_drewN | apply Kd.R_drew)); exact HO181.out) (Kd.R_base ho0) hb); have n3_ := Aside0.mk (Kd.R_lower (Kd.R_new' (Kd.R_new' (Kd.R_new' ho0 (Kd.R_lt (by (with_reducible repeat (first | apply Kd.R_alloc | apply Kd.R_drewN | apply Kd.R_drew)); exact HO174.out))) (Kd.R_lt (by (with_reducible repeat (first | apply Kd.R_alloc | apply Kd.R_drewN | apply Kd.R_drew)); exact HO177.out))) (Kd.R_lt (by (with_reducible repeat (first | apply Kd.R_alloc | apply Kd.R_drewN | apply Kd.R_drew)); exact HO181.out))) (below_size (by repeat (first | (with_reducible first | exact HB.out | apply below_alloc | apply pw_below_drewN | apply below_drew1 | refine below_set ?_ GE170.out) | exact HB.out)))); have n4_ := Aside0.mk (blk_below (g := gb170) (o := .cells #[.int .i64 a0_0, .int .i64 a0_1, .int .i64 a0_2, .int .i64 a0_3, .int .i64 a0_4, .int .i64 a0_5, .int .i64 a0_6] 25 (0, 0)) (by (with_reducible repeat (first | refine blk_drewN ?_ _ | refine blk_drew ?_ | refine blk_alloc ?_ _)); exact BK170.out) hb); have n5_ := Aside0.mk (below_step (by repeat (first | (with_reducible first | exact HB.out | apply below_alloc | apply pw_below_drewN | apply below_drew1 | refine below_set ?_ GE170.out) | exact HB.out)) hb); clear HO174; clear HO177; clear HO181; clear BK170; clear HB; have HO174 := n0_; have HO177 := n1_; have HO181 := n2_; have HO184 := n3_; have BK170 := n4_; have HB := n5_; clear n0_ n1_ n2_ n3_ n4_ n5_; (try clear hb); (try clear hb2); (try clear hk); (try clear hi); (try clear ho0)) | ((with_reducible refine gate_dst (N := 35) rfl ?_); refine Kd.R_lit k23 _ 23 ?hg (N := 35) ?hd (xs := ([] : List (S23))) (inner := []) (ok := fun _ => True) (okp := fun _ => True) ?hr ?hp (fun _ hk => hk) trivial (Below.refl _ _) (Nat.le_refl _) (by simp) ?_; (case hd => rfl); (case hg => rfl); (case hr => first | (go_simp; done) | (go_simp; rfl)); (case hp => exact (Reps.none _ _)); intro v186 w19 ho20 hb hg_ hnew_; clear hg_ hnew_; (first | rw [← Ny185.out] at ho20 | (simp only [Int.reduceToNat] at ho20; rw [← Ny185.out] at ho20)); have n0_ := Aside0.mk (Kd.R_below (by (with_reducible repeat (first | apply Kd.R_alloc | apply Kd.R_drewN | apply Kd.R_drew)); exact HO174.out) hb); have n1_ := Aside0.mk (Kd.R_below (by (with_reducible repeat (first | apply Kd.R_alloc | apply Kd.R_drewN | apply Kd.R_drew)); exact HO177.out) hb); have n2_ := Aside0.mk (Kd.R_below (by (with_reducible repeat (first | apply Kd.R_alloc | apply Kd.R_drewN | apply Kd.R_drew)); exact HO181.out) hb); have n3_ := Aside0.mk (Kd.R_below (by (with_reducible repeat (first | apply Kd.R_alloc | apply Kd.R_drewN | apply Kd.R_drew)); exact HO184.out) hb); have n4_ := Aside0.mk (Kd.R_lower ho20 (below_size (by repeat (first | (with_reducible first | exact HB.out | apply below_alloc | apply pw_below_drewN | apply below_drew1 | refine below_set ?_ GE170.out) | exact HB.out)))); have n5_ := Aside0.mk (blk_below (g := gb170) (o := .cells #[.int .i64 a0_0, .int .i64 a0_1, .int .i64 a0_2, .int .i64 a0_3, .int .i64 a0_4, .int .i64 a0_5, .int .i64 a0_6] 25 (0, 0)) (by (with_reducible repeat (first | refine blk_drewN ?_ _ | refine blk_drew ?_ | refine blk_alloc ?_ _)); exact BK170.out) hb); have n6_ := Aside0.mk (below_step (by repeat (first | (with_reducible first | exact HB.out | apply below_alloc | apply pw_below_drewN | apply below_drew1 | refine below_set ?_ GE170.out) | exact HB.out)) hb); clear HO174; clear HO177; clear HO181; clear HO184; clear BK170; clear HB; have HO174 := n0_; have HO177 := n1_; have HO181 := n2_; have HO184 := n3_; have HO187 := n4_; have BK170 := n5_; have HB := n6_; clear n0_ n1_ n2_ n3_ n4_ n5_ n6_; clear hb ho20))
  go_loopg [11, 12] k (fun kq v11 v12 w' => ∃ (x11_1 : List (S23)) (x12_1 : Int), v12 = .int .i64 x12_1 ∧ Aside0 (walkmillref02_Levels.l0 kq l2 t175 t182 x11_1 x12_1 = some r) ∧ Aside0 (kq ≤ k) ∧ Aside0 (Kd.R (Kd.int .i64) 3 w' w.heap.size (fun k_ => some k_ ≠ (v183 : Value).ownBlock) v176 t175) ∧ Aside0 (Kd.R (Kd.int .i64) 3 w' w.heap.size (fun k_ => some k_ ≠ (v176 : Value).ownBlock) v183 t182) ∧ Aside0 (Kd.R k23 23 w' w.heap.size (fun _ => True) v11 x11_1) ∧ Aside0 (w'.heap[gb170]? = some (.cells #[.int .i64 a0_0, .int .i64 a0_1, .int .i64 a0_2, .int .i64 a0_3, .int .i64 a0_4, .int .i64 a0_5, .int .i64 a0_6] 25 (0, 0))) ∧ Aside0 (Below w.heap.size w w'))
  case atStart => exact ⟨(y185), (0), (by first | rfl | (simp; done) | (simp [*]; done)), H', ⟨Nat.le_refl _⟩, ⟨by (with_reducible repeat (first | apply Kd.R_alloc | apply Kd.R_drewN | apply Kd.R_drew)); exact Kd.R_mono HO177.out (fun _ hk => hk.2)⟩, ⟨by (with_reducible repeat (first | apply Kd.R_alloc | apply Kd.R_drewN | apply Kd.R_drew)); exact Kd.R_mono HO184.out (fun _ hk => hk.1.2)⟩, ⟨by (with_reducible repeat (first | apply Kd.R_alloc | apply Kd.R_drewN | apply Kd.R_drew)); exact HO187.out⟩, ⟨by (with_reducible repeat (first | refine blk_drewN ?_ _ | refine blk_drew ?_ | refine blk_alloc ?_ _)); exact BK170.out⟩, ⟨by repeat (first | (with_reducible first | exact HB.out | apply below_alloc | apply pw_below_drewN | apply below_drew1 | refine below_set ?_ GE170.out) | exact HB.out)⟩⟩
  case round =>
    clear H'
    try clear c1
    try clear c2
    try clear p2
    try clear c6
    try clear c7
    try clear hcz11_0
    try clear hcz11_1
    try clear hcz11_2
    try clear hcz11_3
    try clear hcz11_4
    try clear hcz11_5
    try clear hcz11_6
    try clear hcz14_0
    try clear hcz14_1
    try clear hcz14_2
    try clear hcz14_3
    try clear hcz14_4
    try clear hcz14_5
    try clear hcz14_6
    try clear hcz16_0
    try clear hcz16_1
    try clear hcz16_2
    try clear hcz16_3
    try clear hcz16_4
    try clear hcz16_5
    try clear hcz16_6
    try clear hcz9_0
    try clear hcz9_1
    try clear hcz9_2
    try clear hcz9_3
    try clear hcz9_4
    try clear hcz9_5
    try clear hcz9_6
    try clear hfz11_0
    try clear hfz11_1
    try clear hfz11_2
    try clear hfz11_3
    try clear hfz11_4
    try clear hfz11_5
    try clear hfz11_6
    try clear hfz14_0
    try clear hfz14_1
    try clear hfz14_2
    try clear hfz14_3
    try clear hfz14_4
    try clear hfz14_5
    try clear hfz14_6
    try clear hfz16_0
    try clear hfz16_1
    try clear hfz16_2
    try clear hfz16_3
    try clear hfz16_4
    try clear hfz16_5
    try clear hfz16_6
    try clear hfz9_0
    try clear hfz9_1
    try clear hfz9_2
    try clear hfz9_3
    try clear hfz9_4
    try clear hfz9_5
    try clear hfz9_6
    obtain ⟨x11_1, x12_1, rfl, HA, HK1, HO_9, HO_10, HO_11, BK170, HB⟩ := hrel
    cases gk with
    | zero => exact absurd HA.out (by simp [walkmillref02_Levels.l0])
    | succ k1 =>
      have H := HA.out
      clear HA
      simp only [walkmillref02_Levels.l0] at H
      by_cases c21 : x12_1 < (l2.length : Int)
      · rw [if_pos c21] at H
        have c21b0 : decide (x12_1 < (l2.length : Int)) = true := decide_eq_true c21
        clear c21
        by_cases c22 : 0 ≤ x12_1
        · rw [if_pos c22] at H
          have c22b0 : decide (0 ≤ x12_1) = true := decide_eq_true c22
          clear c22
          by_cases c23 : x12_1 < (t175.length : Int)
          · rw [if_pos c23] at H
            have c23b0 : decide (x12_1 < (t175.length : Int)) = true := decide_eq_true c23
            clear c23
            by_cases c24 : x12_1 < (t182.length : Int)
            · rw [if_pos c24] at H
              have c24b0 : decide (x12_1 < (t182.length : Int)) = true := decide_eq_true c24
              clear c24
              by_cases c25 : x11_1.length < 8796093022208
              · rw [if_pos c25] at H
                have LMc25 := Aside0.mk c25
                clear c25
                obtain ⟨y190, hy190⟩ : ∃ y_ : List (S23), y_ = (x11_1 ++ [(⟨rd t175 x12_1, rd t182 x12_1⟩ : S23)]) := ⟨_, rfl⟩
                replace H : (walkmillref02_Levels.l0 k1 l2 t175 t182 y190 (wrap64 (x12_1 + 1))) = some r := by first | (rw [hy190]; with_reducible exact H) | (have H2_ := (Option.bind_some _ _).symm.trans H; rw [hy190]; with_reducible exact H2_) | (have H2_ := (Option.bind_some _ _).symm.trans H; with_reducible exact H2_) | with_reducible exact H | (rw [hy190]; exact H) | exact H
                have Ny190 := Aside0.mk hy190
                clear hy190
                have H' := Aside0.mk H
                clear H
                try go_wp2
                have n0_ := Aside0.mk (Kd.R_drew HO_9.out)
                have n1_ := Aside0.mk (Kd.R_drew HO_10.out)
                have n2_ := Aside0.mk (Kd.R_drew HO_11.out)
                have n3_ := Aside0.mk (blk_drew BK170.out)
                have n4_ := Aside0.mk (below_drew1 HB.out)
                clear HO_9
                clear HO_10
                clear HO_11
                clear BK170
                clear HB
                have HO_9 := n0_
                have HO_10 := n1_
                have HO_11 := n2_
                have BK170 := n3_
                have HB := n4_
                clear n0_ n1_ n2_ n3_ n4_
                obtain ⟨Ao27, co27, eo27⟩ := Kd.R_slice HO_9.out
                (first | subst eo27 | (injection eo27 with f1_ f2_ f3_; have f4_ := f1_.symm; have f5_ := f3_.symm; clear f1_ f2_ f3_; subst f4_; subst f5_))
                have p188 : 0 ≤ (x12_1 : Int) := of_decide_eq_true (by first | (with_reducible assumption) | assumption)
                have q188 : x12_1 < (t175.length : Int) := of_decide_eq_true (by first | (with_reducible assumption) | assumption)
                obtain ⟨ad188, e188, hx188_0⟩ := Kd.at_int (Kd.R_reads' HO_9.out).2.2 x12_1 p188 q188
                cases e188
                replace p188 := eq_true p188
                replace q188 := eq_true q188
                obtain ⟨Ao28, co28, eo28⟩ := Kd.R_slice HO_10.out
                (first | subst eo28 | (injection eo28 with f1_ f2_ f3_; have f4_ := f1_.symm; have f5_ := f3_.symm; clear f1_ f2_ f3_; subst f4_; subst f5_))
                have p189 : 0 ≤ (x12_1 : Int) := of_decide_eq_true (by first | (with_reducible assumption) | assumption)
                have q189 : x12_1 < (t182.length : Int) := of_decide_eq_true (by first | (with_reducible assumption) | assumption)
                obtain ⟨ad189, e189, hx189_0⟩ := Kd.at_int (Kd.R_reads' HO_10.out).2.2 x12_1 p189 q189
                cases e189
                replace p189 := eq_true p189
                replace q189 := eq_true q189
                refine start_ (n := 13) (S := fun w' => w'.cell? (ad188.add (x12_1).toNat) = some (.int .i64 (rd t175 x12_1)) ∧ w'.cell? (ad189.add (x12_1).toNat) = some (.int .i64 (rd t182 x12_1))) (ds := [10, 11]) #[false, false, false, false, false, false, false, false, false, false, false, false, false] (by kernel_rfl) rfl rfl ⟨hx188_0, hx189_0⟩ (fun hHeld => ?_); refine with_tabW walkmillref02_Levels.tab8 walkmillref02_Levels.bits8 (fun HT_ HW_ => ?_)
                generalize wr.drew = w26 at HO_9 HO_10 HO_11 BK170 HB hx188_0 hx189_0 hHeld ⊢
                refine pure_ (i := 0) (N := some 42) (v := ?_) (a' := ?_) #[true, false, false, false, false, false, false, false, false, false, false, false, false] rfl rfl (any_of HT_.out (by kernel_rfl)) (fun _ _ _ h => h) (Or.inl ⟨by rfl, ?_⟩) ?_ ?_
                rotate_left
                · intro w'
                  go_simp
                  with_reducible rfl
                rotate_left
                · simp only [Act.put, List.setIfInBounds_toArray, List.set_cons_zero, List.set_cons_succ, i64_w, i32_w]
                  rfl
                refine pure_ (i := 1) (N := some 43) (v := ?_) (a' := ?_) #[true, true, false, false, false, false, false, false, false, false, false, false, false] rfl rfl (any_of HT_.out (by kernel_rfl)) (fun _ _ _ h => h) (Or.inl ⟨by rfl, ?_⟩) ?_ ?_
                rotate_left
                · intro w'
                  go_simp
                  with_reducible rfl
                rotate_left
                · simp only [Act.put, List.setIfInBounds_toArray, List.set_cons_zero, List.set_cons_succ, i64_w, i32_w]
                  rfl
                refine pure_ (i := 2) (N := some 44) (v := ?_) (a' := ?_) #[true, true, true, false, false, false, false, false, false, false, false, false, false] rfl rfl (any_of HT_.out (by kernel_rfl)) (fun _ _ _ h => h) (Or.inl ⟨by rfl, ?_⟩) ?_ ?_
                rotate_left
                · intro w'
                  go_simp
                  with_reducible rfl
                rotate_left
                · simp only [Act.put, List.setIfInBounds_toArray, List.set_cons_zero, List.set_cons_succ, i64_w, i32_w]
                  rfl
                refine pure_ (i := 3) (N := some 45) (v := ?_) (a' := ?_) #[true, true, true, true, false, false, false, false, false, false, false, false, false] rfl rfl (any_of HT_.out (by kernel_rfl)) (fun _ _ _ h => h) (Or.inl ⟨by rfl, ?_⟩) ?_ ?_
                rotate_left
                · intro w'
                  go_simp
                  with_reducible rfl
                rotate_left
                · simp only [Act.put, List.setIfInBounds_toArray, List.set_cons_zero, List.set_cons_succ, i64_w, i32_w]
                  rfl
                refine pure_ (i := 5) (N := some 47) (v := ?_) (a' := ?_) #[true, true, true, true, false, true, false, false, false, false, false, false, false] rfl rfl (any_of HT_.out (by kernel_rfl)) (fun _ _ _ h => h) (Or.inl ⟨by rfl, ?_⟩) ?_ ?_
                rotate_left
                · intro w'
                  go_simp
                  with_reducible rfl
                rotate_left
                · simp only [Act.put, List.setIfInBounds_toArray, List.set_cons_zero, List.set_cons_succ, i64_w, i32_w]
                  rfl
                refine pure_ (i := 6) (N := some 48) (v := ?_) (a' := ?_) #[true, true, true, true, false, true, true, false, false, false, false, false, false] rfl rfl (any_of HT_.out (by kernel_rfl)) (fun _ _ _ h => h) (Or.inl ⟨by rfl, ?_⟩) ?_ ?_
                rotate_left
                · intro w'
                  go_simp
                  with_reducible rfl
                rotate_left
                · simp only [Act.put, List.setIfInBounds_toArray, List.set_cons_zero, List.set_cons_succ, i64_w, i32_w]
                  rfl
                refine pure_ (i := 7) (N := some 49) (v := ?_) (a' := ?_) #[true, true, true, true, false, true, true, true, false, false, false, false, false] rfl rfl (any_of HT_.out (by kernel_rfl)) (fun _ _ _ h => h) (Or.inl ⟨by rfl, ?_⟩) ?_ ?_
                rotate_left
                · intro w'
                  go_simp
                  with_reducible rfl
                rotate_left
                · simp only [Act.put, List.setIfInBounds_toArray, List.set_cons_zero, List.set_cons_succ, i64_w, i32_w]
                  rfl
                refine take_ (i := 4) (N := some 46) (v := ?_) (a' := ?_) #[true, true, true, true, true, true, true, true, false, false, false, false, false] rfl rfl (take_ofW HT_.out HW_.out (by kernel_rfl)) (fun _ _ _ h => h) (Or.inl ⟨by rfl, ?_⟩) hHeld ?_ ?_
                rotate_left
                · rintro w' ⟨s0, s1⟩
                  go_simp
                  with_reducible rfl
                rotate_left
                · simp only [Act.put, List.setIfInBounds_toArray, List.set_cons_zero, List.set_cons_succ, i64_w, i32_w]
                  rfl
                refine take_ (i := 8) (N := some 50) (v := ?_) (a' := ?_) #[true, true, true, true, true, true, true, true, true, false, false, false, false] rfl rfl (take_ofW HT_.out HW_.out (by kernel_rfl)) (fun _ _ _ h => h) (Or.inl ⟨by rfl, ?_⟩) hHeld ?_ ?_
                rotate_left
                · rintro w' ⟨s0, s1⟩
                  go_simp
                  with_reducible rfl
                rotate_left
                · simp only [Act.put, List.setIfInBounds_toArray, List.set_cons_zero, List.set_cons_succ, i64_w, i32_w]
                  rfl
                refine pure_ (i := 9) (N := some 51) (v := ?_) (a' := ?_) #[true, true, true, true, true, true, true, true, true, true, false, false, false] rfl rfl (any_of HT_.out (by kernel_rfl)) (fun _ _ _ h => h) (Or.inl ⟨by rfl, ?_⟩) ?_ ?_
                rotate_left
                · intro w'
                  go_simp
                  with_reducible rfl
                rotate_left
                · simp only [Act.put, List.setIfInBounds_toArray, List.set_cons_zero, List.set_cons_succ, i64_w, i32_w]
                  rfl
                refine last_ (i := 10) (N := some 52) #[true, true, true, true, true, true, true, true, true, true, true, false, false] rfl rfl (one_of HT_.out (by kernel_rfl)) (by decide) (fun K hK => ?_)
                refine value_ (w1 := ?_) (v := ?_) (by rfl) rfl ?_ ?_
                rotate_left 2
                · go_simp
                  constructor
                  · rfl
                  · rfl
                refine hK.out _ _ ?_
                clear hK K
                refine norm_ (a' := ?_) ?_ ?_
                rotate_left
                · show Act.put _ (some 52) _ = _
                  simp only [Act.put, List.setIfInBounds_toArray, List.set_cons_zero, List.set_cons_succ, i64_w, i32_w]
                  rfl
                refine last_ (i := 11) (N := some 53) #[true, true, true, true, true, true, true, true, true, true, true, true, false] rfl rfl (one_of HT_.out (by kernel_rfl)) (by decide) (fun K hK => ?_)
                refine Kd.R_append_step k23 (w0 := w) w.heap.size (by rfl) (.tmp 42) (.tmp 52) 26 23 (.agg #[(.int .i64 0), (.int .i64 0)]) 16 rfl Try.underlying26 info23 rfl (by decide) (by omega) u11 x11_1 (⟨rd t175 x12_1, rd t182 x12_1⟩ : S23) [.int .i64 (rd t175 x12_1), .int .i64 (rd t182 x12_1)] (fun _ => True) (fun _ => False) rfl rfl ?aP (fun _ hk => hk.elim) ?aF ?aO ?aB ?aS ?aL ?_
                (case aP => exact k23_mkM _ _ _ (⟨rd t175 x12_1, rd t182 x12_1⟩ : S23))
                (case aB => exact (by repeat (first | (with_reducible first | exact HB.out | apply below_alloc | apply pw_below_drewN | apply below_drew1 | refine below_set ?_ GE170.out) | exact HB.out)))
                (case aF => exact (fun _ _ => trivial))
                (case aO => exact (by (with_reducible repeat (first | apply Kd.R_alloc | apply Kd.R_drewN | apply Kd.R_drew)); exact HO_11.out))
                (case aS => exact (below_size (by repeat (first | (with_reducible first | exact HB.out | apply below_alloc | apply pw_below_drewN | apply below_drew1 | refine below_set ?_ GE170.out) | exact HB.out))))
                (case aL => have := LMc25.out; omega)
                intro v191 w29 ho hb hg hat
                rw [← Ny190.out] at ho
                have n0_ := Aside0.mk (Kd.R_over' (by (with_reducible repeat (first | apply Kd.R_alloc | apply Kd.R_drewN | apply Kd.R_drew)); exact HO_9.out) (Kd.R_typed (by (with_reducible repeat (first | apply Kd.R_alloc | apply Kd.R_drewN | apply Kd.R_drew)); exact HO_11.out)) (by decide) hg)
                have n1_ := Aside0.mk (Kd.R_over' (by (with_reducible repeat (first | apply Kd.R_alloc | apply Kd.R_drewN | apply Kd.R_drew)); exact HO_10.out) (Kd.R_typed (by (with_reducible repeat (first | apply Kd.R_alloc | apply Kd.R_drewN | apply Kd.R_drew)); exact HO_11.out)) (by decide) hg)
                have n2_ := Aside0.mk (blk_grown (g := gb170) (o := .cells #[.int .i64 a0_0, .int .i64 a0_1, .int .i64 a0_2, .int .i64 a0_3, .int .i64 a0_4, .int .i64 a0_5, .int .i64 a0_6] 25 (0, 0)) (by (with_reducible repeat (first | refine blk_drewN ?_ _ | refine blk_drew ?_ | refine blk_alloc ?_ _)); exact BK170.out) hg (Kd.R_ne HO_11.out BK170.out (by decide)))
                have n3_ := Aside0.mk (hb)
                have n4_ := Aside0.mk (ho)
                clear HO_9
                clear HO_10
                clear BK170
                clear HB
                clear HO_11
                have HO_9 := n0_
                have HO_10 := n1_
                have BK170 := n2_
                have HB := n3_
                have HO192 := n4_
                clear n0_ n1_ n2_ n3_ n4_
                clear ho hb hg hat
                refine hK.out _ _ ?_
                clear hK K
                refine norm_ (a' := ?_) ?_ ?_
                rotate_left
                · show Act.put _ (some 53) _ = _
                  simp only [Act.put, List.setIfInBounds_toArray, List.set_cons_zero, List.set_cons_succ, i64_w, i32_w]
                  rfl
                refine pure_ (i := 12) (N := some 11) (v := ?_) (a' := ?_) #[true, true, true, true, true, true, true, true, true, true, true, true, true] rfl rfl (any_of HT_.out (by kernel_rfl)) (fun _ _ _ h => h) (Or.inl ⟨by rfl, ?_⟩) ?_ ?_
                rotate_left
                · intro w'
                  go_simp
                  with_reducible rfl
                rotate_left
                · simp only [Act.put, List.setIfInBounds_toArray, List.set_cons_zero, List.set_cons_succ, i64_w, i32_w]
                  rfl
                refine done_ (done_of HT_.out (by kernel_rfl)) ?_
                try go_wp2
                go_roundg k1
                case measure => have := HK1.out; omega
                case rel => exact ⟨(y190), (wrap64 (x12_1 + 1)), (by first | rfl | (simp; done) | (simp [*]; done)), H', ⟨by have := HK1.out; omega⟩, ⟨by (with_reducible repeat (first | apply Kd.R_alloc | apply Kd.R_drewN | apply Kd.R_drew)); exact HO_9.out⟩, ⟨by (with_reducible repeat (first | apply Kd.R_alloc | apply Kd.R_drewN | apply Kd.R_drew)); exact HO_10.out⟩, ⟨by (with_reducible repeat (first | apply Kd.R_alloc | apply Kd.R_drewN | apply Kd.R_drew)); exact HO192.out⟩, ⟨by (with_reducible repeat (first | refine blk_drewN ?_ _ | refine blk_drew ?_ | refine blk_alloc ?_ _)); exact BK170.out⟩, ⟨by repeat (first | (with_reducible first | exact HB.out | apply below_alloc | apply pw_below_drewN | apply below_drew1 | refine below_set ?_ GE170.out) | exact HB.out)⟩⟩
              · rw [if_neg c25] at H
                exact absurd H (by simp)
            · rw [if_neg c24] at H
              exact absurd H (by simp)
          · rw [if_neg c23] at H
            exact absurd H (by simp)
        · rw [if_neg c22] at H
          exact absurd H (by simp)
      · rw [if_neg c21] at H
        have c21b0 : decide (x12_1 < (l2.length : Int)) = false := decide_eq_false c21
        clear c21
        obtain rfl := Option.some.inj H
        go_wp2
        go_ret
        exact ⟨_, by first | rfl | (simp [errW_none, errW_some] <;> rfl) | (simp [*, errW_none, errW_some] <;> rfl), by (with_reducible repeat (first | apply Kd.R_alloc | apply Kd.R_drewN | apply Kd.R_drew)); exact HO_11.out, by repeat (first | (with_reducible first | exact HB.out | apply below_alloc | apply pw_below_drewN | apply below_drew1 | refine below_set ?_ GE170.out) | exact HB.out)⟩
end Go.Proofs.Ytcnlbbmokphjnaa.Q
namespace Go.Proofs.Ytcnlbbmokphjnaa.Q
open Go.RowKit Go.Proofs.YtcnlbbmokphjnaaW.PrintWords
set_option linter.unusedVariables false
set_option linter.unusedSimpArgs false
def endG (most : Bool) : Sp → Int := if most then Sp.hi else Sp.lo
theorem Truth_l0 (l : List S23) (hl : l.length ≤ 1000) (most : Bool) (now : Int) : ∀ (d i : Nat) (out : List Int), i + d = l.length → out.length = i → Ev (fun k => walkmillref02_Truth.l0 k l most now out (i : Int)) (now, out ++ ((toSp l).drop i).map (endG most))
  | 0, i, out, h, ho => by
    refine Ev.up ?_
    simp only [walkmillref02_Truth.l0, if_neg (show ¬ (i : Int) < (l.length : Int) by omega)]
    rw [List.drop_eq_nil_of_le (by rw [toSp_len]; omega)]
    simpa using Ev.now (now, out)
  | d + 1, i, out, h, ho => by
    refine Ev.up ?_
    simp only [walkmillref02_Truth.l0, if_pos (show (i : Int) < (l.length : Int) by omega), if_pos (show (0 : Int) ≤ (i : Int) by omega), if_pos (show out.length < 17592186044416 by omega), wi i (by omega), rd23 l i (by omega)]
    rw [toSp_drop l i (by omega), List.map_cons]
    cases most
    · have := Truth_l0 l hl false now d (i + 1) (out ++ [l[i].f0]) (by omega) (by simp [ho])
      simpa [endG] using this
    · have := Truth_l0 l hl true now d (i + 1) (out ++ [l[i].f1]) (by omega) (by simp [ho])
      simpa [endG] using this
theorem Truth_f (a0 a1 a2 a3 a4 a5 a6 : Int) (l : List S23) (hl : l.length ≤ 1000) (most : Bool) : Ev (fun k => walkmillref02_Truth.f k a0 a1 a2 a3 a4 a5 a6 l most) (endG most ⟨a5, a6⟩, (toSp l).map (endG most)) := by
  simp only [walkmillref02_Truth.f, Option.bind_some]
  cases most
  · refine Ev.up ?_
    have := Truth_l0 l hl false a5 l.length 0 [] (by omega) rfl
    simpa [walkmillref02_Truth.j0, endG] using this
  · refine Ev.up ?_
    have := Truth_l0 l hl true a6 l.length 0 [] (by omega) rfl
    simpa [walkmillref02_Truth.j0, endG] using this
def pondL (m : Mill) : Int → List Int → List Int → List Int
  | now, c :: cs, p :: ps => (min m.ho (now + c) - p * m.T) :: if min m.ho (now + c) - p * m.T < 0 then [] else pondL m (min m.ho (now + c) - p * m.T) cs ps
  | _, _, _ => []
structure FineC (m : Mill) (came plan : List Int) : Prop where
  ho : 0 ≤ m.ho ∧ m.ho ≤ 500
  T : 0 ≤ m.T ∧ m.T ≤ 100
  flow : ∀ c ∈ came, 0 ≤ c ∧ c ≤ 2000
  pl : ∀ k ∈ plan, 0 ≤ k ∧ k ≤ 10
  len : plan.length ≤ came.length
  long : came.length ≤ 1000
theorem FineC.step {m came plan} (h : FineC m came plan) (now : Int) (hn : 0 ≤ now ∧ now ≤ 2000) (i : Nat) (hi : i < plan.length) :
    wrap64 (mn m.ho (wrap64 (now + rd came i)) - wrap64 (rd plan i * m.T)) = min m.ho (now + rd came i) - rd plan i * m.T ∧ (0 ≤ min m.ho (now + rd came i) - rd plan i * m.T → min m.ho (now + rd came i) - rd plan i * m.T ≤ 2000) := by
  have h1 := h.flow (rd came i) (by rw [rdI came i (by have := h.len; omega)]; exact List.getElem_mem _)
  have h2 := h.pl (rd plan i) (by rw [rdI plan i hi]; exact List.getElem_mem _)
  have hT := h.T
  have hho := h.ho
  have h3 : 0 ≤ rd plan i * m.T := Int.mul_nonneg h2.1 hT.1
  have h4 : rd plan i * m.T ≤ 10 * 100 := Int.mul_le_mul h2.2 hT.2 hT.1 (by omega)
  rw [wr (x := now + rd came i) (by omega), wr (x := rd plan i * m.T) (by omega)]
  have e : mn m.ho (now + rd came i) = min m.ho (now + rd came i) := by unfold mn; omega
  rw [e, wr (by omega)]
  exact ⟨rfl, fun _ => by omega⟩
theorem Pond_l0 (a0 a1 a2 a3 a4 a5 a6 : Int) (came plan : List Int) (hf : FineC ⟨a0, a1, a2, a3, a4, a5, a6⟩ came plan) : ∀ (d i : Nat) (now : Int) (out : List Int), i + d = plan.length → out.length = i → 0 ≤ now ∧ now ≤ 2000 →
    Ev (fun k => walkmillref02_Pond.l0 k now came plan out (i : Int) a0 a1 a2 a3 a4 a5 a6) (out ++ pondL ⟨a0, a1, a2, a3, a4, a5, a6⟩ now (came.drop i) (plan.drop i))
  | 0, i, now, out, h, ho, hn => by
    refine Ev.up ?_
    simp only [walkmillref02_Pond.l0, if_neg (show ¬ (i : Int) < (plan.length : Int) by omega)]
    have e2 : plan.drop i = [] := List.drop_eq_nil_of_le (by omega)
    have e : pondL ⟨a0, a1, a2, a3, a4, a5, a6⟩ now (came.drop i) [] = [] := by cases came.drop i <;> rfl
    rw [e2, e, List.append_nil]
    exact Ev.now out
  | d + 1, i, now, out, h, ho, hn => by
    refine Ev.up ?_
    have hl := hf.len
    have hlong := hf.long
    obtain ⟨hs, hb⟩ := hf.step now hn i (by omega)
    simp only [walkmillref02_Pond.l0, if_pos (show (i : Int) < (plan.length : Int) by omega), if_pos (show (0 : Int) ≤ (i : Int) by omega), if_pos (show (i : Int) < (came.length : Int) by omega), if_pos (show out.length < 17592186044416 by omega), wi i (by omega), Option.bind_some]
    simp only at hs hb
    simp only [hs]
    rw [List.drop_eq_getElem_cons (show i < came.length by omega), List.drop_eq_getElem_cons (show i < plan.length by omega)]
    simp only [pondL]
    rw [← rdI came i (by omega), ← rdI plan i (by omega)]
    by_cases hlt : min a4 (now + rd came i) - rd plan i * a1 < 0
    · simp only [if_pos hlt]
      exact Ev.now _
    · simp only [if_neg hlt]
      have := Pond_l0 a0 a1 a2 a3 a4 a5 a6 came plan hf d (i + 1) (min a4 (now + rd came i) - rd plan i * a1) (out ++ [min a4 (now + rd came i) - rd plan i * a1]) (by omega) (by simp [ho]) ⟨by omega, hb (by omega)⟩
      simpa using this
theorem Pond_f (a0 a1 a2 a3 a4 a5 a6 now : Int) (came plan : List Int) (hf : FineC ⟨a0, a1, a2, a3, a4, a5, a6⟩ came plan) (hn : 0 ≤ now ∧ now ≤ 2000) : Ev (fun k => walkmillref02_Pond.f k a0 a1 a2 a3 a4 a5 a6 now came plan) (pondL ⟨a0, a1, a2, a3, a4, a5, a6⟩ now came plan) := by
  simpa [walkmillref02_Pond.f] using Pond_l0 a0 a1 a2 a3 a4 a5 a6 came plan hf plan.length 0 now [] (by omega) rfl hn
def dryP (m : Mill) : Int → List Int → List Int → Int
  | now, c :: cs, p :: ps => if min m.ho (now + c) - p * m.T < 0 then 0 else (if dryP m (min m.ho (now + c) - p * m.T) cs ps < 0 then -1 else dryP m (min m.ho (now + c) - p * m.T) cs ps + 1)
  | _, _, _ => -1
def lastNeg (t : List Int) : Int := if 0 < t.length ∧ rd t ((t.length : Int) - 1) < 0 then (t.length : Int) - 1 else -1
theorem lastNeg_cons (x : Int) (t : List Int) (ht : t ≠ []) : lastNeg (x :: t) = if lastNeg t < 0 then -1 else lastNeg t + 1 := by
  have hp : 0 < t.length := List.length_pos_iff.2 ht
  have e : rd (x :: t) (((x :: t).length : Int) - 1) = rd t ((t.length : Int) - 1) := by
    rw [show (((x :: t).length : Int) - 1) = (((t.length - 1) + 1 : Nat) : Int) by simp; omega, show ((t.length : Int) - 1) = ((t.length - 1 : Nat) : Int) by omega]
    simp [rd]
  unfold lastNeg
  rw [e]
  simp only [List.length_cons]
  by_cases h : rd t ((t.length : Int) - 1) < 0
  · simp only [h, hp, and_self, and_true, Nat.succ_pos, if_true]
    rw [if_neg (by omega)]
    omega
  · simp only [h, and_false, if_false]
    rw [if_pos (by omega)]
theorem pondL_ne (m : Mill) (now c p : Int) (cs ps : List Int) : pondL m now (c :: cs) (p :: ps) ≠ [] := by simp [pondL]
theorem lastNeg_pond (m : Mill) : ∀ (ps cs : List Int) (now : Int), ps.length ≤ cs.length → lastNeg (pondL m now cs ps) = dryP m now cs ps
  | [], cs, now, _ => by cases cs <;> simp [pondL, dryP, lastNeg]
  | p :: ps, [], now, h => by simp at h
  | p :: ps, c :: cs, now, h => by
    simp only [pondL, dryP]
    by_cases hlt : min m.ho (now + c) - p * m.T < 0
    · rw [if_pos hlt, if_pos hlt]
      simp [lastNeg, rd, hlt]
    · rw [if_neg hlt, if_neg hlt]
      have ih := lastNeg_pond m ps cs (min m.ho (now + c) - p * m.T) (by simpa using h)
      by_cases hn : pondL m (min m.ho (now + c) - p * m.T) cs ps = []
      · rw [hn] at ih ⊢
        rw [← ih]
        simp [lastNeg, rd]
        omega
      · rw [lastNeg_cons _ _ hn, ih]
theorem Dry_f (a0 a1 a2 a3 a4 a5 a6 now : Int) (came plan : List Int) (hf : FineC ⟨a0, a1, a2, a3, a4, a5, a6⟩ came plan) (hn : 0 ≤ now ∧ now ≤ 2000) : Ev (fun k => walkmillref02_Dry.f k a0 a1 a2 a3 a4 a5 a6 now came plan) (dryP ⟨a0, a1, a2, a3, a4, a5, a6⟩ now came plan) := by
  rw [← lastNeg_pond _ _ _ _ hf.len]
  have hlen : ∀ (ps cs : List Int) (now : Int), (pondL ⟨a0, a1, a2, a3, a4, a5, a6⟩ now cs ps).length ≤ ps.length := by
    intro ps
    induction ps with
    | nil => intro cs now; cases cs <;> simp [pondL]
    | cons p ps ih =>
      intro cs now
      cases cs with
      | nil => simp [pondL]
      | cons c cs =>
        simp only [pondL]
        split
        · simp
        · have := ih cs (min a4 (now + c) - p * a1)
          simp only [List.length_cons]
          omega
  have hl := hlen plan came now
  have h1 := hf.len
  have h2 := hf.long
  refine Ev.bind (Pond_f a0 a1 a2 a3 a4 a5 a6 now came plan hf hn) ?_
  generalize pondL ⟨a0, a1, a2, a3, a4, a5, a6⟩ now came plan = t at hl
  by_cases h0 : 0 < t.length
  · simp only [if_pos (show (t.length : Int) > 0 by omega), wr (x := (t.length : Int) - 1) (by omega), if_pos (show (0 : Int) ≤ (t.length : Int) - 1 by omega), if_pos (show (t.length : Int) - 1 < (t.length : Int) by omega)]
    by_cases hneg : rd t ((t.length : Int) - 1) < 0
    · simp only [if_pos hneg]
      rw [lastNeg, if_pos ⟨h0, hneg⟩]
      exact Ev.now _
    · simp only [if_neg hneg]
      rw [lastNeg, if_neg (fun h => hneg h.2)]
      exact Ev.now _
  · simp only [if_neg (show ¬ (t.length : Int) > 0 by omega)]
    rw [lastNeg, if_neg (fun h => h0 h.1)]
    exact Ev.now _
theorem dryF_cons (t : Tide) (ts : List Tide) : dryF (t :: ts) = if t.left < 0 then (t.hour : Int) else dryF ts := by
  unfold dryF
  rw [List.find?_cons]
  by_cases h : t.left < 0
  · simp [h]
  · simp [h]
theorem dryF_pond (m : Mill) (g : Sp → Int) (l : List Sp) : ∀ (p : List Int) (water : Int) (h : Nat), h + p.length ≤ l.length → dryF (tidesL m g l water p h) = if dryP m water ((l.drop h).map g) p < 0 then -1 else dryP m water ((l.drop h).map g) p + h
  | [], water, h, hl => by
    have e : dryP m water ((l.drop h).map g) [] = -1 := by cases (l.drop h).map g <;> rfl
    rw [e]
    rfl
  | k :: ks, water, h, hl => by
    rw [List.length_cons] at hl
    rw [List.drop_eq_getElem_cons (show h < l.length by omega), List.map_cons]
    simp only [tidesL, dryP, dryF_cons]
    have e : leftA m g l water h k = min m.ho (water + g l[h]) - k * m.T := by rw [leftA, fullA, rdS_nat l h (by omega)]
    rw [e]
    by_cases hlt : min m.ho (water + g l[h]) - k * m.T < 0
    · simp only [hlt, if_true]
      simp
    · simp only [hlt, if_false]
      rw [dryF_pond m g l ks _ (h + 1) (by omega)]
      by_cases h3 : dryP m (min m.ho (water + g l[h]) - k * m.T) ((l.drop (h + 1)).map g) ks < 0
      · rw [if_pos h3, if_pos h3, if_pos (by omega)]
      · rw [if_neg h3, if_neg h3, if_neg (by omega)]
        omega
theorem dryP_lo (m : Mill) : ∀ (ps cs : List Int) (now : Int), -1 ≤ dryP m now cs ps
  | [], cs, now => by cases cs <;> simp [dryP]
  | p :: ps, [], now => by simp [dryP]
  | p :: ps, c :: cs, now => by
    simp only [dryP]
    have := dryP_lo m ps cs (min m.ho (now + c) - p * m.T)
    split
    · omega
    · split <;> omega
theorem dryS_pond (m : Mill) (g : Sp → Int) (l : List Sp) (p : List Int) (hl : p.length ≤ l.length) : dryS m g l p = dryP m (g ⟨m.nl, m.nh⟩) (l.map g) p := by
  have h := dryF_pond m g l p (g ⟨m.nl, m.nh⟩) 0 (by omega)
  have h2 := dryP_lo m p (l.map g) (g ⟨m.nl, m.nh⟩)
  rw [List.drop_zero] at h
  unfold dryS
  rw [h]
  split <;> omega
theorem FineC.ofFine {m g l plan} (h : Fine m g l plan) (hl : l.length ≤ 1000) : FineC m (l.map g) plan :=
  ⟨h.ho, h.T, fun c hc => by obtain ⟨s, hs, rfl⟩ := List.mem_map.1 hc; exact h.flow s hs, h.pl, by rw [List.length_map]; exact h.len, by rw [List.length_map]; exact hl⟩
theorem Goes_f (a0 a1 a2 a3 a4 a5 a6 : Int) (l : List S23) (plan : List Int) (hl : l.length ≤ 1000) (h0 : Fine ⟨a0, a1, a2, a3, a4, a5, a6⟩ Sp.lo (toSp l) plan) (h1 : Fine ⟨a0, a1, a2, a3, a4, a5, a6⟩ Sp.hi (toSp l) plan) :
    Ev (fun k => walkmillref02_Goes.f k a0 a1 a2 a3 a4 a5 a6 l plan) (dryS ⟨a0, a1, a2, a3, a4, a5, a6⟩ Sp.lo (toSp l) plan, decide (0 ≤ dryS ⟨a0, a1, a2, a3, a4, a5, a6⟩ Sp.lo (toSp l) plan) && (dryS ⟨a0, a1, a2, a3, a4, a5, a6⟩ Sp.hi (toSp l) plan == dryS ⟨a0, a1, a2, a3, a4, a5, a6⟩ Sp.lo (toSp l) plan)) := by
  unfold walkmillref02_Goes.f
  have hln : (toSp l).length ≤ 1000 := by rw [toSp_len]; exact hl
  refine Ev.bind (Truth_f a0 a1 a2 a3 a4 a5 a6 l hl false) ?_
  refine Ev.bind (a := dryS ⟨a0, a1, a2, a3, a4, a5, a6⟩ Sp.lo (toSp l) plan) ?_ ?_
  · rw [dryS_pond _ _ _ _ h0.len]
    exact Dry_f a0 a1 a2 a3 a4 a5 a6 a5 _ plan (FineC.ofFine h0 hln) h0.now
  · refine Ev.bind (Truth_f a0 a1 a2 a3 a4 a5 a6 l hl true) ?_
    by_cases hp : 0 ≤ dryS ⟨a0, a1, a2, a3, a4, a5, a6⟩ Sp.lo (toSp l) plan
    · simp only [if_pos (show dryS ⟨a0, a1, a2, a3, a4, a5, a6⟩ Sp.lo (toSp l) plan ≥ 0 from hp), decide_eq_true hp, Bool.true_and]
      refine Ev.bind (a := dryS ⟨a0, a1, a2, a3, a4, a5, a6⟩ Sp.hi (toSp l) plan) ?_ (Ev.now _)
      rw [dryS_pond _ _ _ _ h1.len]
      exact Dry_f a0 a1 a2 a3 a4 a5 a6 a6 _ plan (FineC.ofFine h1 hln) h1.now
    · simp only [if_neg (show ¬ dryS ⟨a0, a1, a2, a3, a4, a5, a6⟩ Sp.lo (toSp l) plan ≥ 0 from hp), decide_eq_false hp, Bool.false_and]
      exact Ev.now _
theorem pondL_tides (m : Mill) (g : Sp → Int) (l : List Sp) : ∀ (p : List Int) (water : Int) (h : Nat), h + p.length ≤ l.length → pondL m water ((l.drop h).map g) p = (tidesL m g l water p h).map (·.left)
  | [], water, h, hl => by cases (l.drop h).map g <;> rfl
  | k :: ks, water, h, hl => by
    rw [List.length_cons] at hl
    rw [List.drop_eq_getElem_cons (show h < l.length by omega), List.map_cons]
    have e : leftA m g l water h k = min m.ho (water + g l[h]) - k * m.T := by rw [leftA, fullA, rdS_nat l h (by omega)]
    simp only [tidesL, pondL, List.map_cons]
    rw [e]
    by_cases hlt : min m.ho (water + g l[h]) - k * m.T < 0
    · rw [if_pos hlt, if_pos hlt]; rfl
    · rw [if_neg hlt, if_neg hlt, pondL_tides m g l ks _ (h + 1) (by omega)]
theorem Levels_l0 (p a b : List Int) (hl : p.length ≤ 1000) (ha : p.length ≤ a.length) (hb : p.length ≤ b.length) : ∀ (d i : Nat) (out : List S23), i + d = p.length → out.length = i → Ev (fun k => walkmillref02_Levels.l0 k p a b out (i : Int)) (out ++ ((List.range p.length).drop i).map (fun h => ⟨a.getD h 0, b.getD h 0⟩))
  | 0, i, out, h, ho => by
    refine Ev.up ?_
    simp only [walkmillref02_Levels.l0, if_neg (show ¬ (i : Int) < (p.length : Int) by omega)]
    rw [List.drop_eq_nil_of_le (by simp; omega)]
    simpa using Ev.now out
  | d + 1, i, out, h, ho => by
    refine Ev.up ?_
    simp only [walkmillref02_Levels.l0, if_pos (show (i : Int) < (p.length : Int) by omega), if_pos (show (0 : Int) ≤ (i : Int) by omega), if_pos (show (i : Int) < (a.length : Int) by omega), if_pos (show (i : Int) < (b.length : Int) by omega), if_pos (show out.length < 8796093022208 by omega), wi i (by omega)]
    rw [List.drop_eq_getElem_cons (show i < (List.range p.length).length by simp; omega), List.map_cons]
    have := Levels_l0 p a b hl ha hb d (i + 1) (out ++ [⟨rd a i, rd b i⟩]) (by omega) (by simp [ho])
    simpa [rd] using this
theorem Levels_f (a0 a1 a2 a3 a4 a5 a6 : Int) (l : List S23) (plan : List Int) (hl : l.length ≤ 1000) (h0 : Fine ⟨a0, a1, a2, a3, a4, a5, a6⟩ Sp.lo (toSp l) plan) (h1 : Fine ⟨a0, a1, a2, a3, a4, a5, a6⟩ Sp.hi (toSp l) plan)
    (hlo : dryS ⟨a0, a1, a2, a3, a4, a5, a6⟩ Sp.lo (toSp l) plan = -1) (hle : ∀ s ∈ toSp l, s.lo ≤ s.hi) (hnow : a5 ≤ a6) :
    Ev (fun k => walkmillref02_Levels.f k a0 a1 a2 a3 a4 a5 a6 l plan) (ofSp (levelsL ⟨a0, a1, a2, a3, a4, a5, a6⟩ (toSp l) plan)) := by
  unfold walkmillref02_Levels.f
  have hln : (toSp l).length ≤ 1000 := by rw [toSp_len]; exact hl
  have hpl : plan.length ≤ 1000 := by have := h0.len; omega
  have hn := dryS_none _ _ _ _ hlo
  have hn2 := more_water ⟨a0, a1, a2, a3, a4, a5, a6⟩ (toSp l) (by
    intro j
    by_cases hj : j < (toSp l).length
    · rw [rdS_nat _ j hj]; exact hle _ (List.getElem_mem _)
    · simp [rdS, List.getD_eq_getElem?_getD, List.getElem?_eq_none (Nat.le_of_not_lt hj), z_Sp]) plan a5 a6 0 hnow hn
  have hf1 := tidesL_full _ Sp.lo (toSp l) plan _ 0 hn
  have hf2 := tidesL_full _ Sp.hi (toSp l) plan _ 0 hn2
  have e0 := pondL_tides ⟨a0, a1, a2, a3, a4, a5, a6⟩ Sp.lo (toSp l) plan a5 0 (by have := h0.len; omega)
  have e1 := pondL_tides ⟨a0, a1, a2, a3, a4, a5, a6⟩ Sp.hi (toSp l) plan a6 0 (by have := h1.len; omega)
  rw [List.drop_zero] at e0 e1
  refine Ev.bind (Truth_f a0 a1 a2 a3 a4 a5 a6 l hl false) ?_
  refine Ev.bind (Pond_f a0 a1 a2 a3 a4 a5 a6 a5 _ plan (FineC.ofFine h0 hln) h0.now) ?_
  refine Ev.bind (Truth_f a0 a1 a2 a3 a4 a5 a6 l hl true) ?_
  refine Ev.bind (Pond_f a0 a1 a2 a3 a4 a5 a6 a6 _ plan (FineC.ofFine h1 hln) h1.now) ?_
  simp only [show endG false = Sp.lo from rfl, show endG true = Sp.hi from rfl, e0, e1]
  have hL := Levels_l0 plan ((tidesL ⟨a0, a1, a2, a3, a4, a5, a6⟩ Sp.lo (toSp l) a5 plan 0).map (·.left)) ((tidesL ⟨a0, a1, a2, a3, a4, a5, a6⟩ Sp.hi (toSp l) a6 plan 0).map (·.left)) hpl (by rw [List.length_map]; exact Nat.le_of_eq hf1.symm) (by rw [List.length_map]; exact Nat.le_of_eq hf2.symm) plan.length 0 [] (by omega) rfl
  rw [List.drop_zero, List.nil_append] at hL
  have e : ofSp (levelsL ⟨a0, a1, a2, a3, a4, a5, a6⟩ (toSp l) plan) = (List.range plan.length).map (fun h => (⟨((tidesL ⟨a0, a1, a2, a3, a4, a5, a6⟩ Sp.lo (toSp l) a5 plan 0).map (·.left)).getD h 0, ((tidesL ⟨a0, a1, a2, a3, a4, a5, a6⟩ Sp.hi (toSp l) a6 plan 0).map (·.left)).getD h 0⟩ : S23)) := by
    simp only [ofSp, levelsL, List.map_map]
    rfl
  rw [e]
  exact hL
end Go.Proofs.Ytcnlbbmokphjnaa.Q
namespace Go.Proofs.Ytcnlbbmokphjnaa.Q
open Go.RowKit Go.Proofs.YtcnlbbmokphjnaaW.PrintWords
set_option linter.unusedVariables false
set_option linter.unusedSimpArgs false
def planQ (k : Int) (fr n : Nat) : List Int := (List.range n).map (fun i => if fr ≤ i then k else 0)
theorem planQ_len (k : Int) (fr n : Nat) : (planQ k fr n).length = n := by simp [planQ]
theorem planQ_mem {k : Int} {fr n : Nat} {x : Int} (h : x ∈ planQ k fr n) : x = k ∨ x = 0 := by
  simp only [planQ, List.mem_map] at h
  obtain ⟨i, _, rfl⟩ := h
  split
  · exact .inl rfl
  · exact .inr rfl
theorem planQ_take (k : Int) (fr n t : Nat) (h : t ≤ n) : (planQ k fr n).take t = planQ k fr t := by
  simp only [planQ, ← List.map_take, List.take_range, Nat.min_eq_left h]
theorem planTo_planQ (k : Int) (fr n : Nat) : planTo n k fr n = planQ k fr n := by
  simp only [planTo, planQ]
  refine List.map_congr_left (fun i hi => ?_)
  have := List.mem_range.1 hi
  by_cases h : fr ≤ i
  · rw [if_pos ⟨h, this⟩, if_pos h]
  · rw [if_neg (fun q => h q.1), if_neg h]
theorem dryP_take (m : Mill) : ∀ (ps cs : List Int) (now : Int) (t : Nat), dryP m now cs (ps.take t) < 0 ↔ (dryP m now cs ps < 0 ∨ (t : Int) ≤ dryP m now cs ps)
  | [], cs, now, t => by cases cs <;> simp [dryP]
  | p :: ps, [], now, 0 => by simp [dryP]
  | p :: ps, [], now, t + 1 => by simp [dryP]
  | p :: ps, c :: cs, now, 0 => by
    have := dryP_lo m (p :: ps) (c :: cs) now
    simp only [List.take_zero, dryP]
    constructor
    · intro _
      by_cases h : dryP m now (c :: cs) (p :: ps) < 0
      · exact .inl h
      · exact .inr (by simp only [dryP] at h; simp; omega)
    · intro _; omega
  | p :: ps, c :: cs, now, t + 1 => by
    have ih := dryP_take m ps cs (min m.ho (now + c) - p * m.T) t
    have hlo := dryP_lo m ps cs (min m.ho (now + c) - p * m.T)
    simp only [List.take_succ_cons, dryP]
    by_cases h : min m.ho (now + c) - p * m.T < 0
    · simp only [h, if_true]; simp
    · simp only [h, if_false]
      by_cases h1 : dryP m (min m.ho (now + c) - p * m.T) cs (ps.take t) < 0
      · have h2 := ih.1 h1
        simp only [h1, if_true]
        by_cases h3 : dryP m (min m.ho (now + c) - p * m.T) cs ps < 0
        · simp only [h3, if_true]; simp
        · simp only [h3, if_false]
          constructor
          · intro _; right; omega
          · intro _; omega
      · have h2 : ¬ (dryP m (min m.ho (now + c) - p * m.T) cs ps < 0 ∨ (t : Int) ≤ dryP m (min m.ho (now + c) - p * m.T) cs ps) := fun q => h1 (ih.2 q)
        have h3 : ¬ dryP m (min m.ho (now + c) - p * m.T) cs ps < 0 := fun q => h2 (.inl q)
        have h4 : ¬ (t : Int) ≤ dryP m (min m.ho (now + c) - p * m.T) cs ps := fun q => h2 (.inr q)
        simp only [h1, h3, if_false]
        constructor
        · intro _; omega
        · intro _; omega
theorem dryP_zeros (m : Mill) (hho : 0 ≤ m.ho) : ∀ (fr : Nat) (ps cs : List Int) (now : Int), 0 ≤ now → (∀ c ∈ cs, 0 ≤ c) → (∀ i, i < fr → i < ps.length → rd ps (i : Int) = 0) → dryP m now cs ps < 0 ∨ (fr : Int) ≤ dryP m now cs ps
  | 0, ps, cs, now, _, _, _ => by have := dryP_lo m ps cs now; omega
  | fr + 1, [], cs, now, _, _, _ => by cases cs <;> simp [dryP]
  | fr + 1, p :: ps, [], now, _, _, _ => by simp [dryP]
  | fr + 1, p :: ps, c :: cs, now, h0, hc, hz => by
    have hp : p = 0 := by simpa [rd] using hz 0 (by omega) (by simp)
    have hc0 := hc c (List.mem_cons_self ..)
    have ih := dryP_zeros m hho fr ps cs (min m.ho (now + c)) (by omega) (fun x hx => hc x (List.mem_cons_of_mem _ hx)) (fun i hi hl => by
      have := hz (i + 1) (by omega) (by simp; omega)
      simpa [rd] using this)
    subst hp
    simp only [dryP, Int.zero_mul, Int.sub_zero]
    have h1 : ¬ min m.ho (now + c) < 0 := by omega
    simp only [h1, if_false]
    rcases ih with ih | ih
    · simp [ih]
    · have h2 : ¬ dryP m (min m.ho (now + c)) cs ps < 0 := by omega
      simp only [h2, if_false]
      omega
theorem Lasts_l1 (a0 a1 a2 a3 a4 a5 a6 : Int) (l : List S23) (k : Int) (fr now : Int) (came : List Int) (n : Int) (tt : Nat) (frn : Nat) (hfr : fr = (frn : Int)) (hto : tt ≤ 1000) (r : Int) (hn : 0 ≤ now ∧ now ≤ 2000)
    (hf : FineC ⟨a0, a1, a2, a3, a4, a5, a6⟩ came (planQ k frn tt))
    (h : Ev (fun K => if dryP ⟨a0, a1, a2, a3, a4, a5, a6⟩ now came (planQ k frn tt) < 0 then walkmillref02_Lasts.l0 K l k fr now came (wrap64 ((tt : Int) - fr)) (wrap64 ((tt : Int) + 1)) a0 a1 a2 a3 a4 a5 a6 else walkmillref02_Lasts.l0 K l k fr now came n (wrap64 ((tt : Int) + 1)) a0 a1 a2 a3 a4 a5 a6) r) :
    ∀ (d i : Nat) (out : List Int), i + d = tt → out = planQ k frn i → Ev (fun K => walkmillref02_Lasts.l1 K l k fr now came n (tt : Int) out (i : Int) a0 a1 a2 a3 a4 a5 a6) r
  | 0, i, out, hi, ho => by
    refine Ev.up ?_
    obtain rfl : i = tt := by omega
    subst ho
    simp only [walkmillref02_Lasts.l1, if_neg (show ¬ (i : Int) < (i : Int) by omega)]
    exact Ev.bind (Dry_f a0 a1 a2 a3 a4 a5 a6 now came _ hf hn) h
  | d + 1, i, out, hi, ho => by
    refine Ev.up ?_
    have hl : out.length = i := by rw [ho, planQ_len]
    simp only [walkmillref02_Lasts.l1, if_pos (show (i : Int) < (tt : Int) by omega), if_pos (show out.length < 17592186044416 by omega), wi i (by omega)]
    have hs : planQ k frn (i + 1) = planQ k frn i ++ [if frn ≤ i then k else 0] := by simp [planQ, List.range_succ]
    by_cases hge : frn ≤ i
    · simp only [if_pos (show (i : Int) ≥ fr by omega)]
      exact Lasts_l1 a0 a1 a2 a3 a4 a5 a6 l k fr now came n tt frn hfr hto r hn hf h d (i + 1) _ (by omega) (by rw [hs, ho, if_pos hge])
    · simp only [if_neg (show ¬ (i : Int) ≥ fr by omega)]
      exact Lasts_l1 a0 a1 a2 a3 a4 a5 a6 l k fr now came n tt frn hfr hto r hn hf h d (i + 1) _ (by omega) (by rw [hs, ho, if_neg hge])
def farI (m : Mill) (now : Int) (came : List Int) (k : Int) (fr n : Nat) : Int := if dryP m now came (planQ k fr n) < 0 then (n : Int) else dryP m now came (planQ k fr n)
theorem Lasts_l0 (a0 a1 a2 a3 a4 a5 a6 : Int) (l : List S23) (k : Int) (frn : Nat) (now : Int) (came : List Int) (hl : l.length ≤ 900) (hfl : frn ≤ l.length) (hn : 0 ≤ now ∧ now ≤ 2000)
    (hf : FineC ⟨a0, a1, a2, a3, a4, a5, a6⟩ came (planQ k frn l.length)) : ∀ (d tt : Nat), tt + d = l.length + 1 → frn + 1 ≤ tt →
    Ev (fun K => walkmillref02_Lasts.l0 K l k (frn : Int) now came (min ((tt : Int) - 1) (farI ⟨a0, a1, a2, a3, a4, a5, a6⟩ now came k frn l.length) - frn) (tt : Int) a0 a1 a2 a3 a4 a5 a6) (farI ⟨a0, a1, a2, a3, a4, a5, a6⟩ now came k frn l.length - frn)
  | 0, tt, h, hfr => by
    refine Ev.up ?_
    simp only [walkmillref02_Lasts.l0, if_neg (show ¬ (tt : Int) ≤ (l.length : Int) by omega)]
    have hle : farI ⟨a0, a1, a2, a3, a4, a5, a6⟩ now came k frn l.length ≤ l.length := by
      unfold farI
      split
      · omega
      · rename_i hd
        have := (dryP_take ⟨a0, a1, a2, a3, a4, a5, a6⟩ (planQ k frn l.length) came now (l.length + 1))
        rw [List.take_of_length_le (by rw [planQ_len]; omega)] at this
        have h3 : ¬ (((l.length + 1 : Nat) : Int) ≤ dryP ⟨a0, a1, a2, a3, a4, a5, a6⟩ now came (planQ k frn l.length)) := fun q => hd (this.2 (.inr q))
        omega
    rw [show min ((tt : Int) - 1) (farI ⟨a0, a1, a2, a3, a4, a5, a6⟩ now came k frn l.length) = farI ⟨a0, a1, a2, a3, a4, a5, a6⟩ now came k frn l.length by omega]
    exact Ev.now _
  | d + 1, tt, h, hfr => by
    refine Ev.up ?_
    simp only [walkmillref02_Lasts.l0, if_pos (show (tt : Int) ≤ (l.length : Int) by omega)]
    have hf2 : FineC ⟨a0, a1, a2, a3, a4, a5, a6⟩ came (planQ k frn tt) := ⟨hf.ho, hf.T, hf.flow, fun x hx => by
      rw [← planQ_take k frn l.length tt (by omega)] at hx
      exact hf.pl x (List.mem_of_mem_take hx), by have := hf.len; rw [planQ_len] at this ⊢; omega, hf.long⟩
    have htk := dryP_take ⟨a0, a1, a2, a3, a4, a5, a6⟩ (planQ k frn l.length) came now tt
    rw [planQ_take k frn l.length tt (by omega)] at htk
    have hge : (frn : Int) ≤ farI ⟨a0, a1, a2, a3, a4, a5, a6⟩ now came k frn l.length := by
      unfold farI
      have := dryP_zeros ⟨a0, a1, a2, a3, a4, a5, a6⟩ hf.ho.1 frn (planQ k frn l.length) came now hn.1 (fun c hc => (hf.flow c hc).1) (fun i hi hil => by
        rw [planQ_len] at hil
        simp [rd, planQ, hil]
        omega)
      split
      · omega
      · rename_i hd; rcases this with h | h
        · exact absurd h hd
        · exact h
    have hiff : dryP ⟨a0, a1, a2, a3, a4, a5, a6⟩ now came (planQ k frn tt) < 0 ↔ (tt : Int) ≤ farI ⟨a0, a1, a2, a3, a4, a5, a6⟩ now came k frn l.length := by
      rw [htk]
      unfold farI
      split
      · rename_i hd; constructor
        · intro _; omega
        · intro _; exact .inl hd
      · rename_i hd; constructor
        · rintro (h | h)
          · exact absurd h hd
          · exact h
        · intro h; exact .inr h
    refine Lasts_l1 a0 a1 a2 a3 a4 a5 a6 l k (frn : Int) now came _ tt frn rfl (by omega) _ hn hf2 ?_ tt 0 [] (by omega) (by simp [planQ])
    have ih := Lasts_l0 a0 a1 a2 a3 a4 a5 a6 l k frn now came hl hfl hn hf d (tt + 1) (by omega) (by omega)
    rw [show ((tt + 1 : Nat) : Int) - 1 = (tt : Int) by omega] at ih
    by_cases hd : dryP ⟨a0, a1, a2, a3, a4, a5, a6⟩ now came (planQ k frn tt) < 0
    · have h2 := hiff.1 hd
      simp only [if_pos hd, wi tt (by omega)]
      rw [wr (by omega)]
      rw [show min (tt : Int) (farI ⟨a0, a1, a2, a3, a4, a5, a6⟩ now came k frn l.length) = (tt : Int) by omega] at ih
      exact ih
    · have h2 : ¬ (tt : Int) ≤ farI ⟨a0, a1, a2, a3, a4, a5, a6⟩ now came k frn l.length := fun q => hd (hiff.2 q)
      simp only [if_neg hd, wi tt (by omega)]
      rw [show min (tt : Int) (farI ⟨a0, a1, a2, a3, a4, a5, a6⟩ now came k frn l.length) = min ((tt : Int) - 1) (farI ⟨a0, a1, a2, a3, a4, a5, a6⟩ now came k frn l.length) by omega] at ih
      exact ih
theorem endG_fine {m : Mill} {l : List Sp} (hv : Valid m l) (most : Bool) {k : Int} (hk : 0 ≤ k ∧ k ≤ 10) (fr : Nat) : FineC m (l.map (endG most)) (planQ k fr l.length) ∧ 0 ≤ endG most ⟨m.nl, m.nh⟩ ∧ endG most ⟨m.nl, m.nh⟩ ≤ 2000 := by
  have h1 := hv.now
  have h2 := hv.ho
  have h3 := hv.T
  have h4 := hv.len
  refine ⟨⟨h2, by omega, fun c hc => ?_, fun x hx => ?_, by rw [planQ_len, List.length_map]; exact Nat.le_refl _, by rw [List.length_map]; omega⟩, ?_⟩
  · obtain ⟨s, hs, rfl⟩ := List.mem_map.1 hc
    have := hv.flow s hs
    cases most <;> simp only [endG, if_true, Bool.false_eq_true, if_false] <;> omega
  · rcases planQ_mem hx with rfl | rfl <;> omega
  · cases most <;> simp only [endG, if_true, Bool.false_eq_true, if_false] <;> omega
theorem Lasts_f (a0 a1 a2 a3 a4 a5 a6 : Int) (l : List S23) (k : Int) (fr : Nat) (most : Bool) (hv : Valid ⟨a0, a1, a2, a3, a4, a5, a6⟩ (toSp l)) (hk : 0 ≤ k ∧ k ≤ 10) (hfr : fr ≤ l.length) :
    Ev (fun K => walkmillref02_Lasts.f K a0 a1 a2 a3 a4 a5 a6 l k (fr : Int) most) (lastsS ⟨a0, a1, a2, a3, a4, a5, a6⟩ (endG most) (toSp l) k fr) := by
  have hln := hv.len
  rw [toSp_len] at hln
  obtain ⟨hF, hn⟩ := endG_fine hv most hk fr
  rw [toSp_len] at hF
  unfold walkmillref02_Lasts.f
  refine Ev.bind (Truth_f a0 a1 a2 a3 a4 a5 a6 l (by omega) most) ?_
  have h := Lasts_l0 a0 a1 a2 a3 a4 a5 a6 l k fr (endG most ⟨a5, a6⟩) ((toSp l).map (endG most)) (by omega) hfr hn hF (l.length - fr) (fr + 1) (by omega) (by omega)
  have hge : 0 ≤ farI ⟨a0, a1, a2, a3, a4, a5, a6⟩ (endG most ⟨a5, a6⟩) ((toSp l).map (endG most)) k fr l.length - fr := by
    unfold farI
    have := dryP_zeros ⟨a0, a1, a2, a3, a4, a5, a6⟩ hF.ho.1 fr (planQ k fr l.length) ((toSp l).map (endG most)) (endG most ⟨a5, a6⟩) hn.1 (fun c hc => (hF.flow c hc).1) (fun i hi hil => by
        rw [planQ_len] at hil
        simp [rd, planQ, hil]
        omega)
    split
    · omega
    · rename_i hd; rcases this with h | h
      · exact absurd h hd
      · omega
  have e : lastsS ⟨a0, a1, a2, a3, a4, a5, a6⟩ (endG most) (toSp l) k fr = farI ⟨a0, a1, a2, a3, a4, a5, a6⟩ (endG most ⟨a5, a6⟩) ((toSp l).map (endG most)) k fr l.length - fr := by
    unfold lastsS farI
    rw [planTo_planQ, dryS_pond _ _ _ _ (by rw [planQ_len]; exact Nat.le_refl _), toSp_len]
    have hlo := dryP_lo ⟨a0, a1, a2, a3, a4, a5, a6⟩ (planQ k fr l.length) ((toSp l).map (endG most)) (endG most ⟨a5, a6⟩)
    split
    · rename_i hd
      simp only at hd
      rw [if_pos (by omega)]
    · rename_i hd
      simp only at hd
      rw [if_neg (by omega)]
  rw [e]
  rw [show ((fr + 1 : Nat) : Int) - 1 = (fr : Int) by omega, show min (fr : Int) (farI ⟨a0, a1, a2, a3, a4, a5, a6⟩ (endG most ⟨a5, a6⟩) ((toSp l).map (endG most)) k fr l.length) - fr = 0 by omega] at h
  rw [wi fr (by omega)]
  exact h
end Go.Proofs.Ytcnlbbmokphjnaa.Q
namespace Go.Proofs.Ytcnlbbmokphjnaa.Q
open Go.RowKit Go.Proofs.YtcnlbbmokphjnaaW.PrintWords
set_option linter.unusedVariables false
set_option linter.unusedSimpArgs false
theorem lastsS_le (m : Mill) (g : Sp → Int) (l : List Sp) (k : Int) (fr : Nat) : lastsS m g l k fr ≤ (l.length : Int) - fr := by
  have h := dryS_bd m g l (planTo l.length k fr l.length)
  rw [planTo_length] at h
  unfold lastsS
  split <;> omega
theorem fstN_none (p : Nat → Bool) : ∀ (n i : Nat), (∀ j, i ≤ j → j < i + n → p j = false) → fstN p n i = -1
  | 0, i, _ => rfl
  | n + 1, i, h => by
    rw [fstN, h i (Nat.le_refl _) (by omega)]
    exact fstN_none p n (i + 1) (fun j h1 h2 => h j (by omega) (by omega))
theorem fstN_lo (p : Nat → Bool) : ∀ (n i : Nat), -1 ≤ fstN p n i
  | 0, i => by simp [fstN]
  | n + 1, i => by
    rw [fstN]
    split
    · omega
    · exact fstN_lo p n (i + 1)
theorem Window_l0 (a0 a1 a2 a3 a4 a5 a6 : Int) (l : List S23) (k hrs : Int) (hv : Valid ⟨a0, a1, a2, a3, a4, a5, a6⟩ (toSp l)) (hk : 0 ≤ k ∧ k ≤ 10) (hh : 1 ≤ hrs ∧ hrs ≤ 24) : ∀ (d fr : Nat), fr + d = l.length →
    Ev (fun K => walkmillref02_Window.l0 K l k hrs (fr : Int) a0 a1 a2 a3 a4 a5 a6) (fstN (fun f => decide (lastsS ⟨a0, a1, a2, a3, a4, a5, a6⟩ Sp.lo (toSp l) k f ≥ hrs)) d fr)
  | d, fr, h => by
    have hln := hv.len
    rw [toSp_len] at hln
    have hle := lastsS_le ⟨a0, a1, a2, a3, a4, a5, a6⟩ Sp.lo (toSp l) k
    rw [toSp_len] at hle
    refine Ev.up ?_
    simp only [walkmillref02_Window.l0]
    rw [wr (x := (fr : Int) + hrs) (by omega)]
    by_cases hlt : (fr : Int) + hrs ≤ (l.length : Int)
    · simp only [if_pos hlt]
      match d, h with
      | 0, h => exact absurd hlt (by omega)
      | d + 1, h =>
        refine Ev.bind (Lasts_f a0 a1 a2 a3 a4 a5 a6 l k fr false hv hk (by omega)) ?_
        simp only [show endG false = Sp.lo from rfl, fstN]
        by_cases hge : lastsS ⟨a0, a1, a2, a3, a4, a5, a6⟩ Sp.lo (toSp l) k fr ≥ hrs
        · simp only [if_pos hge, decide_eq_true hge, if_true]
          exact Ev.now _
        · simp only [if_neg hge, decide_eq_false hge, Bool.false_eq_true, if_false, wi fr (by omega)]
          exact Window_l0 a0 a1 a2 a3 a4 a5 a6 l k hrs hv hk hh d (fr + 1) (by omega)
    · simp only [if_neg hlt]
      rw [fstN_none _ d fr (fun j h1 h2 => by
        have := hle j
        simp only [decide_eq_false_iff_not]
        omega)]
      exact Ev.now _
theorem Window_f (a0 a1 a2 a3 a4 a5 a6 : Int) (l : List S23) (k hrs : Int) (hv : Valid ⟨a0, a1, a2, a3, a4, a5, a6⟩ (toSp l)) (hk : 0 ≤ k ∧ k ≤ 10) (hh : 1 ≤ hrs ∧ hrs ≤ 24) :
    Ev (fun K => walkmillref02_Window.f K a0 a1 a2 a3 a4 a5 a6 l k hrs) (windowF ⟨a0, a1, a2, a3, a4, a5, a6⟩ (toSp l) k hrs) := by
  have h := Window_l0 a0 a1 a2 a3 a4 a5 a6 l k hrs hv hk hh l.length 0 (by omega)
  rw [windowF, toSp_len]
  exact h
theorem StreamWindows_ev (a0 a1 a2 a3 a4 a5 a6 : Int) (l1 : List S23) (v0 v1 : Int) : Ev (fun k => walkmilllaw02_StreamWindows.f k a0 a1 a2 a3 a4 a5 a6 l1 v0 v1) true := by
  unfold walkmilllaw02_StreamWindows.f
  by_cases h1 : l1.length > 40
  · simp only [if_pos (show (l1.length : Int) > 40 by omega), known_f, Option.bind_some]
    exact Ev.now true
  simp only [if_neg (show ¬ (l1.length : Int) > 40 by omega), Copy_f l1 (by omega), Option.bind_some, stream_Window.f]
  refine Ev.bind (Same_f l1 l1 (by omega)) ?_
  simp only [decide_true, if_true]
  refine Ev.bind (Check_f a0 a1 a2 a3 a4 a5 a6 l1 (by omega)) ?_
  generalize hM : (⟨a0, a1, a2, a3, a4, a5, a6⟩ : Mill) = M
  have hH : M.H = a0 := by rw [← hM]
  by_cases hc : checkE M (toSp l1) = 0
  · have hv := valid_of M (toSp l1) hc
    have hlen := hv.len
    rw [toSp_len] at hlen
    simp only [if_pos hc, In_f, Option.bind_some]
    have key : ∀ b : Bool, b = (inB 1 M.H [v0] && inB 1 24 [v1]) → Ev (fun k => walkmilllaw02_StreamWindows.j0 k l1 (windowI M (toSp l1) v0 v1) (windowE M (toSp l1) v0 v1) (checkE M (toSp l1)) (!b) a0 a1 a2 a3 a4 a5 a6 v0 v1) true := by
      intro b hb
      refine Ev.up ?_
      cases b
      · have g0 : windowG M (toSp l1) v0 v1 = 3 := by rw [windowG, if_pos hc, ← hb]; rfl
        have g1 : windowE M (toSp l1) v0 v1 = 3 := by rw [windowE, g0]; rfl
        have g2 : windowI M (toSp l1) v0 v1 = 0 := by rw [windowI, g0]; rfl
        simp only [walkmilllaw02_StreamWindows.j0, Bool.not_false, if_true]
        refine Ev.up ?_
        simp only [walkmilllaw02_StreamWindows.j1, g1, g2]
        simpa [known_f] using Ev.now true
      · have g0 : windowG M (toSp l1) v0 v1 = 0 := by rw [windowG, if_pos hc, ← hb]; rfl
        have hb2 := hb.symm
        rw [Bool.and_eq_true, inB_iff, inB_iff] at hb2
        have q0 := hb2.1 v0 (by simp)
        have q1 := hb2.2 v1 (by simp)
        have hHb := hv.H
        have hlo := fstN_lo (fun fr => decide (lastsS M Sp.lo (toSp l1) v0 fr ≥ v1)) (toSp l1).length 0
        rw [show fstN (fun fr => decide (lastsS M Sp.lo (toSp l1) v0 fr ≥ v1)) (toSp l1).length 0 = windowF M (toSp l1) v0 v1 from rfl] at hlo
        subst hM
        have L0 := Window_f a0 a1 a2 a3 a4 a5 a6 l1 v0 v1 hv (by simp only at q0 hHb; omega) q1
        simp only [walkmilllaw02_StreamWindows.j0, Bool.not_true, Bool.false_eq_true, if_false]
        refine Ev.up ?_
        simp only [walkmilllaw02_StreamWindows.j1, if_pos hc]
        refine Ev.bind L0 ?_
        by_cases hw : windowF ⟨a0, a1, a2, a3, a4, a5, a6⟩ (toSp l1) v0 v1 = -1
        · have g1 : windowE ⟨a0, a1, a2, a3, a4, a5, a6⟩ (toSp l1) v0 v1 = 7 := by rw [windowE, if_pos g0, if_pos hw]
          have g2 : windowI ⟨a0, a1, a2, a3, a4, a5, a6⟩ (toSp l1) v0 v1 = 0 := by rw [windowI, if_pos g0, if_pos hw]
          rw [hw, g1, g2]
          simpa [known_f] using Ev.now true
        · have g1 : windowE ⟨a0, a1, a2, a3, a4, a5, a6⟩ (toSp l1) v0 v1 = 0 := by rw [windowE, if_pos g0, if_neg hw]
          have g2 : windowI ⟨a0, a1, a2, a3, a4, a5, a6⟩ (toSp l1) v0 v1 = windowF ⟨a0, a1, a2, a3, a4, a5, a6⟩ (toSp l1) v0 v1 := by rw [windowI, if_pos g0, if_neg hw]
          simp only [if_pos (show windowF ⟨a0, a1, a2, a3, a4, a5, a6⟩ (toSp l1) v0 v1 ≥ 0 by omega), g1, g2, if_true, known_f, Option.bind_some]
          exact Ev.now true
    rw [← hH]
    by_cases hi : inB 1 M.H [v0] = true
    · simp only [if_pos hi]
      have := key (inB 1 24 [v1]) (by rw [hi, Bool.true_and])
      rwa [hH]
    · have hi0 : inB 1 M.H [v0] = false := by simpa using hi
      simp only [if_neg hi]
      have := key false (by rw [hi0]; rfl)
      rwa [hH]
  · simp only [if_neg hc]
    have g0 : windowG M (toSp l1) v0 v1 = checkE M (toSp l1) := by rw [windowG, if_neg hc]
    have g1 : windowE M (toSp l1) v0 v1 = checkE M (toSp l1) := by rw [windowE, g0, if_neg hc]
    have g2 : windowI M (toSp l1) v0 v1 = 0 := by rw [windowI, g0, if_neg hc]
    refine Ev.up ?_
    simp only [walkmilllaw02_StreamWindows.j0, Bool.false_eq_true, if_false]
    refine Ev.up ?_
    simp only [walkmilllaw02_StreamWindows.j1, if_neg hc, g1, g2]
    simpa [known_f] using Ev.now true
theorem StreamWindows_pure (a0 a1 a2 a3 a4 a5 a6 : Int) (l1 : List S23) (v0 v1 : Int) : ∃ k, walkmilllaw02_StreamWindows.f k a0 a1 a2 a3 a4 a5 a6 l1 v0 v1 = some true := (StreamWindows_ev a0 a1 a2 a3 a4 a5 a6 l1 v0 v1).rounds
end Go.Proofs.Ytcnlbbmokphjnaa.Q
