/- Functions printed by the kit's printer over these walks, and the plain law. No condition. -/
import Derived.Test.YtdlekcdedahbhaaGFeePrices0
import Derived.Test.YtdlekcdedahbhaaGFeePrices1
import Derived.Test.YtdlekcdedahbhaaWWords
import Derived.WalkKit
import Derived.ProofKit
import Derived.OpenShut
import Derived.ShutString
import Derived.ChangeOld
import Derived.Below
import Derived.SizedLaws
import Derived.ChangeArms
import Derived.WideShapes
import Derived.Carry
import Derived.Test.YtdlekcdedahbhaaWEqStruct
import Derived.Test.YtdlekcdedahbhaaWGuard
import Derived.Test.YtdlekcdedahbhaaWLast
import Derived.Test.YtdlekcdedahbhaaWMore
import Derived.Test.YtdlekcdedahbhaaWTab
set_option linter.unusedVariables false
set_option linter.unusedSimpArgs false
namespace Go.Proofs.Ytdlekcdedahbhaa.Q
open Go.RowKit Go.Proofs.YtdlekcdedahbhaaW.PrintWords Go.Proofs.YtdlekcdedahbhaaW.PrintLast Go.Proofs.YtdlekcdedahbhaaW.PrintMore
attribute [local go_sem] max2_int min2_int max_two min_two max_three min_three max_four min_four   -- for this text's walks alone
set_option linter.unusedVariables false
set_option linter.unusedSimpArgs false
attribute [local go_sem high] eqA25 eqA44
mutual
def lw_FeePrices.j0 : Nat → List (S25) → List Int → Bool → Int → Int → Int → Int → Int → Option (Bool)
 | 0, _, _, _, _, _, _, _, _ => none
 | k + 1, x1, x2, x24, x165000, x165001, x165002, x165003, x165004 => if x24 = true then ((lw_known.f).bind fun t165 => (some t165)) else ((some (([] : List (S25)) : List (S25))).bind fun y166 => (if y166.length + x1.length < 5864062014805 then ((some (y166 ++ x1 : List (S25))).bind fun y169 => ((some (([] : List Int) : List Int)).bind fun y172 => (if y172.length + x2.length < 17592186044416 then ((some (y172 ++ x2 : List Int)).bind fun y175 => ((fee_Prices.f x165000 x165001 x165002 x165003 x165004 y169 y175).bind fun bt178 => (lw_FeePrices.l0 k x1 x2 y169 y175 bt178.1 bt178.2.1 bt178.2.2 0 x165000 x165001 x165002 x165003 x165004))) else (none)))) else (none)))
def lw_FeePrices.l0 : Nat → List (S25) → List Int → List (S25) → List Int → Int → List (S44) → Int → Int → Int → Int → Int → Int → Int → Option (Bool)
 | 0, _, _, _, _, _, _, _, _, _, _, _, _, _ => none
 | k + 1, x1, x2, x7, x8, x9, x10, x11, x12, x165000, x165001, x165002, x165003, x165004 => if x12 < (x1.length : Int) then (if 0 ≤ x12 then (if x12 < (x7.length : Int) then (if (!(((rd_T25 x7 x12).f0) == ((rd_T25 x1 x12).f0)) || (!(((rd_T25 x7 x12).f1) == ((rd_T25 x1 x12).f1)) || (!(((rd_T25 x7 x12).f2) == ((rd_T25 x1 x12).f2))))) = true then (some false) else (lw_FeePrices.l0 k x1 x2 x7 x8 x9 x10 x11 (wrap64 (x12 + 1)) x165000 x165001 x165002 x165003 x165004)) else (none)) else (none)) else ((rf_Ints.f k x8 x2).bind fun t185 => (if t185 = true then ((rf_Known.f k x165000 x165001 x165002 x165003 x165004 x1 x2).bind fun t186 => (if t186 = 0 then ((rf_Prices.f k x165000 x165001 x165002 x165003 x165004 x1 x2).bind fun bt190 => (if bt190.1 = 0 then (lw_FeePrices.j2 k x9 x10 x11 9 bt190.1 bt190.2) else (lw_FeePrices.j2 k x9 x10 x11 t186 bt190.1 bt190.2))) else (lw_FeePrices.j2 k x9 x10 x11 t186 0 (([] : List (S44)))))) else (some false)))
def lw_FeePrices.j2 : Nat → Int → List (S44) → Int → Int → Int → List (S44) → Option (Bool)
 | 0, _, _, _, _, _, _ => none
 | k + 1, x9, x10, x11, x13, x14, x15 => if x13 = 0 then (if x11 = 0 then (if x9 = x14 then (lw_FeePrices.j3 k x10 x15 ((x10.length : Int) != (x15.length : Int))) else (lw_FeePrices.j3 k x10 x15 true)) else (lw_FeePrices.j3 k x10 x15 true)) else (if x11 = x13 then (if x9 = 0 then (if (x10.length : Int) = 0 then ((lw_known.f).bind fun t194 => (some t194)) else (some false)) else (some false)) else (some false))
def lw_FeePrices.j3 : Nat → List (S44) → List (S44) → Bool → Option (Bool)
 | 0, _, _, _ => none
 | k + 1, x10, x15, x105 => if x105 = true then (some false) else (lw_FeePrices.l1 k x10 x15 0)
def lw_FeePrices.l1 : Nat → List (S44) → List (S44) → Int → Option (Bool)
 | 0, _, _, _ => none
 | k + 1, x10, x15, x16 => if x16 < (x15.length : Int) then (if 0 ≤ x16 then (if x16 < (x10.length : Int) then (if (!(((rd_T44 x10 x16).f0) == ((rd_T44 x15 x16).f0)) || (!(((rd_T44 x10 x16).f1) == ((rd_T44 x15 x16).f1)))) = true then (some false) else (lw_FeePrices.l1 k x10 x15 (wrap64 (x16 + 1)))) else (none)) else (none)) else ((lw_known.f).bind fun t197 => (some t197))
end
def lw_FeePrices.f (k : Nat) (a0_0 : Int) (a0_1 : Int) (a0_2 : Int) (a0_3 : Int) (a0_4 : Int) (l1 : List (S25)) (l2 : List Int) : Option (Bool) := if (l1.length : Int) > 20 then (lw_FeePrices.j0 k l1 l2 true a0_0 a0_1 a0_2 a0_3 a0_4) else (lw_FeePrices.j0 k l1 l2 (decide ((l2.length : Int) > 20)) a0_0 a0_1 a0_2 a0_3 a0_4)
set_option maxHeartbeats 8000000 in
set_option maxRecDepth 100000 in
theorem lw_FeePrices.calls (k : Nat) (a0_0 : Int) (a0_1 : Int) (a0_2 : Int) (a0_3 : Int) (a0_4 : Int) (A1 : Option Addr) (c1 : Nat) (l1 : List (S25)) (A2 : Option Addr) (c2 : Nat) (l2 : List Int) (r : Bool) (w : World) (hr1 : Kd.C k25 w A1 l1.length l1) (hc1 : l1.length ≤ c1) (hr2 : Kd.C (Kd.int .i64) w A2 l2.length l2) (hc2 : l2.length ≤ c2) (h : lw_FeePrices.f k a0_0 a0_1 a0_2 a0_3 a0_4 l1 l2 = some r) :
  Calls Try.prog 4 #[.agg #[.int .i64 a0_0, .int .i64 a0_1, .int .i64 a0_2, .int .i64 a0_3, .int .i64 a0_4], .slice A1 l1.length c1, .slice A2 l2.length c2] w fun e w' => e = .returned (.bool r) ∧ Below w.heap.size w w' := by
 have hu23 := Try.underlying23; have hu25 := Try.underlying25; have hu44 := Try.underlying44
 have HR1 := Aside0.mk hr1
 have HC1 := Aside0.mk hc1
 clear hr1 hc1; have HR2 := Aside0.mk hr2
 have HC2 := Aside0.mk hc2
 clear hr2 hc2; have HB := Aside0.mk (Below.refl w.heap.size w)
 have H : (if (l1.length : Int) > 20 then (lw_FeePrices.j0 k l1 l2 true a0_0 a0_1 a0_2 a0_3 a0_4) else (lw_FeePrices.j0 k l1 l2 (decide ((l2.length : Int) > 20)) a0_0 a0_1 a0_2 a0_3 a0_4)) = some r := h
 clear h; have HC4 := Aside0.mk H
 clear H; go_enter Try.func4, Try.ntmps4
 go_upto_region 1 with (first | ((with_reducible refine gate_dst (N := 3) rfl ?_); (try (refine gate_guard (by rfl) ?_; dsimp only)); refine box_event ?hg (N := 3) ?hd (cs := #[.int .i64 a0_0, .int .i64 a0_1, .int .i64 a0_2, .int .i64 a0_3, .int .i64 a0_4]) (t := 23) ?hr ?_; (case hd => rfl); (case hg => rfl); (case hr => first | (go_simp; done) | (go_simp; rfl)); intro gb164 hg w5 hbox hb; have n0_ := Aside0.mk (below_step (by repeat (first | (with_reducible first | exact HB.out | apply below_alloc | apply pw_below_drewN | apply below_drew1) | exact HB.out)) hb); have n1_ := Aside0.mk (hbox); have n2_ := Aside0.mk ((by rw [hg]; exact (below_size (by repeat (first | (with_reducible first | exact HB.out | apply below_alloc | apply pw_below_drewN | apply below_drew1) | exact HB.out))) : w.heap.size ≤ gb164)); have n3_ := Aside0.mk ((by rw [hg]; exact (below_size (by repeat (first | (with_reducible first | exact HB.out | apply below_alloc | apply pw_below_drewN | apply below_drew1) | exact HB.out))) : w.heap.size ≤ gb164)); clear HB; have HB := n0_; have BK164 := n1_; have GW164 := n2_; have GE164 := n3_; clear n0_ n1_ n2_ n3_; clear hb hbox hg))
 repeat (go_quiet (first | ((with_reducible refine gate_dst (N := 3) rfl ?_); (try (refine gate_guard (by rfl) ?_; dsimp only)); refine box_event ?hg (N := 3) ?hd (cs := #[.int .i64 a0_0, .int .i64 a0_1, .int .i64 a0_2, .int .i64 a0_3, .int .i64 a0_4]) (t := 23) ?hr ?_; (case hd => rfl); (case hg => rfl); (case hr => first | (go_simp; done) | (go_simp; rfl)); intro gb164 hg w5 hbox hb; have n0_ := Aside0.mk (below_step (by repeat (first | (with_reducible first | exact HB.out | apply below_alloc | apply pw_below_drewN | apply below_drew1) | exact HB.out)) hb); have n1_ := Aside0.mk (hbox); have n2_ := Aside0.mk ((by rw [hg]; exact (below_size (by repeat (first | (with_reducible first | exact HB.out | apply below_alloc | apply pw_below_drewN | apply below_drew1) | exact HB.out))) : w.heap.size ≤ gb164)); have n3_ := Aside0.mk ((by rw [hg]; exact (below_size (by repeat (first | (with_reducible first | exact HB.out | apply below_alloc | apply pw_below_drewN | apply below_drew1) | exact HB.out))) : w.heap.size ≤ gb164)); clear HB; have HB := n0_; have BK164 := n1_; have GW164 := n2_; have GE164 := n3_; clear n0_ n1_ n2_ n3_; clear hb hbox hg)); go_upto_region 1 with (first | ((with_reducible refine gate_dst (N := 3) rfl ?_); (try (refine gate_guard (by rfl) ?_; dsimp only)); refine box_event ?hg (N := 3) ?hd (cs := #[.int .i64 a0_0, .int .i64 a0_1, .int .i64 a0_2, .int .i64 a0_3, .int .i64 a0_4]) (t := 23) ?hr ?_; (case hd => rfl); (case hg => rfl); (case hr => first | (go_simp; done) | (go_simp; rfl)); intro gb164 hg w5 hbox hb; have n0_ := Aside0.mk (below_step (by repeat (first | (with_reducible first | exact HB.out | apply below_alloc | apply pw_below_drewN | apply below_drew1) | exact HB.out)) hb); have n1_ := Aside0.mk (hbox); have n2_ := Aside0.mk ((by rw [hg]; exact (below_size (by repeat (first | (with_reducible first | exact HB.out | apply below_alloc | apply pw_below_drewN | apply below_drew1) | exact HB.out))) : w.heap.size ≤ gb164)); have n3_ := Aside0.mk ((by rw [hg]; exact (below_size (by repeat (first | (with_reducible first | exact HB.out | apply below_alloc | apply pw_below_drewN | apply below_drew1) | exact HB.out))) : w.heap.size ≤ gb164)); clear HB; have HB := n0_; have BK164 := n1_; have GW164 := n2_; have GE164 := n3_; clear n0_ n1_ n2_ n3_; clear hb hbox hg)))
 (try simp only [Act.put, List.setIfInBounds_toArray, List.set_cons_zero, List.set_cons_succ])
 go_cut [24] (fun v24 wc => ∃ (kq : Nat) (x24_3 : Bool), v24 = .bool x24_3 ∧ Aside0 (lw_FeePrices.j0 kq l1 l2 x24_3 a0_0 a0_1 a0_2 a0_3 a0_4 = some r) ∧ Aside0 (kq ≤ k) ∧ Aside0 (wc.heap[gb164]? = some (.cells #[.int .i64 a0_0, .int .i64 a0_1, .int .i64 a0_2, .int .i64 a0_3, .int .i64 a0_4] 23 (0, 0))) ∧ Aside0 (Below w.heap.size w wc))
 case first =>
  have H := HC4.out
  clear HC4
  by_cases c6 : (l1.length : Int) > 20
  ·rw [if_pos c6] at H
   have c6b0 : decide (20 < (l1.length : Int)) = true := decide_eq_true c6
   have c6b1 : decide (20 < l1.length) = true := decide_eq_true (by omega)
   clear c6
   (first | rw [c6b0] | (simp only [i64_w, i32_w]; rw [c6b0]) | skip)
   have H' := Aside0.mk H
   clear H; go_wp2
   repeat (go_quiet (fail); try go_wp2)
   go_meet
   case rel => exact ⟨_, (true), (by first | rfl | (simp; done) | (simp [*]; done)), H', ⟨by first | omega | exact Nat.le_refl _⟩, ⟨by (with_reducible repeat (first | refine blk_drewN ?_ _ | refine blk_drew ?_ | refine blk_alloc ?_ _)); exact BK164.out⟩, ⟨by repeat (first | (with_reducible first | exact HB.out | apply below_alloc | apply pw_below_drewN | apply below_drew1 | refine below_set ?_ GE164.out) | exact HB.out)⟩⟩
  ·rw [if_neg c6] at H
   have c6b0 : decide (20 < (l1.length : Int)) = false := decide_eq_false c6
   have c6b1 : decide (20 < l1.length) = false := decide_eq_false (by omega)
   clear c6
   (first | rw [c6b0] | (simp only [i64_w, i32_w]; rw [c6b0]) | skip)
   have H' := Aside0.mk H
   clear H; go_wp2
   repeat (go_quiet (fail); try go_wp2)
   go_meet
   case rel => exact ⟨_, (decide ((l2.length : Int) > 20)), (by first | rfl | (simp; done) | (simp [*]; done)), H', ⟨by first | omega | exact Nat.le_refl _⟩, ⟨by (with_reducible repeat (first | refine blk_drewN ?_ _ | refine blk_drew ?_ | refine blk_alloc ?_ _)); exact BK164.out⟩, ⟨by repeat (first | (with_reducible first | exact HB.out | apply below_alloc | apply pw_below_drewN | apply below_drew1 | refine below_set ?_ GE164.out) | exact HB.out)⟩⟩
 case rest =>
  clear HC4; try clear c1
  try clear c2
  try clear p2
  try clear c4
  try clear c6
  try clear c6b0
  try clear c6b1
  obtain ⟨kq, x24_3, rfl, HA, HJ3, BK164, HB⟩ := hcut
  cases kq with
  | zero => exact absurd HA.out (by simp [lw_FeePrices.j0])
  | succ kj3 =>
   have H := HA.out
   clear HA; simp only [lw_FeePrices.j0] at H
   by_cases c7 : x24_3 = true
   ·subst c7
    have H1 : ((lw_known.f).bind fun t165 => (some t165)) = some r := by rw [if_pos rfl] at H; exact H
    clear H; have H := H1
    clear H1
    replace H := Option.bind_eq_some_iff.mp H
    obtain ⟨t165, A80, H⟩ := H
    replace H : (some t165) = some r := H
    have A8 := Aside0.mk A80
    clear A80; obtain rfl := Option.some.inj H
    go_wp2_with (first | (go_at_call 22; (with_reducible refine (lw_known.calls  t165 _ A8.out).mono ?_); rintro e w9 ⟨rfl, hb⟩; have n0_ := Aside0.mk (blk_below (g := gb164) (o := .cells #[.int .i64 a0_0, .int .i64 a0_1, .int .i64 a0_2, .int .i64 a0_3, .int .i64 a0_4] 23 (0, 0)) (by (with_reducible repeat (first | refine blk_drewN ?_ _ | refine blk_drew ?_ | refine blk_alloc ?_ _)); exact BK164.out) hb); have n1_ := Aside0.mk (below_step (by repeat (first | (with_reducible first | exact HB.out | apply below_alloc | apply pw_below_drewN | apply below_drew1 | refine below_set ?_ GE164.out) | exact HB.out)) hb); clear BK164; clear HB; have BK164 := n0_; have HB := n1_; clear n0_ n1_; (try clear hb); (try clear hb2); (try clear hk); (try clear hi)))
    repeat (go_quiet (first | (go_at_call 22; (with_reducible refine (lw_known.calls  t165 _ A8.out).mono ?_); rintro e w9 ⟨rfl, hb⟩; have n0_ := Aside0.mk (blk_below (g := gb164) (o := .cells #[.int .i64 a0_0, .int .i64 a0_1, .int .i64 a0_2, .int .i64 a0_3, .int .i64 a0_4] 23 (0, 0)) (by (with_reducible repeat (first | refine blk_drewN ?_ _ | refine blk_drew ?_ | refine blk_alloc ?_ _)); exact BK164.out) hb); have n1_ := Aside0.mk (below_step (by repeat (first | (with_reducible first | exact HB.out | apply below_alloc | apply pw_below_drewN | apply below_drew1 | refine below_set ?_ GE164.out) | exact HB.out)) hb); clear BK164; clear HB; have BK164 := n0_; have HB := n1_; clear n0_ n1_; (try clear hb); (try clear hb2); (try clear hk); (try clear hi))); try go_wp2_with (first | (go_at_call 22; (with_reducible refine (lw_known.calls  t165 _ A8.out).mono ?_); rintro e w9 ⟨rfl, hb⟩; have n0_ := Aside0.mk (blk_below (g := gb164) (o := .cells #[.int .i64 a0_0, .int .i64 a0_1, .int .i64 a0_2, .int .i64 a0_3, .int .i64 a0_4] 23 (0, 0)) (by (with_reducible repeat (first | refine blk_drewN ?_ _ | refine blk_drew ?_ | refine blk_alloc ?_ _)); exact BK164.out) hb); have n1_ := Aside0.mk (below_step (by repeat (first | (with_reducible first | exact HB.out | apply below_alloc | apply pw_below_drewN | apply below_drew1 | refine below_set ?_ GE164.out) | exact HB.out)) hb); clear BK164; clear HB; have BK164 := n0_; have HB := n1_; clear n0_ n1_; (try clear hb); (try clear hb2); (try clear hk); (try clear hi))))
    go_ret
    exact ⟨by first | rfl | (simp [errW_none, errW_some] <;> rfl) | (simp [*, errW_none, errW_some] <;> rfl), by repeat (first | (with_reducible first | exact HB.out | apply below_alloc | apply pw_below_drewN | apply below_drew1 | refine below_set ?_ GE164.out) | exact HB.out)⟩
   ·replace c7 := Bool.eq_false_iff.mpr c7
    subst c7
    have H1 : ((some (([] : List (S25)) : List (S25))).bind fun y166 => (if y166.length + l1.length < 5864062014805 then ((some (y166 ++ l1 : List (S25))).bind fun y169 => ((some (([] : List Int) : List Int)).bind fun y172 => (if y172.length + l2.length < 17592186044416 then ((some (y172 ++ l2 : List Int)).bind fun y175 => ((fee_Prices.f a0_0 a0_1 a0_2 a0_3 a0_4 y169 y175).bind fun bt178 => (lw_FeePrices.l0 kj3 l1 l2 y169 y175 bt178.1 bt178.2.1 bt178.2.2 0 a0_0 a0_1 a0_2 a0_3 a0_4))) else (none)))) else (none))) = some r := by rw [if_neg (show ¬ (false = true) by decide)] at H; exact H
    clear H; have H := H1
    clear H1; obtain ⟨y166, hy166⟩ : ∃ y_ : List (S25), y_ = (([] : List (S25))) := ⟨_, rfl⟩
    replace H : (if y166.length + l1.length < 5864062014805 then ((some (y166 ++ l1 : List (S25))).bind fun y169 => ((some (([] : List Int) : List Int)).bind fun y172 => (if y172.length + l2.length < 17592186044416 then ((some (y172 ++ l2 : List Int)).bind fun y175 => ((fee_Prices.f a0_0 a0_1 a0_2 a0_3 a0_4 y169 y175).bind fun bt178 => (lw_FeePrices.l0 kj3 l1 l2 y169 y175 bt178.1 bt178.2.1 bt178.2.2 0 a0_0 a0_1 a0_2 a0_3 a0_4))) else (none)))) else (none)) = some r := by first | (rw [hy166]; with_reducible exact H) | (have H2_ := (Option.bind_some _ _).symm.trans H; rw [hy166]; with_reducible exact H2_) | (have H2_ := (Option.bind_some _ _).symm.trans H; with_reducible exact H2_) | with_reducible exact H | (rw [hy166]; exact H) | exact H
    have Ny166 := Aside0.mk hy166
    clear hy166
    by_cases c10 : y166.length + l1.length < 5864062014805
    ·rw [if_pos c10] at H
     have LMc10 := Aside0.mk c10
     clear c10; obtain ⟨y169, hy169⟩ : ∃ y_ : List (S25), y_ = (y166 ++ l1) := ⟨_, rfl⟩
     replace H : ((some (([] : List Int) : List Int)).bind fun y172 => (if y172.length + l2.length < 17592186044416 then ((some (y172 ++ l2 : List Int)).bind fun y175 => ((fee_Prices.f a0_0 a0_1 a0_2 a0_3 a0_4 y169 y175).bind fun bt178 => (lw_FeePrices.l0 kj3 l1 l2 y169 y175 bt178.1 bt178.2.1 bt178.2.2 0 a0_0 a0_1 a0_2 a0_3 a0_4))) else (none))) = some r := by first | (rw [hy169]; with_reducible exact H) | (have H2_ := (Option.bind_some _ _).symm.trans H; rw [hy169]; with_reducible exact H2_) | (have H2_ := (Option.bind_some _ _).symm.trans H; with_reducible exact H2_) | with_reducible exact H | (rw [hy169]; exact H) | exact H
     have Ny169 := Aside0.mk hy169
     clear hy169; obtain ⟨y172, hy172⟩ : ∃ y_ : List Int, y_ = (([] : List Int)) := ⟨_, rfl⟩
     replace H : (if y172.length + l2.length < 17592186044416 then ((some (y172 ++ l2 : List Int)).bind fun y175 => ((fee_Prices.f a0_0 a0_1 a0_2 a0_3 a0_4 y169 y175).bind fun bt178 => (lw_FeePrices.l0 kj3 l1 l2 y169 y175 bt178.1 bt178.2.1 bt178.2.2 0 a0_0 a0_1 a0_2 a0_3 a0_4))) else (none)) = some r := by first | (rw [hy172]; with_reducible exact H) | (have H2_ := (Option.bind_some _ _).symm.trans H; rw [hy172]; with_reducible exact H2_) | (have H2_ := (Option.bind_some _ _).symm.trans H; with_reducible exact H2_) | with_reducible exact H | (rw [hy172]; exact H) | exact H
     have Ny172 := Aside0.mk hy172
     clear hy172
     by_cases c11 : y172.length + l2.length < 17592186044416
     ·rw [if_pos c11] at H
      have LMc11 := Aside0.mk c11
      clear c11; obtain ⟨y175, hy175⟩ : ∃ y_ : List Int, y_ = (y172 ++ l2) := ⟨_, rfl⟩
      replace H : ((fee_Prices.f a0_0 a0_1 a0_2 a0_3 a0_4 y169 y175).bind fun bt178 => (lw_FeePrices.l0 kj3 l1 l2 y169 y175 bt178.1 bt178.2.1 bt178.2.2 0 a0_0 a0_1 a0_2 a0_3 a0_4)) = some r := by first | (rw [hy175]; with_reducible exact H) | (have H2_ := (Option.bind_some _ _).symm.trans H; rw [hy175]; with_reducible exact H2_) | (have H2_ := (Option.bind_some _ _).symm.trans H; with_reducible exact H2_) | with_reducible exact H | (rw [hy175]; exact H) | exact H
      have Ny175 := Aside0.mk hy175
      clear hy175
      replace H := Option.bind_eq_some_iff.mp H
      obtain ⟨⟨t178, t179, t182⟩, A120, H⟩ := H
      replace H : (lw_FeePrices.l0 kj3 l1 l2 y169 y175 t178 t179 t182 0 a0_0 a0_1 a0_2 a0_3 a0_4) = some r := H
      have A12 := Aside0.mk A120
      clear A120; have H' := Aside0.mk H
      clear H; go_wp2_with (first | ((with_reducible refine gate_dst (N := 26) rfl ?_); (try (refine gate_guard (by rfl) ?_; dsimp only)); refine Kd.R_lit k25 _ 25 ?hg (N := 26) ?hd (xs := ([] : List (S25))) (inner := []) (ok := fun _ => True) (okp := fun _ => True) ?hr ?hp (fun _ hk => hk) trivial (Below.refl _ _) (Nat.le_refl _) (by simp) ?_; (case hd => rfl); (case hg => rfl); (case hr => first | (go_simp; done) | (go_simp; rfl)); (case hp => exact (Reps.none _ _)); intro v167 w13 ho14 hb hg_ hnew_; clear hg_ hnew_; (first | rw [← Ny166.out] at ho14 | (simp only [Int.reduceToNat] at ho14; rw [← Ny166.out] at ho14)); have n0_ := Aside0.mk (Kd.R_lower ho14 (below_size (by repeat (first | (with_reducible first | exact HB.out | apply below_alloc | apply pw_below_drewN | apply below_drew1 | refine below_set ?_ GE164.out) | exact HB.out)))); have n1_ := Aside0.mk (blk_below (g := gb164) (o := .cells #[.int .i64 a0_0, .int .i64 a0_1, .int .i64 a0_2, .int .i64 a0_3, .int .i64 a0_4] 23 (0, 0)) (by (with_reducible repeat (first | refine blk_drewN ?_ _ | refine blk_drew ?_ | refine blk_alloc ?_ _)); exact BK164.out) hb); have n2_ := Aside0.mk (below_step (by repeat (first | (with_reducible first | exact HB.out | apply below_alloc | apply pw_below_drewN | apply below_drew1 | refine below_set ?_ GE164.out) | exact HB.out)) hb); clear BK164; clear HB; have HO168 := n0_; have BK164 := n1_; have HB := n2_; clear n0_ n1_ n2_; clear hb ho14) | ((with_reducible refine gate_builtin (b := .append) (xs := #[.tmp 26, .tmp 27]) rfl ?_); (try (refine gate_guard (by rfl) ?_; dsimp only)); at_builtin; refine Kd.R_append_rows k25 (w0 := w) w.heap.size rfl (.tmp 26) (.tmp 27) 34 25 (.agg #[(.int .i64 0), (.int .i64 0), (.int .i64 0)]) 24 rfl Try.underlying34 info25 rfl (by decide) (by omega) v167 y166 l1 _ _ _ (fun _ => True) (fun _ => False) rfl rfl ?aO ?aR (fun _ _ h => h) (fun _ h => h.elim) ?aF ?aB ?aS ?aL ?_; (case aR => repeat (first | exact (Kd.C_below HR1.out HB.out) | (with_reducible refine Kd.C_alloc ?_ _) | (with_reducible refine Kd.C_drewN ?_ _) | (with_reducible refine Kd.C_drew ?_))); (case aB => exact (by repeat (first | (with_reducible first | exact HB.out | apply below_alloc | apply pw_below_drewN | apply below_drew1 | refine below_set ?_ GE164.out) | exact HB.out))); (case aF => exact (fun _ _ => trivial)); (case aO => exact (by (with_reducible repeat (first | apply Kd.R_alloc | apply Kd.R_drewN | apply Kd.R_drew)); exact HO168.out)); (case aS => exact (below_size (by repeat (first | (with_reducible first | exact HB.out | apply below_alloc | apply pw_below_drewN | apply below_drew1 | refine below_set ?_ GE164.out) | exact HB.out)))); (case aL => have := LMc10.out; omega); intro v170 w15 ho hb hg hat; rw [← Ny169.out] at ho; have n0_ := Aside0.mk (blk_grown (g := gb164) (o := .cells #[.int .i64 a0_0, .int .i64 a0_1, .int .i64 a0_2, .int .i64 a0_3, .int .i64 a0_4] 23 (0, 0)) (by (with_reducible repeat (first | refine blk_drewN ?_ _ | refine blk_drew ?_ | refine blk_alloc ?_ _)); exact BK164.out) hg (Kd.R_ne HO168.out BK164.out (by decide))); have n1_ := Aside0.mk (hb); have n2_ := Aside0.mk (ho); clear BK164; clear HB; clear HO168; have BK164 := n0_; have HB := n1_; have HO171 := n2_; clear n0_ n1_ n2_; clear ho hb hg hat) | ((with_reducible refine gate_dst (N := 29) rfl ?_); (try (refine gate_guard (by rfl) ?_; dsimp only)); refine Kd.R_lit (Kd.int .i64) _ 3 ?hg (N := 29) ?hd (xs := ([] : List Int)) (inner := []) (ok := fun _ => True) (okp := fun _ => True) ?hr ?hp (fun _ hk => hk) trivial (Below.refl _ _) (Nat.le_refl _) (by simp) ?_; (case hd => rfl); (case hg => rfl); (case hr => first | (go_simp; done) | (go_simp; rfl)); (case hp => exact (Reps.none _ _)); intro v173 w16 ho17 hb hg_ hnew_; clear hg_ hnew_; (first | rw [← Ny172.out] at ho17 | (simp only [Int.reduceToNat] at ho17; rw [← Ny172.out] at ho17)); have n0_ := Aside0.mk (Kd.R_below (by (with_reducible repeat (first | apply Kd.R_alloc | apply Kd.R_drewN | apply Kd.R_drew)); exact HO171.out) hb); have n1_ := Aside0.mk (Kd.R_lower ho17 (below_size (by repeat (first | (with_reducible first | exact HB.out | apply below_alloc | apply pw_below_drewN | apply below_drew1 | refine below_set ?_ GE164.out) | exact HB.out)))); have n2_ := Aside0.mk (blk_below (g := gb164) (o := .cells #[.int .i64 a0_0, .int .i64 a0_1, .int .i64 a0_2, .int .i64 a0_3, .int .i64 a0_4] 23 (0, 0)) (by (with_reducible repeat (first | refine blk_drewN ?_ _ | refine blk_drew ?_ | refine blk_alloc ?_ _)); exact BK164.out) hb); have n3_ := Aside0.mk (below_step (by repeat (first | (with_reducible first | exact HB.out | apply below_alloc | apply pw_below_drewN | apply below_drew1 | refine below_set ?_ GE164.out) | exact HB.out)) hb); clear HO171; clear BK164; clear HB; have HO171 := n0_; have HO174 := n1_; have BK164 := n2_; have HB := n3_; clear n0_ n1_ n2_ n3_; clear hb ho17) | ((with_reducible refine gate_builtin (b := .append) (xs := #[.tmp 29, .tmp 30]) rfl ?_); (try (refine gate_guard (by rfl) ?_; dsimp only)); at_builtin; refine Kd.R_append_rows (Kd.int .i64) (w0 := w) w.heap.size rfl (.tmp 29) (.tmp 30) 35 3 (.int .i64 0) 8 rfl Try.underlying35 info3 rfl (by decide) (by omega) v173 y172 l2 _ _ _ (fun _ => True) (fun _ => False) rfl rfl ?aO ?aR (fun _ _ h => h) (fun _ h => h.elim) ?aF ?aB ?aS ?aL ?_; (case aR => repeat (first | exact (Kd.C_below HR2.out HB.out) | (with_reducible refine Kd.C_alloc ?_ _) | (with_reducible refine Kd.C_drewN ?_ _) | (with_reducible refine Kd.C_drew ?_))); (case aB => exact (by repeat (first | (with_reducible first | exact HB.out | apply below_alloc | apply pw_below_drewN | apply below_drew1 | refine below_set ?_ GE164.out) | exact HB.out))); (case aF => exact (fun _ _ => trivial)); (case aO => exact (by (with_reducible repeat (first | apply Kd.R_alloc | apply Kd.R_drewN | apply Kd.R_drew)); exact HO174.out)); (case aS => exact (below_size (by repeat (first | (with_reducible first | exact HB.out | apply below_alloc | apply pw_below_drewN | apply below_drew1 | refine below_set ?_ GE164.out) | exact HB.out)))); (case aL => have := LMc11.out; omega); intro v176 w18 ho hb hg hat; rw [← Ny175.out] at ho; have n0_ := Aside0.mk (blk_grown (g := gb164) (o := .cells #[.int .i64 a0_0, .int .i64 a0_1, .int .i64 a0_2, .int .i64 a0_3, .int .i64 a0_4] 23 (0, 0)) (by (with_reducible repeat (first | refine blk_drewN ?_ _ | refine blk_drew ?_ | refine blk_alloc ?_ _)); exact BK164.out) hg (Kd.R_ne HO174.out BK164.out (by decide))); have n1_ := Aside0.mk (Kd.R_over' (by (with_reducible repeat (first | apply Kd.R_alloc | apply Kd.R_drewN | apply Kd.R_drew)); exact HO171.out) (Kd.R_typed (by (with_reducible repeat (first | apply Kd.R_alloc | apply Kd.R_drewN | apply Kd.R_drew)); exact HO174.out)) (by decide) hg); have n2_ := Aside0.mk (hb); have n3_ := Aside0.mk (ho); clear BK164; clear HO171; clear HB; clear HO174; have BK164 := n0_; have HO171 := n1_; have HB := n2_; have HO177 := n3_; clear n0_ n1_ n2_ n3_; clear ho hb hg hat; have hcz19_0 : w18.cell? ⟨gb164, 0, none⟩ = some (.int .i64 a0_0) := (blk_cell BK164.out 0).trans rfl; have hcz19_1 : w18.cell? ⟨gb164, 1, none⟩ = some (.int .i64 a0_1) := (blk_cell BK164.out 1).trans rfl; have hcz19_2 : w18.cell? ⟨gb164, 2, none⟩ = some (.int .i64 a0_2) := (blk_cell BK164.out 2).trans rfl; have hcz19_3 : w18.cell? ⟨gb164, 3, none⟩ = some (.int .i64 a0_3) := (blk_cell BK164.out 3).trans rfl; have hcz19_4 : w18.cell? ⟨gb164, 4, none⟩ = some (.int .i64 a0_4) := (blk_cell BK164.out 4).trans rfl; have hfz19_0 := blk_frozen BK164.out 0; have hfz19_1 := blk_frozen BK164.out 1; have hfz19_2 := blk_frozen BK164.out 2; have hfz19_3 := blk_frozen BK164.out 3; have hfz19_4 := blk_frozen BK164.out 4; obtain ⟨Ao20, co20, eo20⟩ := Kd.R_slice HO171.out; subst eo20; obtain ⟨Ao21, co21, eo21⟩ := Kd.R_slice HO177.out; subst eo21) | (go_at_call 24; (with_reducible refine (fee_Prices.calls a0_0 a0_1 a0_2 a0_3 a0_4 _ _ y169 _ _ y175 t178 t179 t182 _ ?side1 ?side2 ?side3 ?side4 A12.out).mono ?_); (case side1 => repeat (first | exact (Kd.R_reads' HO171.out).2.2 | (with_reducible refine Kd.C_alloc ?_ _) | (with_reducible refine Kd.C_drewN ?_ _) | (with_reducible refine Kd.C_drew ?_))); (case side2 => exact (Kd.R_reads' HO171.out).2.1); (case side3 => repeat (first | exact (Kd.R_reads' HO177.out).2.2 | (with_reducible refine Kd.C_alloc ?_ _) | (with_reducible refine Kd.C_drewN ?_ _) | (with_reducible refine Kd.C_drew ?_))); (case side4 => exact (Kd.R_reads' HO177.out).2.1); rintro e w22 ⟨v180, rfl, ho0, hb⟩; have n0_ := Aside0.mk (Kd.R_below (by (with_reducible repeat (first | apply Kd.R_alloc | apply Kd.R_drewN | apply Kd.R_drew)); exact HO171.out) hb); have n1_ := Aside0.mk (Kd.R_below (by (with_reducible repeat (first | apply Kd.R_alloc | apply Kd.R_drewN | apply Kd.R_drew)); exact HO177.out) hb); have n2_ := Aside0.mk (Kd.R_lower ho0 (below_size (by repeat (first | (with_reducible first | exact HB.out | apply below_alloc | apply pw_below_drewN | apply below_drew1 | refine below_set ?_ GE164.out) | exact HB.out)))); have n3_ := Aside0.mk (blk_below (g := gb164) (o := .cells #[.int .i64 a0_0, .int .i64 a0_1, .int .i64 a0_2, .int .i64 a0_3, .int .i64 a0_4] 23 (0, 0)) (by (with_reducible repeat (first | refine blk_drewN ?_ _ | refine blk_drew ?_ | refine blk_alloc ?_ _)); exact BK164.out) hb); have n4_ := Aside0.mk (below_step (by repeat (first | (with_reducible first | exact HB.out | apply below_alloc | apply pw_below_drewN | apply below_drew1 | refine below_set ?_ GE164.out) | exact HB.out)) hb); clear HO171; clear HO177; clear BK164; clear HB; have HO171 := n0_; have HO177 := n1_; have HO181 := n2_; have BK164 := n3_; have HB := n4_; clear n0_ n1_ n2_ n3_ n4_; (try clear hb); (try clear hb2); (try clear hk); (try clear hi); (try clear ho0)))
      repeat (go_quiet (first | ((with_reducible refine gate_dst (N := 26) rfl ?_); (try (refine gate_guard (by rfl) ?_; dsimp only)); refine Kd.R_lit k25 _ 25 ?hg (N := 26) ?hd (xs := ([] : List (S25))) (inner := []) (ok := fun _ => True) (okp := fun _ => True) ?hr ?hp (fun _ hk => hk) trivial (Below.refl _ _) (Nat.le_refl _) (by simp) ?_; (case hd => rfl); (case hg => rfl); (case hr => first | (go_simp; done) | (go_simp; rfl)); (case hp => exact (Reps.none _ _)); intro v167 w13 ho14 hb hg_ hnew_; clear hg_ hnew_; (first | rw [← Ny166.out] at ho14 | (simp only [Int.reduceToNat] at ho14; rw [← Ny166.out] at ho14)); have n0_ := Aside0.mk (Kd.R_lower ho14 (below_size (by repeat (first | (with_reducible first | exact HB.out | apply below_alloc | apply pw_below_drewN | apply below_drew1 | refine below_set ?_ GE164.out) | exact HB.out)))); have n1_ := Aside0.mk (blk_below (g := gb164) (o := .cells #[.int .i64 a0_0, .int .i64 a0_1, .int .i64 a0_2, .int .i64 a0_3, .int .i64 a0_4] 23 (0, 0)) (by (with_reducible repeat (first | refine blk_drewN ?_ _ | refine blk_drew ?_ | refine blk_alloc ?_ _)); exact BK164.out) hb); have n2_ := Aside0.mk (below_step (by repeat (first | (with_reducible first | exact HB.out | apply below_alloc | apply pw_below_drewN | apply below_drew1 | refine below_set ?_ GE164.out) | exact HB.out)) hb); clear BK164; clear HB; have HO168 := n0_; have BK164 := n1_; have HB := n2_; clear n0_ n1_ n2_; clear hb ho14) | ((with_reducible refine gate_builtin (b := .append) (xs := #[.tmp 26, .tmp 27]) rfl ?_); (try (refine gate_guard (by rfl) ?_; dsimp only)); at_builtin; refine Kd.R_append_rows k25 (w0 := w) w.heap.size rfl (.tmp 26) (.tmp 27) 34 25 (.agg #[(.int .i64 0), (.int .i64 0), (.int .i64 0)]) 24 rfl Try.underlying34 info25 rfl (by decide) (by omega) v167 y166 l1 _ _ _ (fun _ => True) (fun _ => False) rfl rfl ?aO ?aR (fun _ _ h => h) (fun _ h => h.elim) ?aF ?aB ?aS ?aL ?_; (case aR => repeat (first | exact (Kd.C_below HR1.out HB.out) | (with_reducible refine Kd.C_alloc ?_ _) | (with_reducible refine Kd.C_drewN ?_ _) | (with_reducible refine Kd.C_drew ?_))); (case aB => exact (by repeat (first | (with_reducible first | exact HB.out | apply below_alloc | apply pw_below_drewN | apply below_drew1 | refine below_set ?_ GE164.out) | exact HB.out))); (case aF => exact (fun _ _ => trivial)); (case aO => exact (by (with_reducible repeat (first | apply Kd.R_alloc | apply Kd.R_drewN | apply Kd.R_drew)); exact HO168.out)); (case aS => exact (below_size (by repeat (first | (with_reducible first | exact HB.out | apply below_alloc | apply pw_below_drewN | apply below_drew1 | refine below_set ?_ GE164.out) | exact HB.out)))); (case aL => have := LMc10.out; omega); intro v170 w15 ho hb hg hat; rw [← Ny169.out] at ho; have n0_ := Aside0.mk (blk_grown (g := gb164) (o := .cells #[.int .i64 a0_0, .int .i64 a0_1, .int .i64 a0_2, .int .i64 a0_3, .int .i64 a0_4] 23 (0, 0)) (by (with_reducible repeat (first | refine blk_drewN ?_ _ | refine blk_drew ?_ | refine blk_alloc ?_ _)); exact BK164.out) hg (Kd.R_ne HO168.out BK164.out (by decide))); have n1_ := Aside0.mk (hb); have n2_ := Aside0.mk (ho); clear BK164; clear HB; clear HO168; have BK164 := n0_; have HB := n1_; have HO171 := n2_; clear n0_ n1_ n2_; clear ho hb hg hat) | ((with_reducible refine gate_dst (N := 29) rfl ?_); (try (refine gate_guard (by rfl) ?_; dsimp only)); refine Kd.R_lit (Kd.int .i64) _ 3 ?hg (N := 29) ?hd (xs := ([] : List Int)) (inner := []) (ok := fun _ => True) (okp := fun _ => True) ?hr ?hp (fun _ hk => hk) trivial (Below.refl _ _) (Nat.le_refl _) (by simp) ?_; (case hd => rfl); (case hg => rfl); (case hr => first | (go_simp; done) | (go_simp; rfl)); (case hp => exact (Reps.none _ _)); intro v173 w16 ho17 hb hg_ hnew_; clear hg_ hnew_; (first | rw [← Ny172.out] at ho17 | (simp only [Int.reduceToNat] at ho17; rw [← Ny172.out] at ho17)); have n0_ := Aside0.mk (Kd.R_below (by (with_reducible repeat (first | apply Kd.R_alloc | apply Kd.R_drewN | apply Kd.R_drew)); exact HO171.out) hb); have n1_ := Aside0.mk (Kd.R_lower ho17 (below_size (by repeat (first | (with_reducible first | exact HB.out | apply below_alloc | apply pw_below_drewN | apply below_drew1 | refine below_set ?_ GE164.out) | exact HB.out)))); have n2_ := Aside0.mk (blk_below (g := gb164) (o := .cells #[.int .i64 a0_0, .int .i64 a0_1, .int .i64 a0_2, .int .i64 a0_3, .int .i64 a0_4] 23 (0, 0)) (by (with_reducible repeat (first | refine blk_drewN ?_ _ | refine blk_drew ?_ | refine blk_alloc ?_ _)); exact BK164.out) hb); have n3_ := Aside0.mk (below_step (by repeat (first | (with_reducible first | exact HB.out | apply below_alloc | apply pw_below_drewN | apply below_drew1 | refine below_set ?_ GE164.out) | exact HB.out)) hb); clear HO171; clear BK164; clear HB; have HO171 := n0_; have HO174 := n1_; have BK164 := n2_; have HB := n3_; clear n0_ n1_ n2_ n3_; clear hb ho17) | ((with_reducible refine gate_builtin (b := .append) (xs := #[.tmp 29, .tmp 30]) rfl ?_); (try (refine gate_guard (by rfl) ?_; dsimp only)); at_builtin; refine Kd.R_append_rows (Kd.int .i64) (w0 := w) w.heap.size rfl (.tmp 29) (.tmp 30) 35 3 (.int .i64 0) 8 rfl Try.underlying35 info3 rfl (by decide) (by omega) v173 y172 l2 _ _ _ (fun _ => True) (fun _ => False) rfl rfl ?aO ?aR (fun _ _ h => h) (fun _ h => h.elim) ?aF ?aB ?aS ?aL ?_; (case aR => repeat (first | exact (Kd.C_below HR2.out HB.out) | (with_reducible refine Kd.C_alloc ?_ _) | (with_reducible refine Kd.C_drewN ?_ _) | (with_reducible refine Kd.C_drew ?_))); (case aB => exact (by repeat (first | (with_reducible first | exact HB.out | apply below_alloc | apply pw_below_drewN | apply below_drew1 | refine below_set ?_ GE164.out) | exact HB.out))); (case aF => exact (fun _ _ => trivial)); (case aO => exact (by (with_reducible repeat (first | apply Kd.R_alloc | apply Kd.R_drewN | apply Kd.R_drew)); exact HO174.out)); (case aS => exact (below_size (by repeat (first | (with_reducible first | exact HB.out | apply below_alloc | apply pw_below_drewN | apply below_drew1 | refine below_set ?_ GE164.out) | exact HB.out)))); (case aL => have := LMc11.out; omega); intro v176 w18 ho hb hg hat; rw [← Ny175.out] at ho; have n0_ := Aside0.mk (blk_grown (g := gb164) (o := .cells #[.int .i64 a0_0, .int .i64 a0_1, .int .i64 a0_2, .int .i64 a0_3, .int .i64 a0_4] 23 (0, 0)) (by (with_reducible repeat (first | refine blk_drewN ?_ _ | refine blk_drew ?_ | refine blk_alloc ?_ _)); exact BK164.out) hg (Kd.R_ne HO174.out BK164.out (by decide))); have n1_ := Aside0.mk (Kd.R_over' (by (with_reducible repeat (first | apply Kd.R_alloc | apply Kd.R_drewN | apply Kd.R_drew)); exact HO171.out) (Kd.R_typed (by (with_reducible repeat (first | apply Kd.R_alloc | apply Kd.R_drewN | apply Kd.R_drew)); exact HO174.out)) (by decide) hg); have n2_ := Aside0.mk (hb); have n3_ := Aside0.mk (ho); clear BK164; clear HO171; clear HB; clear HO174; have BK164 := n0_; have HO171 := n1_; have HB := n2_; have HO177 := n3_; clear n0_ n1_ n2_ n3_; clear ho hb hg hat; have hcz19_0 : w18.cell? ⟨gb164, 0, none⟩ = some (.int .i64 a0_0) := (blk_cell BK164.out 0).trans rfl; have hcz19_1 : w18.cell? ⟨gb164, 1, none⟩ = some (.int .i64 a0_1) := (blk_cell BK164.out 1).trans rfl; have hcz19_2 : w18.cell? ⟨gb164, 2, none⟩ = some (.int .i64 a0_2) := (blk_cell BK164.out 2).trans rfl; have hcz19_3 : w18.cell? ⟨gb164, 3, none⟩ = some (.int .i64 a0_3) := (blk_cell BK164.out 3).trans rfl; have hcz19_4 : w18.cell? ⟨gb164, 4, none⟩ = some (.int .i64 a0_4) := (blk_cell BK164.out 4).trans rfl; have hfz19_0 := blk_frozen BK164.out 0; have hfz19_1 := blk_frozen BK164.out 1; have hfz19_2 := blk_frozen BK164.out 2; have hfz19_3 := blk_frozen BK164.out 3; have hfz19_4 := blk_frozen BK164.out 4; obtain ⟨Ao20, co20, eo20⟩ := Kd.R_slice HO171.out; subst eo20; obtain ⟨Ao21, co21, eo21⟩ := Kd.R_slice HO177.out; subst eo21) | (go_at_call 24; (with_reducible refine (fee_Prices.calls a0_0 a0_1 a0_2 a0_3 a0_4 _ _ y169 _ _ y175 t178 t179 t182 _ ?side1 ?side2 ?side3 ?side4 A12.out).mono ?_); (case side1 => repeat (first | exact (Kd.R_reads' HO171.out).2.2 | (with_reducible refine Kd.C_alloc ?_ _) | (with_reducible refine Kd.C_drewN ?_ _) | (with_reducible refine Kd.C_drew ?_))); (case side2 => exact (Kd.R_reads' HO171.out).2.1); (case side3 => repeat (first | exact (Kd.R_reads' HO177.out).2.2 | (with_reducible refine Kd.C_alloc ?_ _) | (with_reducible refine Kd.C_drewN ?_ _) | (with_reducible refine Kd.C_drew ?_))); (case side4 => exact (Kd.R_reads' HO177.out).2.1); rintro e w22 ⟨v180, rfl, ho0, hb⟩; have n0_ := Aside0.mk (Kd.R_below (by (with_reducible repeat (first | apply Kd.R_alloc | apply Kd.R_drewN | apply Kd.R_drew)); exact HO171.out) hb); have n1_ := Aside0.mk (Kd.R_below (by (with_reducible repeat (first | apply Kd.R_alloc | apply Kd.R_drewN | apply Kd.R_drew)); exact HO177.out) hb); have n2_ := Aside0.mk (Kd.R_lower ho0 (below_size (by repeat (first | (with_reducible first | exact HB.out | apply below_alloc | apply pw_below_drewN | apply below_drew1 | refine below_set ?_ GE164.out) | exact HB.out)))); have n3_ := Aside0.mk (blk_below (g := gb164) (o := .cells #[.int .i64 a0_0, .int .i64 a0_1, .int .i64 a0_2, .int .i64 a0_3, .int .i64 a0_4] 23 (0, 0)) (by (with_reducible repeat (first | refine blk_drewN ?_ _ | refine blk_drew ?_ | refine blk_alloc ?_ _)); exact BK164.out) hb); have n4_ := Aside0.mk (below_step (by repeat (first | (with_reducible first | exact HB.out | apply below_alloc | apply pw_below_drewN | apply below_drew1 | refine below_set ?_ GE164.out) | exact HB.out)) hb); clear HO171; clear HO177; clear BK164; clear HB; have HO171 := n0_; have HO177 := n1_; have HO181 := n2_; have BK164 := n3_; have HB := n4_; clear n0_ n1_ n2_ n3_ n4_; (try clear hb); (try clear hb2); (try clear hk); (try clear hi); (try clear ho0))); try go_wp2_with (first | ((with_reducible refine gate_dst (N := 26) rfl ?_); (try (refine gate_guard (by rfl) ?_; dsimp only)); refine Kd.R_lit k25 _ 25 ?hg (N := 26) ?hd (xs := ([] : List (S25))) (inner := []) (ok := fun _ => True) (okp := fun _ => True) ?hr ?hp (fun _ hk => hk) trivial (Below.refl _ _) (Nat.le_refl _) (by simp) ?_; (case hd => rfl); (case hg => rfl); (case hr => first | (go_simp; done) | (go_simp; rfl)); (case hp => exact (Reps.none _ _)); intro v167 w13 ho14 hb hg_ hnew_; clear hg_ hnew_; (first | rw [← Ny166.out] at ho14 | (simp only [Int.reduceToNat] at ho14; rw [← Ny166.out] at ho14)); have n0_ := Aside0.mk (Kd.R_lower ho14 (below_size (by repeat (first | (with_reducible first | exact HB.out | apply below_alloc | apply pw_below_drewN | apply below_drew1 | refine below_set ?_ GE164.out) | exact HB.out)))); have n1_ := Aside0.mk (blk_below (g := gb164) (o := .cells #[.int .i64 a0_0, .int .i64 a0_1, .int .i64 a0_2, .int .i64 a0_3, .int .i64 a0_4] 23 (0, 0)) (by (with_reducible repeat (first | refine blk_drewN ?_ _ | refine blk_drew ?_ | refine blk_alloc ?_ _)); exact BK164.out) hb); have n2_ := Aside0.mk (below_step (by repeat (first | (with_reducible first | exact HB.out | apply below_alloc | apply pw_below_drewN | apply below_drew1 | refine below_set ?_ GE164.out) | exact HB.out)) hb); clear BK164; clear HB; have HO168 := n0_; have BK164 := n1_; have HB := n2_; clear n0_ n1_ n2_; clear hb ho14) | ((with_reducible refine gate_builtin (b := .append) (xs := #[.tmp 26, .tmp 27]) rfl ?_); (try (refine gate_guard (by rfl) ?_; dsimp only)); at_builtin; refine Kd.R_append_rows k25 (w0 := w) w.heap.size rfl (.tmp 26) (.tmp 27) 34 25 (.agg #[(.int .i64 0), (.int .i64 0), (.int .i64 0)]) 24 rfl Try.underlying34 info25 rfl (by decide) (by omega) v167 y166 l1 _ _ _ (fun _ => True) (fun _ => False) rfl rfl ?aO ?aR (fun _ _ h => h) (fun _ h => h.elim) ?aF ?aB ?aS ?aL ?_; (case aR => repeat (first | exact (Kd.C_below HR1.out HB.out) | (with_reducible refine Kd.C_alloc ?_ _) | (with_reducible refine Kd.C_drewN ?_ _) | (with_reducible refine Kd.C_drew ?_))); (case aB => exact (by repeat (first | (with_reducible first | exact HB.out | apply below_alloc | apply pw_below_drewN | apply below_drew1 | refine below_set ?_ GE164.out) | exact HB.out))); (case aF => exact (fun _ _ => trivial)); (case aO => exact (by (with_reducible repeat (first | apply Kd.R_alloc | apply Kd.R_drewN | apply Kd.R_drew)); exact HO168.out)); (case aS => exact (below_size (by repeat (first | (with_reducible first | exact HB.out | apply below_alloc | apply pw_below_drewN | apply below_drew1 | refine below_set ?_ GE164.out) | exact HB.out)))); (case aL => have := LMc10.out; omega); intro v170 w15 ho hb hg hat; rw [← Ny169.out] at ho; have n0_ := Aside0.mk (blk_grown (g := gb164) (o := .cells #[.int .i64 a0_0, .int .i64 a0_1, .int .i64 a0_2, .int .i64 a0_3, .int .i64 a0_4] 23 (0, 0)) (by (with_reducible repeat (first | refine blk_drewN ?_ _ | refine blk_drew ?_ | refine blk_alloc ?_ _)); exact BK164.out) hg (Kd.R_ne HO168.out BK164.out (by decide))); have n1_ := Aside0.mk (hb); have n2_ := Aside0.mk (ho); clear BK164; clear HB; clear HO168; have BK164 := n0_; have HB := n1_; have HO171 := n2_; clear n0_ n1_ n2_; clear ho hb hg hat) | ((with_reducible refine gate_dst (N := 29) rfl ?_); (try (refine gate_guard (by rfl) ?_; dsimp only)); refine Kd.R_lit (Kd.int .i64) _ 3 ?hg (N := 29) ?hd (xs := ([] : List Int)) (inner := []) (ok := fun _ => True) (okp := fun _ => True) ?hr ?hp (fun _ hk => hk) trivial (Below.refl _ _) (Nat.le_refl _) (by simp) ?_; (case hd => rfl); (case hg => rfl); (case hr => first | (go_simp; done) | (go_simp; rfl)); (case hp => exact (Reps.none _ _)); intro v173 w16 ho17 hb hg_ hnew_; clear hg_ hnew_; (first | rw [← Ny172.out] at ho17 | (simp only [Int.reduceToNat] at ho17; rw [← Ny172.out] at ho17)); have n0_ := Aside0.mk (Kd.R_below (by (with_reducible repeat (first | apply Kd.R_alloc | apply Kd.R_drewN | apply Kd.R_drew)); exact HO171.out) hb); have n1_ := Aside0.mk (Kd.R_lower ho17 (below_size (by repeat (first | (with_reducible first | exact HB.out | apply below_alloc | apply pw_below_drewN | apply below_drew1 | refine below_set ?_ GE164.out) | exact HB.out)))); have n2_ := Aside0.mk (blk_below (g := gb164) (o := .cells #[.int .i64 a0_0, .int .i64 a0_1, .int .i64 a0_2, .int .i64 a0_3, .int .i64 a0_4] 23 (0, 0)) (by (with_reducible repeat (first | refine blk_drewN ?_ _ | refine blk_drew ?_ | refine blk_alloc ?_ _)); exact BK164.out) hb); have n3_ := Aside0.mk (below_step (by repeat (first | (with_reducible first | exact HB.out | apply below_alloc | apply pw_below_drewN | apply below_drew1 | refine below_set ?_ GE164.out) | exact HB.out)) hb); clear HO171; clear BK164; clear HB; have HO171 := n0_; have HO174 := n1_; have BK164 := n2_; have HB := n3_; clear n0_ n1_ n2_ n3_; clear hb ho17) | ((with_reducible refine gate_builtin (b := .append) (xs := #[.tmp 29, .tmp 30]) rfl ?_); (try (refine gate_guard (by rfl) ?_; dsimp only)); at_builtin; refine Kd.R_append_rows (Kd.int .i64) (w0 := w) w.heap.size rfl (.tmp 29) (.tmp 30) 35 3 (.int .i64 0) 8 rfl Try.underlying35 info3 rfl (by decide) (by omega) v173 y172 l2 _ _ _ (fun _ => True) (fun _ => False) rfl rfl ?aO ?aR (fun _ _ h => h) (fun _ h => h.elim) ?aF ?aB ?aS ?aL ?_; (case aR => repeat (first | exact (Kd.C_below HR2.out HB.out) | (with_reducible refine Kd.C_alloc ?_ _) | (with_reducible refine Kd.C_drewN ?_ _) | (with_reducible refine Kd.C_drew ?_))); (case aB => exact (by repeat (first | (with_reducible first | exact HB.out | apply below_alloc | apply pw_below_drewN | apply below_drew1 | refine below_set ?_ GE164.out) | exact HB.out))); (case aF => exact (fun _ _ => trivial)); (case aO => exact (by (with_reducible repeat (first | apply Kd.R_alloc | apply Kd.R_drewN | apply Kd.R_drew)); exact HO174.out)); (case aS => exact (below_size (by repeat (first | (with_reducible first | exact HB.out | apply below_alloc | apply pw_below_drewN | apply below_drew1 | refine below_set ?_ GE164.out) | exact HB.out)))); (case aL => have := LMc11.out; omega); intro v176 w18 ho hb hg hat; rw [← Ny175.out] at ho; have n0_ := Aside0.mk (blk_grown (g := gb164) (o := .cells #[.int .i64 a0_0, .int .i64 a0_1, .int .i64 a0_2, .int .i64 a0_3, .int .i64 a0_4] 23 (0, 0)) (by (with_reducible repeat (first | refine blk_drewN ?_ _ | refine blk_drew ?_ | refine blk_alloc ?_ _)); exact BK164.out) hg (Kd.R_ne HO174.out BK164.out (by decide))); have n1_ := Aside0.mk (Kd.R_over' (by (with_reducible repeat (first | apply Kd.R_alloc | apply Kd.R_drewN | apply Kd.R_drew)); exact HO171.out) (Kd.R_typed (by (with_reducible repeat (first | apply Kd.R_alloc | apply Kd.R_drewN | apply Kd.R_drew)); exact HO174.out)) (by decide) hg); have n2_ := Aside0.mk (hb); have n3_ := Aside0.mk (ho); clear BK164; clear HO171; clear HB; clear HO174; have BK164 := n0_; have HO171 := n1_; have HB := n2_; have HO177 := n3_; clear n0_ n1_ n2_ n3_; clear ho hb hg hat; have hcz19_0 : w18.cell? ⟨gb164, 0, none⟩ = some (.int .i64 a0_0) := (blk_cell BK164.out 0).trans rfl; have hcz19_1 : w18.cell? ⟨gb164, 1, none⟩ = some (.int .i64 a0_1) := (blk_cell BK164.out 1).trans rfl; have hcz19_2 : w18.cell? ⟨gb164, 2, none⟩ = some (.int .i64 a0_2) := (blk_cell BK164.out 2).trans rfl; have hcz19_3 : w18.cell? ⟨gb164, 3, none⟩ = some (.int .i64 a0_3) := (blk_cell BK164.out 3).trans rfl; have hcz19_4 : w18.cell? ⟨gb164, 4, none⟩ = some (.int .i64 a0_4) := (blk_cell BK164.out 4).trans rfl; have hfz19_0 := blk_frozen BK164.out 0; have hfz19_1 := blk_frozen BK164.out 1; have hfz19_2 := blk_frozen BK164.out 2; have hfz19_3 := blk_frozen BK164.out 3; have hfz19_4 := blk_frozen BK164.out 4; obtain ⟨Ao20, co20, eo20⟩ := Kd.R_slice HO171.out; subst eo20; obtain ⟨Ao21, co21, eo21⟩ := Kd.R_slice HO177.out; subst eo21) | (go_at_call 24; (with_reducible refine (fee_Prices.calls a0_0 a0_1 a0_2 a0_3 a0_4 _ _ y169 _ _ y175 t178 t179 t182 _ ?side1 ?side2 ?side3 ?side4 A12.out).mono ?_); (case side1 => repeat (first | exact (Kd.R_reads' HO171.out).2.2 | (with_reducible refine Kd.C_alloc ?_ _) | (with_reducible refine Kd.C_drewN ?_ _) | (with_reducible refine Kd.C_drew ?_))); (case side2 => exact (Kd.R_reads' HO171.out).2.1); (case side3 => repeat (first | exact (Kd.R_reads' HO177.out).2.2 | (with_reducible refine Kd.C_alloc ?_ _) | (with_reducible refine Kd.C_drewN ?_ _) | (with_reducible refine Kd.C_drew ?_))); (case side4 => exact (Kd.R_reads' HO177.out).2.1); rintro e w22 ⟨v180, rfl, ho0, hb⟩; have n0_ := Aside0.mk (Kd.R_below (by (with_reducible repeat (first | apply Kd.R_alloc | apply Kd.R_drewN | apply Kd.R_drew)); exact HO171.out) hb); have n1_ := Aside0.mk (Kd.R_below (by (with_reducible repeat (first | apply Kd.R_alloc | apply Kd.R_drewN | apply Kd.R_drew)); exact HO177.out) hb); have n2_ := Aside0.mk (Kd.R_lower ho0 (below_size (by repeat (first | (with_reducible first | exact HB.out | apply below_alloc | apply pw_below_drewN | apply below_drew1 | refine below_set ?_ GE164.out) | exact HB.out)))); have n3_ := Aside0.mk (blk_below (g := gb164) (o := .cells #[.int .i64 a0_0, .int .i64 a0_1, .int .i64 a0_2, .int .i64 a0_3, .int .i64 a0_4] 23 (0, 0)) (by (with_reducible repeat (first | refine blk_drewN ?_ _ | refine blk_drew ?_ | refine blk_alloc ?_ _)); exact BK164.out) hb); have n4_ := Aside0.mk (below_step (by repeat (first | (with_reducible first | exact HB.out | apply below_alloc | apply pw_below_drewN | apply below_drew1 | refine below_set ?_ GE164.out) | exact HB.out)) hb); clear HO171; clear HO177; clear BK164; clear HB; have HO171 := n0_; have HO177 := n1_; have HO181 := n2_; have BK164 := n3_; have HB := n4_; clear n0_ n1_ n2_ n3_ n4_; (try clear hb); (try clear hb2); (try clear hk); (try clear hi); (try clear ho0))))
      go_loopg [12] kj3 (fun kq v12 w' => ∃ (x12_2 : Int), v12 = .int .i64 x12_2 ∧ Aside0 (lw_FeePrices.l0 kq l1 l2 y169 y175 t178 t179 t182 x12_2 a0_0 a0_1 a0_2 a0_3 a0_4 = some r) ∧ Aside0 (kq ≤ kj3) ∧ Aside0 (Kd.R k25 25 w' w.heap.size (fun _ => True) (.slice Ao20 y169.length co20) y169) ∧ Aside0 (Kd.R (Kd.int .i64) 3 w' w.heap.size (fun _ => True) (.slice Ao21 y175.length co21) y175) ∧ Aside0 (Kd.R k44 44 w' w.heap.size (fun _ => True) v180 t179) ∧ Aside0 (w'.heap[gb164]? = some (.cells #[.int .i64 a0_0, .int .i64 a0_1, .int .i64 a0_2, .int .i64 a0_3, .int .i64 a0_4] 23 (0, 0))) ∧ Aside0 (Below w.heap.size w w'))
      case atStart => exact ⟨(0), (by first | rfl | (simp; done) | (simp [*]; done)), H', ⟨Nat.le_refl _⟩, ⟨by (with_reducible repeat (first | apply Kd.R_alloc | apply Kd.R_drewN | apply Kd.R_drew)); exact HO171.out⟩, ⟨by (with_reducible repeat (first | apply Kd.R_alloc | apply Kd.R_drewN | apply Kd.R_drew)); exact HO177.out⟩, ⟨by (with_reducible repeat (first | apply Kd.R_alloc | apply Kd.R_drewN | apply Kd.R_drew)); exact HO181.out⟩, ⟨by (with_reducible repeat (first | refine blk_drewN ?_ _ | refine blk_drew ?_ | refine blk_alloc ?_ _)); exact BK164.out⟩, ⟨by repeat (first | (with_reducible first | exact HB.out | apply below_alloc | apply pw_below_drewN | apply below_drew1 | refine below_set ?_ GE164.out) | exact HB.out)⟩⟩
      case round =>
       clear H'; try clear c1
       try clear c2
       try clear p2
       try clear c4
       try clear c6
       try clear c6b0
       try clear c6b1
       try clear c7
       try clear c10
       try clear c11
       try clear hcz19_0
       try clear hcz19_1
       try clear hcz19_2
       try clear hcz19_3
       try clear hcz19_4
       try clear hfz19_0
       try clear hfz19_1
       try clear hfz19_2
       try clear hfz19_3
       try clear hfz19_4
       try clear p2
       obtain ⟨x12_2, rfl, HA, HK2, HO_7, HO_8, HO_10, BK164, HB⟩ := hrel
       cases gk with
       | zero => exact absurd HA.out (by simp [lw_FeePrices.l0])
       | succ k2 =>
        have H := HA.out
        clear HA; simp only [lw_FeePrices.l0] at H
        by_cases c23 : x12_2 < (l1.length : Int)
        ·rw [if_pos c23] at H
         have c23b0 : decide (x12_2 < (l1.length : Int)) = true := decide_eq_true c23
         clear c23
         by_cases c24 : 0 ≤ x12_2
         ·rw [if_pos c24] at H
          have c24b0 : decide (0 ≤ x12_2) = true := decide_eq_true c24
          clear c24
          by_cases c25 : x12_2 < (y169.length : Int)
          ·rw [if_pos c25] at H
           have c25b0 : decide (x12_2 < (y169.length : Int)) = true := decide_eq_true c25
           clear c25
           by_cases c26 : (!(((rd_T25 y169 x12_2).f0) == ((rd_T25 l1 x12_2).f0)) || (!(((rd_T25 y169 x12_2).f1) == ((rd_T25 l1 x12_2).f1)) || (!(((rd_T25 y169 x12_2).f2) == ((rd_T25 l1 x12_2).f2))))) = true
           ·rw [if_pos c26] at H
            have c26b0 : (!(((rd_T25 y169 x12_2).f0) == ((rd_T25 l1 x12_2).f0)) || (!(((rd_T25 y169 x12_2).f1) == ((rd_T25 l1 x12_2).f1)) || (!(((rd_T25 y169 x12_2).f2) == ((rd_T25 l1 x12_2).f2))))) = true := c26
            clear c26; obtain rfl := Option.some.inj H
            have p183 : 0 ≤ (x12_2 : Int) := of_decide_eq_true (by first | (with_reducible assumption) | assumption)
            have q183 : x12_2 < (y169.length : Int) := of_decide_eq_true (by first | (with_reducible assumption) | assumption)
            obtain ⟨ad183, e183, hx183_0, hx183_1, hx183_2⟩ := at_T25 (Kd.R_reads' HO_7.out).2.2 x12_2 p183 q183
            cases e183
            replace p183 := eq_true p183
            replace q183 := eq_true q183
            have p184 : 0 ≤ (x12_2 : Int) := of_decide_eq_true (by first | (with_reducible assumption) | assumption)
            have q184 : x12_2 < (l1.length : Int) := of_decide_eq_true (by first | (with_reducible assumption) | assumption)
            obtain ⟨ad184, e184, hx184_0, hx184_1, hx184_2⟩ := at_T25 HR1.out x12_2 p184 q184
            cases e184
            replace hx184_0 := (HB.out.cell (World.block_lt_of_cell? w _ hx184_0)).trans hx184_0
            replace hx184_1 := (HB.out.cell (World.block_lt_of_cell? w _ hx184_1)).trans hx184_1
            replace hx184_2 := (HB.out.cell (World.block_lt_of_cell? w _ hx184_2)).trans hx184_2
            replace p184 := eq_true p184
            replace q184 := eq_true q184
            go_wp2
            repeat (go_quiet (fail); try go_wp2)
            go_ret
            exact ⟨by first | rfl | (simp [errW_none, errW_some] <;> rfl) | (simp [*, errW_none, errW_some] <;> rfl), by repeat (first | (with_reducible first | exact HB.out | apply below_alloc | apply pw_below_drewN | apply below_drew1 | refine below_set ?_ GE164.out) | exact HB.out)⟩
           ·rw [if_neg c26] at H
            have c26b0 : (!(((rd_T25 y169 x12_2).f0) == ((rd_T25 l1 x12_2).f0)) || (!(((rd_T25 y169 x12_2).f1) == ((rd_T25 l1 x12_2).f1)) || (!(((rd_T25 y169 x12_2).f2) == ((rd_T25 l1 x12_2).f2))))) = false := by simpa using c26
            clear c26; have H' := Aside0.mk H
            clear H; have p183 : 0 ≤ (x12_2 : Int) := of_decide_eq_true (by first | (with_reducible assumption) | assumption)
            have q183 : x12_2 < (y169.length : Int) := of_decide_eq_true (by first | (with_reducible assumption) | assumption)
            obtain ⟨ad183, e183, hx183_0, hx183_1, hx183_2⟩ := at_T25 (Kd.R_reads' HO_7.out).2.2 x12_2 p183 q183
            cases e183
            replace p183 := eq_true p183
            replace q183 := eq_true q183
            have p184 : 0 ≤ (x12_2 : Int) := of_decide_eq_true (by first | (with_reducible assumption) | assumption)
            have q184 : x12_2 < (l1.length : Int) := of_decide_eq_true (by first | (with_reducible assumption) | assumption)
            obtain ⟨ad184, e184, hx184_0, hx184_1, hx184_2⟩ := at_T25 HR1.out x12_2 p184 q184
            cases e184
            replace hx184_0 := (HB.out.cell (World.block_lt_of_cell? w _ hx184_0)).trans hx184_0
            replace hx184_1 := (HB.out.cell (World.block_lt_of_cell? w _ hx184_1)).trans hx184_1
            replace hx184_2 := (HB.out.cell (World.block_lt_of_cell? w _ hx184_2)).trans hx184_2
            replace p184 := eq_true p184
            replace q184 := eq_true q184
            go_wp2
            repeat (go_quiet (fail); try go_wp2)
            go_roundg k2
            case measure => have := HJ3.out; have := HK2.out; omega
            case rel => exact ⟨(wrap64 (x12_2 + 1)), (by first | rfl | (simp; done) | (simp [*]; done)), H', ⟨by have := HJ3.out; have := HK2.out; omega⟩, ⟨by (with_reducible repeat (first | apply Kd.R_alloc | apply Kd.R_drewN | apply Kd.R_drew)); exact HO_7.out⟩, ⟨by (with_reducible repeat (first | apply Kd.R_alloc | apply Kd.R_drewN | apply Kd.R_drew)); exact HO_8.out⟩, ⟨by (with_reducible repeat (first | apply Kd.R_alloc | apply Kd.R_drewN | apply Kd.R_drew)); exact HO_10.out⟩, ⟨by (with_reducible repeat (first | refine blk_drewN ?_ _ | refine blk_drew ?_ | refine blk_alloc ?_ _)); exact BK164.out⟩, ⟨by repeat (first | (with_reducible first | exact HB.out | apply below_alloc | apply pw_below_drewN | apply below_drew1 | refine below_set ?_ GE164.out) | exact HB.out)⟩⟩
          ·rw [if_neg c25] at H
           exact absurd H (by simp)
         ·rw [if_neg c24] at H
          exact absurd H (by simp)
        ·rw [if_neg c23] at H
         have c23b0 : decide (x12_2 < (l1.length : Int)) = false := decide_eq_false c23
         clear c23
         replace H := Option.bind_eq_some_iff.mp H
         obtain ⟨t185, A270, H⟩ := H
         replace H : (if t185 = true then ((rf_Known.f k2 a0_0 a0_1 a0_2 a0_3 a0_4 l1 l2).bind fun t186 => (if t186 = 0 then ((rf_Prices.f k2 a0_0 a0_1 a0_2 a0_3 a0_4 l1 l2).bind fun bt190 => (if bt190.1 = 0 then (lw_FeePrices.j2 k2 t178 t179 t182 9 bt190.1 bt190.2) else (lw_FeePrices.j2 k2 t178 t179 t182 t186 bt190.1 bt190.2))) else (lw_FeePrices.j2 k2 t178 t179 t182 t186 0 (([] : List (S44)))))) else (some false)) = some r := H
         have A27 := Aside0.mk A270
         clear A270
         by_cases c28 : t185 = true
         ·subst c28
          have H1 : ((rf_Known.f k2 a0_0 a0_1 a0_2 a0_3 a0_4 l1 l2).bind fun t186 => (if t186 = 0 then ((rf_Prices.f k2 a0_0 a0_1 a0_2 a0_3 a0_4 l1 l2).bind fun bt190 => (if bt190.1 = 0 then (lw_FeePrices.j2 k2 t178 t179 t182 9 bt190.1 bt190.2) else (lw_FeePrices.j2 k2 t178 t179 t182 t186 bt190.1 bt190.2))) else (lw_FeePrices.j2 k2 t178 t179 t182 t186 0 (([] : List (S44)))))) = some r := by rw [if_pos rfl] at H; exact H
          clear H; have H := H1
          clear H1
          replace H := Option.bind_eq_some_iff.mp H
          obtain ⟨t186, A290, H⟩ := H
          replace H : (if t186 = 0 then ((rf_Prices.f k2 a0_0 a0_1 a0_2 a0_3 a0_4 l1 l2).bind fun bt190 => (if bt190.1 = 0 then (lw_FeePrices.j2 k2 t178 t179 t182 9 bt190.1 bt190.2) else (lw_FeePrices.j2 k2 t178 t179 t182 t186 bt190.1 bt190.2))) else (lw_FeePrices.j2 k2 t178 t179 t182 t186 0 (([] : List (S44))))) = some r := H
          have A29 := Aside0.mk A290
          clear A290; obtain ⟨y187, hy187⟩ : ∃ y_ : List (S44), y_ = (([] : List (S44))) := ⟨_, rfl⟩
          replace H : (if t186 = 0 then ((rf_Prices.f k2 a0_0 a0_1 a0_2 a0_3 a0_4 l1 l2).bind fun bt190 => (if bt190.1 = 0 then (lw_FeePrices.j2 k2 t178 t179 t182 9 bt190.1 bt190.2) else (lw_FeePrices.j2 k2 t178 t179 t182 t186 bt190.1 bt190.2))) else (lw_FeePrices.j2 k2 t178 t179 t182 t186 0 y187)) = some r := by first | (rw [hy187]; with_reducible exact H) | (have H2_ := (Option.bind_some _ _).symm.trans H; rw [hy187]; with_reducible exact H2_) | (have H2_ := (Option.bind_some _ _).symm.trans H; with_reducible exact H2_) | with_reducible exact H | (rw [hy187]; exact H) | exact H
          have Ny187 := Aside0.mk hy187
          clear hy187; have HC30 := Aside0.mk H
          clear H; go_upto_if 65 with (first | (go_at_call 25; (with_reducible refine (rf_Ints.calls k2 _ _ y175 _ _ l2 true _ ?side1 ?side2 ?side3 ?side4 A27.out).mono ?_); (case side1 => repeat (first | exact (Kd.R_reads' HO_8.out).2.2 | (with_reducible refine Kd.C_alloc ?_ _) | (with_reducible refine Kd.C_drewN ?_ _) | (with_reducible refine Kd.C_drew ?_))); (case side2 => exact (Kd.R_reads' HO_8.out).2.1); (case side3 => repeat (first | exact (Kd.C_below HR2.out HB.out) | (with_reducible refine Kd.C_alloc ?_ _) | (with_reducible refine Kd.C_drewN ?_ _) | (with_reducible refine Kd.C_drew ?_))); (case side4 => exact HC2.out); rintro e w' ⟨rfl, ⟨nd, rfl⟩⟩; (try first | exact ⟨rfl, _, World.drewN_drewN _ _ _⟩ | exact ⟨rfl, _, Eq.trans (World.drewN_drewN _ _ _) (congrArg (World.drewN _) (Nat.add_assoc _ _ _))⟩); have hcz31_0 : wr.cell? ⟨gb164, 0, none⟩ = some (.int .i64 a0_0) := (blk_cell BK164.out 0).trans rfl; have hcz31_1 : wr.cell? ⟨gb164, 1, none⟩ = some (.int .i64 a0_1) := (blk_cell BK164.out 1).trans rfl; have hcz31_2 : wr.cell? ⟨gb164, 2, none⟩ = some (.int .i64 a0_2) := (blk_cell BK164.out 2).trans rfl; have hcz31_3 : wr.cell? ⟨gb164, 3, none⟩ = some (.int .i64 a0_3) := (blk_cell BK164.out 3).trans rfl; have hcz31_4 : wr.cell? ⟨gb164, 4, none⟩ = some (.int .i64 a0_4) := (blk_cell BK164.out 4).trans rfl; have hfz31_0 := blk_frozen BK164.out 0; have hfz31_1 := blk_frozen BK164.out 1; have hfz31_2 := blk_frozen BK164.out 2; have hfz31_3 := blk_frozen BK164.out 3; have hfz31_4 := blk_frozen BK164.out 4) | (go_at_call 26; (with_reducible refine (rf_Known.calls k2 a0_0 a0_1 a0_2 a0_3 a0_4 _ _ l1 _ _ l2 t186 _ ?side1 ?side2 ?side3 ?side4 A29.out).mono ?_); (case side1 => repeat (first | exact (Kd.C_below HR1.out (by repeat (first | (with_reducible first | exact HB.out | apply below_alloc | apply pw_below_drewN | apply below_drew1 | refine below_set ?_ GE164.out) | exact HB.out))) | (with_reducible refine Kd.C_alloc ?_ _) | (with_reducible refine Kd.C_drewN ?_ _) | (with_reducible refine Kd.C_drew ?_))); (case side2 => exact HC1.out); (case side3 => repeat (first | exact (Kd.C_below HR2.out (by repeat (first | (with_reducible first | exact HB.out | apply below_alloc | apply pw_below_drewN | apply below_drew1 | refine below_set ?_ GE164.out) | exact HB.out))) | (with_reducible refine Kd.C_alloc ?_ _) | (with_reducible refine Kd.C_drewN ?_ _) | (with_reducible refine Kd.C_drew ?_))); (case side4 => exact HC2.out); rintro e w32 ⟨rfl, hb⟩; have n0_ := Aside0.mk (Kd.R_below (by (with_reducible repeat (first | apply Kd.R_alloc | apply Kd.R_drewN | apply Kd.R_drew)); exact HO_7.out) hb); have n1_ := Aside0.mk (Kd.R_below (by (with_reducible repeat (first | apply Kd.R_alloc | apply Kd.R_drewN | apply Kd.R_drew)); exact HO_8.out) hb); have n2_ := Aside0.mk (Kd.R_below (by (with_reducible repeat (first | apply Kd.R_alloc | apply Kd.R_drewN | apply Kd.R_drew)); exact HO_10.out) hb); have n3_ := Aside0.mk (blk_below (g := gb164) (o := .cells #[.int .i64 a0_0, .int .i64 a0_1, .int .i64 a0_2, .int .i64 a0_3, .int .i64 a0_4] 23 (0, 0)) (by (with_reducible repeat (first | refine blk_drewN ?_ _ | refine blk_drew ?_ | refine blk_alloc ?_ _)); exact BK164.out) hb); have n4_ := Aside0.mk (below_step (by repeat (first | (with_reducible first | exact HB.out | apply below_alloc | apply pw_below_drewN | apply below_drew1 | refine below_set ?_ GE164.out) | exact HB.out)) hb); clear HO_7; clear HO_8; clear HO_10; clear BK164; clear HB; have HO_7 := n0_; have HO_8 := n1_; have HO_10 := n2_; have BK164 := n3_; have HB := n4_; clear n0_ n1_ n2_ n3_ n4_; (try clear hb); (try clear hb2); (try clear hk); (try clear hi)) | ((with_reducible refine gate_dst (N := 63) rfl ?_); (try (refine gate_guard (by rfl) ?_; dsimp only)); refine Kd.R_lit k44 _ 44 ?hg (N := 63) ?hd (xs := ([] : List (S44))) (inner := []) (ok := fun _ => True) (okp := fun _ => True) ?hr ?hp (fun _ hk => hk) trivial (Below.refl _ _) (Nat.le_refl _) (by simp) ?_; (case hd => rfl); (case hg => rfl); (case hr => first | (go_simp; done) | (go_simp; rfl)); (case hp => exact (Reps.none _ _)); intro v188 w33 ho34 hb hg_ hnew_; clear hg_ hnew_; (first | rw [← Ny187.out] at ho34 | (simp only [Int.reduceToNat] at ho34; rw [← Ny187.out] at ho34)); have n0_ := Aside0.mk (Kd.R_below (by (with_reducible repeat (first | apply Kd.R_alloc | apply Kd.R_drewN | apply Kd.R_drew)); exact HO_7.out) hb); have n1_ := Aside0.mk (Kd.R_below (by (with_reducible repeat (first | apply Kd.R_alloc | apply Kd.R_drewN | apply Kd.R_drew)); exact HO_8.out) hb); have n2_ := Aside0.mk (Kd.R_elder' (by (with_reducible repeat (first | apply Kd.R_alloc | apply Kd.R_drewN | apply Kd.R_drew)); exact HO_10.out) (Kd.R_base ho34) hb); have n3_ := Aside0.mk (Kd.R_lower (Kd.R_new' ho34 (Kd.R_lt (by (with_reducible repeat (first | apply Kd.R_alloc | apply Kd.R_drewN | apply Kd.R_drew)); exact HO_10.out))) (below_size (by repeat (first | (with_reducible first | exact HB.out | apply below_alloc | apply pw_below_drewN | apply below_drew1 | refine below_set ?_ GE164.out) | exact HB.out)))); have n4_ := Aside0.mk (blk_below (g := gb164) (o := .cells #[.int .i64 a0_0, .int .i64 a0_1, .int .i64 a0_2, .int .i64 a0_3, .int .i64 a0_4] 23 (0, 0)) (by (with_reducible repeat (first | refine blk_drewN ?_ _ | refine blk_drew ?_ | refine blk_alloc ?_ _)); exact BK164.out) hb); have n5_ := Aside0.mk (below_step (by repeat (first | (with_reducible first | exact HB.out | apply below_alloc | apply pw_below_drewN | apply below_drew1 | refine below_set ?_ GE164.out) | exact HB.out)) hb); clear HO_7; clear HO_8; clear HO_10; clear BK164; clear HB; have HO_7 := n0_; have HO_8 := n1_; have HO_10 := n2_; have HO189 := n3_; have BK164 := n4_; have HB := n5_; clear n0_ n1_ n2_ n3_ n4_ n5_; clear hb ho34))
          repeat (go_quiet (first | (go_at_call 25; (with_reducible refine (rf_Ints.calls k2 _ _ y175 _ _ l2 true _ ?side1 ?side2 ?side3 ?side4 A27.out).mono ?_); (case side1 => repeat (first | exact (Kd.R_reads' HO_8.out).2.2 | (with_reducible refine Kd.C_alloc ?_ _) | (with_reducible refine Kd.C_drewN ?_ _) | (with_reducible refine Kd.C_drew ?_))); (case side2 => exact (Kd.R_reads' HO_8.out).2.1); (case side3 => repeat (first | exact (Kd.C_below HR2.out HB.out) | (with_reducible refine Kd.C_alloc ?_ _) | (with_reducible refine Kd.C_drewN ?_ _) | (with_reducible refine Kd.C_drew ?_))); (case side4 => exact HC2.out); rintro e w' ⟨rfl, ⟨nd, rfl⟩⟩; (try first | exact ⟨rfl, _, World.drewN_drewN _ _ _⟩ | exact ⟨rfl, _, Eq.trans (World.drewN_drewN _ _ _) (congrArg (World.drewN _) (Nat.add_assoc _ _ _))⟩); have hcz31_0 : wr.cell? ⟨gb164, 0, none⟩ = some (.int .i64 a0_0) := (blk_cell BK164.out 0).trans rfl; have hcz31_1 : wr.cell? ⟨gb164, 1, none⟩ = some (.int .i64 a0_1) := (blk_cell BK164.out 1).trans rfl; have hcz31_2 : wr.cell? ⟨gb164, 2, none⟩ = some (.int .i64 a0_2) := (blk_cell BK164.out 2).trans rfl; have hcz31_3 : wr.cell? ⟨gb164, 3, none⟩ = some (.int .i64 a0_3) := (blk_cell BK164.out 3).trans rfl; have hcz31_4 : wr.cell? ⟨gb164, 4, none⟩ = some (.int .i64 a0_4) := (blk_cell BK164.out 4).trans rfl; have hfz31_0 := blk_frozen BK164.out 0; have hfz31_1 := blk_frozen BK164.out 1; have hfz31_2 := blk_frozen BK164.out 2; have hfz31_3 := blk_frozen BK164.out 3; have hfz31_4 := blk_frozen BK164.out 4) | (go_at_call 26; (with_reducible refine (rf_Known.calls k2 a0_0 a0_1 a0_2 a0_3 a0_4 _ _ l1 _ _ l2 t186 _ ?side1 ?side2 ?side3 ?side4 A29.out).mono ?_); (case side1 => repeat (first | exact (Kd.C_below HR1.out (by repeat (first | (with_reducible first | exact HB.out | apply below_alloc | apply pw_below_drewN | apply below_drew1 | refine below_set ?_ GE164.out) | exact HB.out))) | (with_reducible refine Kd.C_alloc ?_ _) | (with_reducible refine Kd.C_drewN ?_ _) | (with_reducible refine Kd.C_drew ?_))); (case side2 => exact HC1.out); (case side3 => repeat (first | exact (Kd.C_below HR2.out (by repeat (first | (with_reducible first | exact HB.out | apply below_alloc | apply pw_below_drewN | apply below_drew1 | refine below_set ?_ GE164.out) | exact HB.out))) | (with_reducible refine Kd.C_alloc ?_ _) | (with_reducible refine Kd.C_drewN ?_ _) | (with_reducible refine Kd.C_drew ?_))); (case side4 => exact HC2.out); rintro e w32 ⟨rfl, hb⟩; have n0_ := Aside0.mk (Kd.R_below (by (with_reducible repeat (first | apply Kd.R_alloc | apply Kd.R_drewN | apply Kd.R_drew)); exact HO_7.out) hb); have n1_ := Aside0.mk (Kd.R_below (by (with_reducible repeat (first | apply Kd.R_alloc | apply Kd.R_drewN | apply Kd.R_drew)); exact HO_8.out) hb); have n2_ := Aside0.mk (Kd.R_below (by (with_reducible repeat (first | apply Kd.R_alloc | apply Kd.R_drewN | apply Kd.R_drew)); exact HO_10.out) hb); have n3_ := Aside0.mk (blk_below (g := gb164) (o := .cells #[.int .i64 a0_0, .int .i64 a0_1, .int .i64 a0_2, .int .i64 a0_3, .int .i64 a0_4] 23 (0, 0)) (by (with_reducible repeat (first | refine blk_drewN ?_ _ | refine blk_drew ?_ | refine blk_alloc ?_ _)); exact BK164.out) hb); have n4_ := Aside0.mk (below_step (by repeat (first | (with_reducible first | exact HB.out | apply below_alloc | apply pw_below_drewN | apply below_drew1 | refine below_set ?_ GE164.out) | exact HB.out)) hb); clear HO_7; clear HO_8; clear HO_10; clear BK164; clear HB; have HO_7 := n0_; have HO_8 := n1_; have HO_10 := n2_; have BK164 := n3_; have HB := n4_; clear n0_ n1_ n2_ n3_ n4_; (try clear hb); (try clear hb2); (try clear hk); (try clear hi)) | ((with_reducible refine gate_dst (N := 63) rfl ?_); (try (refine gate_guard (by rfl) ?_; dsimp only)); refine Kd.R_lit k44 _ 44 ?hg (N := 63) ?hd (xs := ([] : List (S44))) (inner := []) (ok := fun _ => True) (okp := fun _ => True) ?hr ?hp (fun _ hk => hk) trivial (Below.refl _ _) (Nat.le_refl _) (by simp) ?_; (case hd => rfl); (case hg => rfl); (case hr => first | (go_simp; done) | (go_simp; rfl)); (case hp => exact (Reps.none _ _)); intro v188 w33 ho34 hb hg_ hnew_; clear hg_ hnew_; (first | rw [← Ny187.out] at ho34 | (simp only [Int.reduceToNat] at ho34; rw [← Ny187.out] at ho34)); have n0_ := Aside0.mk (Kd.R_below (by (with_reducible repeat (first | apply Kd.R_alloc | apply Kd.R_drewN | apply Kd.R_drew)); exact HO_7.out) hb); have n1_ := Aside0.mk (Kd.R_below (by (with_reducible repeat (first | apply Kd.R_alloc | apply Kd.R_drewN | apply Kd.R_drew)); exact HO_8.out) hb); have n2_ := Aside0.mk (Kd.R_elder' (by (with_reducible repeat (first | apply Kd.R_alloc | apply Kd.R_drewN | apply Kd.R_drew)); exact HO_10.out) (Kd.R_base ho34) hb); have n3_ := Aside0.mk (Kd.R_lower (Kd.R_new' ho34 (Kd.R_lt (by (with_reducible repeat (first | apply Kd.R_alloc | apply Kd.R_drewN | apply Kd.R_drew)); exact HO_10.out))) (below_size (by repeat (first | (with_reducible first | exact HB.out | apply below_alloc | apply pw_below_drewN | apply below_drew1 | refine below_set ?_ GE164.out) | exact HB.out)))); have n4_ := Aside0.mk (blk_below (g := gb164) (o := .cells #[.int .i64 a0_0, .int .i64 a0_1, .int .i64 a0_2, .int .i64 a0_3, .int .i64 a0_4] 23 (0, 0)) (by (with_reducible repeat (first | refine blk_drewN ?_ _ | refine blk_drew ?_ | refine blk_alloc ?_ _)); exact BK164.out) hb); have n5_ := Aside0.mk (below_step (by repeat (first | (with_reducible first | exact HB.out | apply below_alloc | apply pw_below_drewN | apply below_drew1 | refine below_set ?_ GE164.out) | exact HB.out)) hb); clear HO_7; clear HO_8; clear HO_10; clear BK164; clear HB; have HO_7 := n0_; have HO_8 := n1_; have HO_10 := n2_; have HO189 := n3_; have BK164 := n4_; have HB := n5_; clear n0_ n1_ n2_ n3_ n4_ n5_; clear hb ho34)); go_upto_if 65 with (first | (go_at_call 25; (with_reducible refine (rf_Ints.calls k2 _ _ y175 _ _ l2 true _ ?side1 ?side2 ?side3 ?side4 A27.out).mono ?_); (case side1 => repeat (first | exact (Kd.R_reads' HO_8.out).2.2 | (with_reducible refine Kd.C_alloc ?_ _) | (with_reducible refine Kd.C_drewN ?_ _) | (with_reducible refine Kd.C_drew ?_))); (case side2 => exact (Kd.R_reads' HO_8.out).2.1); (case side3 => repeat (first | exact (Kd.C_below HR2.out HB.out) | (with_reducible refine Kd.C_alloc ?_ _) | (with_reducible refine Kd.C_drewN ?_ _) | (with_reducible refine Kd.C_drew ?_))); (case side4 => exact HC2.out); rintro e w' ⟨rfl, ⟨nd, rfl⟩⟩; (try first | exact ⟨rfl, _, World.drewN_drewN _ _ _⟩ | exact ⟨rfl, _, Eq.trans (World.drewN_drewN _ _ _) (congrArg (World.drewN _) (Nat.add_assoc _ _ _))⟩); have hcz31_0 : wr.cell? ⟨gb164, 0, none⟩ = some (.int .i64 a0_0) := (blk_cell BK164.out 0).trans rfl; have hcz31_1 : wr.cell? ⟨gb164, 1, none⟩ = some (.int .i64 a0_1) := (blk_cell BK164.out 1).trans rfl; have hcz31_2 : wr.cell? ⟨gb164, 2, none⟩ = some (.int .i64 a0_2) := (blk_cell BK164.out 2).trans rfl; have hcz31_3 : wr.cell? ⟨gb164, 3, none⟩ = some (.int .i64 a0_3) := (blk_cell BK164.out 3).trans rfl; have hcz31_4 : wr.cell? ⟨gb164, 4, none⟩ = some (.int .i64 a0_4) := (blk_cell BK164.out 4).trans rfl; have hfz31_0 := blk_frozen BK164.out 0; have hfz31_1 := blk_frozen BK164.out 1; have hfz31_2 := blk_frozen BK164.out 2; have hfz31_3 := blk_frozen BK164.out 3; have hfz31_4 := blk_frozen BK164.out 4) | (go_at_call 26; (with_reducible refine (rf_Known.calls k2 a0_0 a0_1 a0_2 a0_3 a0_4 _ _ l1 _ _ l2 t186 _ ?side1 ?side2 ?side3 ?side4 A29.out).mono ?_); (case side1 => repeat (first | exact (Kd.C_below HR1.out (by repeat (first | (with_reducible first | exact HB.out | apply below_alloc | apply pw_below_drewN | apply below_drew1 | refine below_set ?_ GE164.out) | exact HB.out))) | (with_reducible refine Kd.C_alloc ?_ _) | (with_reducible refine Kd.C_drewN ?_ _) | (with_reducible refine Kd.C_drew ?_))); (case side2 => exact HC1.out); (case side3 => repeat (first | exact (Kd.C_below HR2.out (by repeat (first | (with_reducible first | exact HB.out | apply below_alloc | apply pw_below_drewN | apply below_drew1 | refine below_set ?_ GE164.out) | exact HB.out))) | (with_reducible refine Kd.C_alloc ?_ _) | (with_reducible refine Kd.C_drewN ?_ _) | (with_reducible refine Kd.C_drew ?_))); (case side4 => exact HC2.out); rintro e w32 ⟨rfl, hb⟩; have n0_ := Aside0.mk (Kd.R_below (by (with_reducible repeat (first | apply Kd.R_alloc | apply Kd.R_drewN | apply Kd.R_drew)); exact HO_7.out) hb); have n1_ := Aside0.mk (Kd.R_below (by (with_reducible repeat (first | apply Kd.R_alloc | apply Kd.R_drewN | apply Kd.R_drew)); exact HO_8.out) hb); have n2_ := Aside0.mk (Kd.R_below (by (with_reducible repeat (first | apply Kd.R_alloc | apply Kd.R_drewN | apply Kd.R_drew)); exact HO_10.out) hb); have n3_ := Aside0.mk (blk_below (g := gb164) (o := .cells #[.int .i64 a0_0, .int .i64 a0_1, .int .i64 a0_2, .int .i64 a0_3, .int .i64 a0_4] 23 (0, 0)) (by (with_reducible repeat (first | refine blk_drewN ?_ _ | refine blk_drew ?_ | refine blk_alloc ?_ _)); exact BK164.out) hb); have n4_ := Aside0.mk (below_step (by repeat (first | (with_reducible first | exact HB.out | apply below_alloc | apply pw_below_drewN | apply below_drew1 | refine below_set ?_ GE164.out) | exact HB.out)) hb); clear HO_7; clear HO_8; clear HO_10; clear BK164; clear HB; have HO_7 := n0_; have HO_8 := n1_; have HO_10 := n2_; have BK164 := n3_; have HB := n4_; clear n0_ n1_ n2_ n3_ n4_; (try clear hb); (try clear hb2); (try clear hk); (try clear hi)) | ((with_reducible refine gate_dst (N := 63) rfl ?_); (try (refine gate_guard (by rfl) ?_; dsimp only)); refine Kd.R_lit k44 _ 44 ?hg (N := 63) ?hd (xs := ([] : List (S44))) (inner := []) (ok := fun _ => True) (okp := fun _ => True) ?hr ?hp (fun _ hk => hk) trivial (Below.refl _ _) (Nat.le_refl _) (by simp) ?_; (case hd => rfl); (case hg => rfl); (case hr => first | (go_simp; done) | (go_simp; rfl)); (case hp => exact (Reps.none _ _)); intro v188 w33 ho34 hb hg_ hnew_; clear hg_ hnew_; (first | rw [← Ny187.out] at ho34 | (simp only [Int.reduceToNat] at ho34; rw [← Ny187.out] at ho34)); have n0_ := Aside0.mk (Kd.R_below (by (with_reducible repeat (first | apply Kd.R_alloc | apply Kd.R_drewN | apply Kd.R_drew)); exact HO_7.out) hb); have n1_ := Aside0.mk (Kd.R_below (by (with_reducible repeat (first | apply Kd.R_alloc | apply Kd.R_drewN | apply Kd.R_drew)); exact HO_8.out) hb); have n2_ := Aside0.mk (Kd.R_elder' (by (with_reducible repeat (first | apply Kd.R_alloc | apply Kd.R_drewN | apply Kd.R_drew)); exact HO_10.out) (Kd.R_base ho34) hb); have n3_ := Aside0.mk (Kd.R_lower (Kd.R_new' ho34 (Kd.R_lt (by (with_reducible repeat (first | apply Kd.R_alloc | apply Kd.R_drewN | apply Kd.R_drew)); exact HO_10.out))) (below_size (by repeat (first | (with_reducible first | exact HB.out | apply below_alloc | apply pw_below_drewN | apply below_drew1 | refine below_set ?_ GE164.out) | exact HB.out)))); have n4_ := Aside0.mk (blk_below (g := gb164) (o := .cells #[.int .i64 a0_0, .int .i64 a0_1, .int .i64 a0_2, .int .i64 a0_3, .int .i64 a0_4] 23 (0, 0)) (by (with_reducible repeat (first | refine blk_drewN ?_ _ | refine blk_drew ?_ | refine blk_alloc ?_ _)); exact BK164.out) hb); have n5_ := Aside0.mk (below_step (by repeat (first | (with_reducible first | exact HB.out | apply below_alloc | apply pw_below_drewN | apply below_drew1 | refine below_set ?_ GE164.out) | exact HB.out)) hb); clear HO_7; clear HO_8; clear HO_10; clear BK164; clear HB; have HO_7 := n0_; have HO_8 := n1_; have HO_10 := n2_; have HO189 := n3_; have BK164 := n4_; have HB := n5_; clear n0_ n1_ n2_ n3_ n4_ n5_; clear hb ho34)))
          (try simp only [Act.put, List.setIfInBounds_toArray, List.set_cons_zero, List.set_cons_succ])
          go_cut [13, 14, 15] (fun v13 v14 v15 wc => ∃ (kq : Nat) (x13_29 : Int) (x14_29 : Int) (x15_29 : List (S44)), v13 = .int .i64 x13_29 ∧ v14 = .int .i64 x14_29 ∧ Aside0 (lw_FeePrices.j2 kq t178 t179 t182 x13_29 x14_29 x15_29 = some r) ∧ Aside0 (kq ≤ k2) ∧ Aside0 (Kd.R k44 44 wc w.heap.size (fun k_ => some k_ ≠ (v15 : Value).ownBlock) v180 t179) ∧ Aside0 (Kd.R k44 44 wc w.heap.size (fun k_ => some k_ ≠ (v180 : Value).ownBlock) v15 x15_29) ∧ Aside0 (wc.heap[gb164]? = some (.cells #[.int .i64 a0_0, .int .i64 a0_1, .int .i64 a0_2, .int .i64 a0_3, .int .i64 a0_4] 23 (0, 0))) ∧ Aside0 (Below w.heap.size w wc))
          case first =>
           have H := HC30.out
           clear HC30
           by_cases c35 : t186 = 0
           ·rw [if_pos c35] at H
            have c35b0 : (t186 == 0) = true := beq_iff_eq.mpr c35
            have c35b1 : (t186 != 0) = false := bne_eq_false_iff_eq.mpr c35
            clear c35
            (first | rw [c35b0] | (simp only [i64_w, i32_w]; rw [c35b0]) | skip)
            replace H := Option.bind_eq_some_iff.mp H
            obtain ⟨⟨t190, t191⟩, A360, H⟩ := H
            replace H : (if t190 = 0 then (lw_FeePrices.j2 k2 t178 t179 t182 9 t190 t191) else (lw_FeePrices.j2 k2 t178 t179 t182 t186 t190 t191)) = some r := H
            have A36 := Aside0.mk A360
            clear A360
            by_cases c37 : t190 = 0
            ·rw [if_pos c37] at H
             have c37b0 : (t190 == 0) = true := beq_iff_eq.mpr c37
             have c37b1 : (t190 != 0) = false := bne_eq_false_iff_eq.mpr c37
             clear c37; have H' := Aside0.mk H
             clear H; have hcz38_0 : w33.cell? ⟨gb164, 0, none⟩ = some (.int .i64 a0_0) := (blk_cell BK164.out 0).trans rfl
             have hcz38_1 : w33.cell? ⟨gb164, 1, none⟩ = some (.int .i64 a0_1) := (blk_cell BK164.out 1).trans rfl
             have hcz38_2 : w33.cell? ⟨gb164, 2, none⟩ = some (.int .i64 a0_2) := (blk_cell BK164.out 2).trans rfl
             have hcz38_3 : w33.cell? ⟨gb164, 3, none⟩ = some (.int .i64 a0_3) := (blk_cell BK164.out 3).trans rfl
             have hcz38_4 : w33.cell? ⟨gb164, 4, none⟩ = some (.int .i64 a0_4) := (blk_cell BK164.out 4).trans rfl
             have hfz38_0 := blk_frozen BK164.out 0
             have hfz38_1 := blk_frozen BK164.out 1
             have hfz38_2 := blk_frozen BK164.out 2
             have hfz38_3 := blk_frozen BK164.out 3
             have hfz38_4 := blk_frozen BK164.out 4
             go_wp2_with (first | (go_at_call 27; (with_reducible refine (rf_Prices.calls k2 a0_0 a0_1 a0_2 a0_3 a0_4 _ _ l1 _ _ l2 t190 t191 _ ?side1 ?side2 ?side3 ?side4 A36.out).mono ?_); (case side1 => repeat (first | exact (Kd.C_below HR1.out HB.out) | (with_reducible refine Kd.C_alloc ?_ _) | (with_reducible refine Kd.C_drewN ?_ _) | (with_reducible refine Kd.C_drew ?_))); (case side2 => exact HC1.out); (case side3 => repeat (first | exact (Kd.C_below HR2.out HB.out) | (with_reducible refine Kd.C_alloc ?_ _) | (with_reducible refine Kd.C_drewN ?_ _) | (with_reducible refine Kd.C_drew ?_))); (case side4 => exact HC2.out); rintro e w39 ⟨v192, rfl, ho0, hb⟩; have n0_ := Aside0.mk (Kd.R_below (by (with_reducible repeat (first | apply Kd.R_alloc | apply Kd.R_drewN | apply Kd.R_drew)); exact HO_7.out) hb); have n1_ := Aside0.mk (Kd.R_below (by (with_reducible repeat (first | apply Kd.R_alloc | apply Kd.R_drewN | apply Kd.R_drew)); exact HO_8.out) hb); have n2_ := Aside0.mk (Kd.R_elder' (by (with_reducible repeat (first | apply Kd.R_alloc | apply Kd.R_drewN | apply Kd.R_drew)); exact HO_10.out) (Kd.R_base ho0) hb); have n3_ := Aside0.mk (Kd.R_elder' (by (with_reducible repeat (first | apply Kd.R_alloc | apply Kd.R_drewN | apply Kd.R_drew)); exact HO189.out) (Kd.R_base ho0) hb); have n4_ := Aside0.mk (Kd.R_lower (Kd.R_new' (Kd.R_new' ho0 (Kd.R_lt (by (with_reducible repeat (first | apply Kd.R_alloc | apply Kd.R_drewN | apply Kd.R_drew)); exact HO_10.out))) (Kd.R_lt (by (with_reducible repeat (first | apply Kd.R_alloc | apply Kd.R_drewN | apply Kd.R_drew)); exact HO189.out))) (below_size (by repeat (first | (with_reducible first | exact HB.out | apply below_alloc | apply pw_below_drewN | apply below_drew1 | refine below_set ?_ GE164.out) | exact HB.out)))); have n5_ := Aside0.mk (blk_below (g := gb164) (o := .cells #[.int .i64 a0_0, .int .i64 a0_1, .int .i64 a0_2, .int .i64 a0_3, .int .i64 a0_4] 23 (0, 0)) (by (with_reducible repeat (first | refine blk_drewN ?_ _ | refine blk_drew ?_ | refine blk_alloc ?_ _)); exact BK164.out) hb); have n6_ := Aside0.mk (below_step (by repeat (first | (with_reducible first | exact HB.out | apply below_alloc | apply pw_below_drewN | apply below_drew1 | refine below_set ?_ GE164.out) | exact HB.out)) hb); clear HO_7; clear HO_8; clear HO_10; clear HO189; clear BK164; clear HB; have HO_7 := n0_; have HO_8 := n1_; have HO_10 := n2_; have HO189 := n3_; have HO193 := n4_; have BK164 := n5_; have HB := n6_; clear n0_ n1_ n2_ n3_ n4_ n5_ n6_; (try clear hb); (try clear hb2); (try clear hk); (try clear hi); (try clear ho0)))
             repeat (go_quiet (first | (go_at_call 27; (with_reducible refine (rf_Prices.calls k2 a0_0 a0_1 a0_2 a0_3 a0_4 _ _ l1 _ _ l2 t190 t191 _ ?side1 ?side2 ?side3 ?side4 A36.out).mono ?_); (case side1 => repeat (first | exact (Kd.C_below HR1.out HB.out) | (with_reducible refine Kd.C_alloc ?_ _) | (with_reducible refine Kd.C_drewN ?_ _) | (with_reducible refine Kd.C_drew ?_))); (case side2 => exact HC1.out); (case side3 => repeat (first | exact (Kd.C_below HR2.out HB.out) | (with_reducible refine Kd.C_alloc ?_ _) | (with_reducible refine Kd.C_drewN ?_ _) | (with_reducible refine Kd.C_drew ?_))); (case side4 => exact HC2.out); rintro e w39 ⟨v192, rfl, ho0, hb⟩; have n0_ := Aside0.mk (Kd.R_below (by (with_reducible repeat (first | apply Kd.R_alloc | apply Kd.R_drewN | apply Kd.R_drew)); exact HO_7.out) hb); have n1_ := Aside0.mk (Kd.R_below (by (with_reducible repeat (first | apply Kd.R_alloc | apply Kd.R_drewN | apply Kd.R_drew)); exact HO_8.out) hb); have n2_ := Aside0.mk (Kd.R_elder' (by (with_reducible repeat (first | apply Kd.R_alloc | apply Kd.R_drewN | apply Kd.R_drew)); exact HO_10.out) (Kd.R_base ho0) hb); have n3_ := Aside0.mk (Kd.R_elder' (by (with_reducible repeat (first | apply Kd.R_alloc | apply Kd.R_drewN | apply Kd.R_drew)); exact HO189.out) (Kd.R_base ho0) hb); have n4_ := Aside0.mk (Kd.R_lower (Kd.R_new' (Kd.R_new' ho0 (Kd.R_lt (by (with_reducible repeat (first | apply Kd.R_alloc | apply Kd.R_drewN | apply Kd.R_drew)); exact HO_10.out))) (Kd.R_lt (by (with_reducible repeat (first | apply Kd.R_alloc | apply Kd.R_drewN | apply Kd.R_drew)); exact HO189.out))) (below_size (by repeat (first | (with_reducible first | exact HB.out | apply below_alloc | apply pw_below_drewN | apply below_drew1 | refine below_set ?_ GE164.out) | exact HB.out)))); have n5_ := Aside0.mk (blk_below (g := gb164) (o := .cells #[.int .i64 a0_0, .int .i64 a0_1, .int .i64 a0_2, .int .i64 a0_3, .int .i64 a0_4] 23 (0, 0)) (by (with_reducible repeat (first | refine blk_drewN ?_ _ | refine blk_drew ?_ | refine blk_alloc ?_ _)); exact BK164.out) hb); have n6_ := Aside0.mk (below_step (by repeat (first | (with_reducible first | exact HB.out | apply below_alloc | apply pw_below_drewN | apply below_drew1 | refine below_set ?_ GE164.out) | exact HB.out)) hb); clear HO_7; clear HO_8; clear HO_10; clear HO189; clear BK164; clear HB; have HO_7 := n0_; have HO_8 := n1_; have HO_10 := n2_; have HO189 := n3_; have HO193 := n4_; have BK164 := n5_; have HB := n6_; clear n0_ n1_ n2_ n3_ n4_ n5_ n6_; (try clear hb); (try clear hb2); (try clear hk); (try clear hi); (try clear ho0))); try go_wp2_with (first | (go_at_call 27; (with_reducible refine (rf_Prices.calls k2 a0_0 a0_1 a0_2 a0_3 a0_4 _ _ l1 _ _ l2 t190 t191 _ ?side1 ?side2 ?side3 ?side4 A36.out).mono ?_); (case side1 => repeat (first | exact (Kd.C_below HR1.out HB.out) | (with_reducible refine Kd.C_alloc ?_ _) | (with_reducible refine Kd.C_drewN ?_ _) | (with_reducible refine Kd.C_drew ?_))); (case side2 => exact HC1.out); (case side3 => repeat (first | exact (Kd.C_below HR2.out HB.out) | (with_reducible refine Kd.C_alloc ?_ _) | (with_reducible refine Kd.C_drewN ?_ _) | (with_reducible refine Kd.C_drew ?_))); (case side4 => exact HC2.out); rintro e w39 ⟨v192, rfl, ho0, hb⟩; have n0_ := Aside0.mk (Kd.R_below (by (with_reducible repeat (first | apply Kd.R_alloc | apply Kd.R_drewN | apply Kd.R_drew)); exact HO_7.out) hb); have n1_ := Aside0.mk (Kd.R_below (by (with_reducible repeat (first | apply Kd.R_alloc | apply Kd.R_drewN | apply Kd.R_drew)); exact HO_8.out) hb); have n2_ := Aside0.mk (Kd.R_elder' (by (with_reducible repeat (first | apply Kd.R_alloc | apply Kd.R_drewN | apply Kd.R_drew)); exact HO_10.out) (Kd.R_base ho0) hb); have n3_ := Aside0.mk (Kd.R_elder' (by (with_reducible repeat (first | apply Kd.R_alloc | apply Kd.R_drewN | apply Kd.R_drew)); exact HO189.out) (Kd.R_base ho0) hb); have n4_ := Aside0.mk (Kd.R_lower (Kd.R_new' (Kd.R_new' ho0 (Kd.R_lt (by (with_reducible repeat (first | apply Kd.R_alloc | apply Kd.R_drewN | apply Kd.R_drew)); exact HO_10.out))) (Kd.R_lt (by (with_reducible repeat (first | apply Kd.R_alloc | apply Kd.R_drewN | apply Kd.R_drew)); exact HO189.out))) (below_size (by repeat (first | (with_reducible first | exact HB.out | apply below_alloc | apply pw_below_drewN | apply below_drew1 | refine below_set ?_ GE164.out) | exact HB.out)))); have n5_ := Aside0.mk (blk_below (g := gb164) (o := .cells #[.int .i64 a0_0, .int .i64 a0_1, .int .i64 a0_2, .int .i64 a0_3, .int .i64 a0_4] 23 (0, 0)) (by (with_reducible repeat (first | refine blk_drewN ?_ _ | refine blk_drew ?_ | refine blk_alloc ?_ _)); exact BK164.out) hb); have n6_ := Aside0.mk (below_step (by repeat (first | (with_reducible first | exact HB.out | apply below_alloc | apply pw_below_drewN | apply below_drew1 | refine below_set ?_ GE164.out) | exact HB.out)) hb); clear HO_7; clear HO_8; clear HO_10; clear HO189; clear BK164; clear HB; have HO_7 := n0_; have HO_8 := n1_; have HO_10 := n2_; have HO189 := n3_; have HO193 := n4_; have BK164 := n5_; have HB := n6_; clear n0_ n1_ n2_ n3_ n4_ n5_ n6_; (try clear hb); (try clear hb2); (try clear hk); (try clear hi); (try clear ho0))))
             go_meet
             case rel => exact ⟨_, (9), (t190), (t191), (by first | rfl | (simp; done) | (simp [*]; done)), (by first | rfl | (simp; done) | (simp [*]; done)), H', ⟨by have := HJ3.out; have := HK2.out; first | omega | exact Nat.le_refl _⟩, ⟨by (with_reducible repeat (first | apply Kd.R_alloc | apply Kd.R_drewN | apply Kd.R_drew)); exact Kd.R_mono HO_10.out (fun _ hk => hk.2)⟩, ⟨by (with_reducible repeat (first | apply Kd.R_alloc | apply Kd.R_drewN | apply Kd.R_drew)); exact Kd.R_mono HO193.out (fun _ hk => hk.1.2)⟩, ⟨by (with_reducible repeat (first | refine blk_drewN ?_ _ | refine blk_drew ?_ | refine blk_alloc ?_ _)); exact BK164.out⟩, ⟨by repeat (first | (with_reducible first | exact HB.out | apply below_alloc | apply pw_below_drewN | apply below_drew1 | refine below_set ?_ GE164.out) | exact HB.out)⟩⟩
            ·rw [if_neg c37] at H
             have c37b0 : (t190 == 0) = false := beq_eq_false_iff_ne.mpr c37
             have c37b1 : (t190 != 0) = true := bne_iff_ne.mpr c37
             have H' := Aside0.mk H
             clear H; have hcz40_0 : w33.cell? ⟨gb164, 0, none⟩ = some (.int .i64 a0_0) := (blk_cell BK164.out 0).trans rfl
             have hcz40_1 : w33.cell? ⟨gb164, 1, none⟩ = some (.int .i64 a0_1) := (blk_cell BK164.out 1).trans rfl
             have hcz40_2 : w33.cell? ⟨gb164, 2, none⟩ = some (.int .i64 a0_2) := (blk_cell BK164.out 2).trans rfl
             have hcz40_3 : w33.cell? ⟨gb164, 3, none⟩ = some (.int .i64 a0_3) := (blk_cell BK164.out 3).trans rfl
             have hcz40_4 : w33.cell? ⟨gb164, 4, none⟩ = some (.int .i64 a0_4) := (blk_cell BK164.out 4).trans rfl
             have hfz40_0 := blk_frozen BK164.out 0
             have hfz40_1 := blk_frozen BK164.out 1
             have hfz40_2 := blk_frozen BK164.out 2
             have hfz40_3 := blk_frozen BK164.out 3
             have hfz40_4 := blk_frozen BK164.out 4
             go_wp2_with (first | (go_at_call 27; (with_reducible refine (rf_Prices.calls k2 a0_0 a0_1 a0_2 a0_3 a0_4 _ _ l1 _ _ l2 t190 t191 _ ?side1 ?side2 ?side3 ?side4 A36.out).mono ?_); (case side1 => repeat (first | exact (Kd.C_below HR1.out HB.out) | (with_reducible refine Kd.C_alloc ?_ _) | (with_reducible refine Kd.C_drewN ?_ _) | (with_reducible refine Kd.C_drew ?_))); (case side2 => exact HC1.out); (case side3 => repeat (first | exact (Kd.C_below HR2.out HB.out) | (with_reducible refine Kd.C_alloc ?_ _) | (with_reducible refine Kd.C_drewN ?_ _) | (with_reducible refine Kd.C_drew ?_))); (case side4 => exact HC2.out); rintro e w41 ⟨v192, rfl, ho0, hb⟩; have n0_ := Aside0.mk (Kd.R_below (by (with_reducible repeat (first | apply Kd.R_alloc | apply Kd.R_drewN | apply Kd.R_drew)); exact HO_7.out) hb); have n1_ := Aside0.mk (Kd.R_below (by (with_reducible repeat (first | apply Kd.R_alloc | apply Kd.R_drewN | apply Kd.R_drew)); exact HO_8.out) hb); have n2_ := Aside0.mk (Kd.R_elder' (by (with_reducible repeat (first | apply Kd.R_alloc | apply Kd.R_drewN | apply Kd.R_drew)); exact HO_10.out) (Kd.R_base ho0) hb); have n3_ := Aside0.mk (Kd.R_elder' (by (with_reducible repeat (first | apply Kd.R_alloc | apply Kd.R_drewN | apply Kd.R_drew)); exact HO189.out) (Kd.R_base ho0) hb); have n4_ := Aside0.mk (Kd.R_lower (Kd.R_new' (Kd.R_new' ho0 (Kd.R_lt (by (with_reducible repeat (first | apply Kd.R_alloc | apply Kd.R_drewN | apply Kd.R_drew)); exact HO_10.out))) (Kd.R_lt (by (with_reducible repeat (first | apply Kd.R_alloc | apply Kd.R_drewN | apply Kd.R_drew)); exact HO189.out))) (below_size (by repeat (first | (with_reducible first | exact HB.out | apply below_alloc | apply pw_below_drewN | apply below_drew1 | refine below_set ?_ GE164.out) | exact HB.out)))); have n5_ := Aside0.mk (blk_below (g := gb164) (o := .cells #[.int .i64 a0_0, .int .i64 a0_1, .int .i64 a0_2, .int .i64 a0_3, .int .i64 a0_4] 23 (0, 0)) (by (with_reducible repeat (first | refine blk_drewN ?_ _ | refine blk_drew ?_ | refine blk_alloc ?_ _)); exact BK164.out) hb); have n6_ := Aside0.mk (below_step (by repeat (first | (with_reducible first | exact HB.out | apply below_alloc | apply pw_below_drewN | apply below_drew1 | refine below_set ?_ GE164.out) | exact HB.out)) hb); clear HO_7; clear HO_8; clear HO_10; clear HO189; clear BK164; clear HB; have HO_7 := n0_; have HO_8 := n1_; have HO_10 := n2_; have HO189 := n3_; have HO193 := n4_; have BK164 := n5_; have HB := n6_; clear n0_ n1_ n2_ n3_ n4_ n5_ n6_; (try clear hb); (try clear hb2); (try clear hk); (try clear hi); (try clear ho0)))
             repeat (go_quiet (first | (go_at_call 27; (with_reducible refine (rf_Prices.calls k2 a0_0 a0_1 a0_2 a0_3 a0_4 _ _ l1 _ _ l2 t190 t191 _ ?side1 ?side2 ?side3 ?side4 A36.out).mono ?_); (case side1 => repeat (first | exact (Kd.C_below HR1.out HB.out) | (with_reducible refine Kd.C_alloc ?_ _) | (with_reducible refine Kd.C_drewN ?_ _) | (with_reducible refine Kd.C_drew ?_))); (case side2 => exact HC1.out); (case side3 => repeat (first | exact (Kd.C_below HR2.out HB.out) | (with_reducible refine Kd.C_alloc ?_ _) | (with_reducible refine Kd.C_drewN ?_ _) | (with_reducible refine Kd.C_drew ?_))); (case side4 => exact HC2.out); rintro e w41 ⟨v192, rfl, ho0, hb⟩; have n0_ := Aside0.mk (Kd.R_below (by (with_reducible repeat (first | apply Kd.R_alloc | apply Kd.R_drewN | apply Kd.R_drew)); exact HO_7.out) hb); have n1_ := Aside0.mk (Kd.R_below (by (with_reducible repeat (first | apply Kd.R_alloc | apply Kd.R_drewN | apply Kd.R_drew)); exact HO_8.out) hb); have n2_ := Aside0.mk (Kd.R_elder' (by (with_reducible repeat (first | apply Kd.R_alloc | apply Kd.R_drewN | apply Kd.R_drew)); exact HO_10.out) (Kd.R_base ho0) hb); have n3_ := Aside0.mk (Kd.R_elder' (by (with_reducible repeat (first | apply Kd.R_alloc | apply Kd.R_drewN | apply Kd.R_drew)); exact HO189.out) (Kd.R_base ho0) hb); have n4_ := Aside0.mk (Kd.R_lower (Kd.R_new' (Kd.R_new' ho0 (Kd.R_lt (by (with_reducible repeat (first | apply Kd.R_alloc | apply Kd.R_drewN | apply Kd.R_drew)); exact HO_10.out))) (Kd.R_lt (by (with_reducible repeat (first | apply Kd.R_alloc | apply Kd.R_drewN | apply Kd.R_drew)); exact HO189.out))) (below_size (by repeat (first | (with_reducible first | exact HB.out | apply below_alloc | apply pw_below_drewN | apply below_drew1 | refine below_set ?_ GE164.out) | exact HB.out)))); have n5_ := Aside0.mk (blk_below (g := gb164) (o := .cells #[.int .i64 a0_0, .int .i64 a0_1, .int .i64 a0_2, .int .i64 a0_3, .int .i64 a0_4] 23 (0, 0)) (by (with_reducible repeat (first | refine blk_drewN ?_ _ | refine blk_drew ?_ | refine blk_alloc ?_ _)); exact BK164.out) hb); have n6_ := Aside0.mk (below_step (by repeat (first | (with_reducible first | exact HB.out | apply below_alloc | apply pw_below_drewN | apply below_drew1 | refine below_set ?_ GE164.out) | exact HB.out)) hb); clear HO_7; clear HO_8; clear HO_10; clear HO189; clear BK164; clear HB; have HO_7 := n0_; have HO_8 := n1_; have HO_10 := n2_; have HO189 := n3_; have HO193 := n4_; have BK164 := n5_; have HB := n6_; clear n0_ n1_ n2_ n3_ n4_ n5_ n6_; (try clear hb); (try clear hb2); (try clear hk); (try clear hi); (try clear ho0))); try go_wp2_with (first | (go_at_call 27; (with_reducible refine (rf_Prices.calls k2 a0_0 a0_1 a0_2 a0_3 a0_4 _ _ l1 _ _ l2 t190 t191 _ ?side1 ?side2 ?side3 ?side4 A36.out).mono ?_); (case side1 => repeat (first | exact (Kd.C_below HR1.out HB.out) | (with_reducible refine Kd.C_alloc ?_ _) | (with_reducible refine Kd.C_drewN ?_ _) | (with_reducible refine Kd.C_drew ?_))); (case side2 => exact HC1.out); (case side3 => repeat (first | exact (Kd.C_below HR2.out HB.out) | (with_reducible refine Kd.C_alloc ?_ _) | (with_reducible refine Kd.C_drewN ?_ _) | (with_reducible refine Kd.C_drew ?_))); (case side4 => exact HC2.out); rintro e w41 ⟨v192, rfl, ho0, hb⟩; have n0_ := Aside0.mk (Kd.R_below (by (with_reducible repeat (first | apply Kd.R_alloc | apply Kd.R_drewN | apply Kd.R_drew)); exact HO_7.out) hb); have n1_ := Aside0.mk (Kd.R_below (by (with_reducible repeat (first | apply Kd.R_alloc | apply Kd.R_drewN | apply Kd.R_drew)); exact HO_8.out) hb); have n2_ := Aside0.mk (Kd.R_elder' (by (with_reducible repeat (first | apply Kd.R_alloc | apply Kd.R_drewN | apply Kd.R_drew)); exact HO_10.out) (Kd.R_base ho0) hb); have n3_ := Aside0.mk (Kd.R_elder' (by (with_reducible repeat (first | apply Kd.R_alloc | apply Kd.R_drewN | apply Kd.R_drew)); exact HO189.out) (Kd.R_base ho0) hb); have n4_ := Aside0.mk (Kd.R_lower (Kd.R_new' (Kd.R_new' ho0 (Kd.R_lt (by (with_reducible repeat (first | apply Kd.R_alloc | apply Kd.R_drewN | apply Kd.R_drew)); exact HO_10.out))) (Kd.R_lt (by (with_reducible repeat (first | apply Kd.R_alloc | apply Kd.R_drewN | apply Kd.R_drew)); exact HO189.out))) (below_size (by repeat (first | (with_reducible first | exact HB.out | apply below_alloc | apply pw_below_drewN | apply below_drew1 | refine below_set ?_ GE164.out) | exact HB.out)))); have n5_ := Aside0.mk (blk_below (g := gb164) (o := .cells #[.int .i64 a0_0, .int .i64 a0_1, .int .i64 a0_2, .int .i64 a0_3, .int .i64 a0_4] 23 (0, 0)) (by (with_reducible repeat (first | refine blk_drewN ?_ _ | refine blk_drew ?_ | refine blk_alloc ?_ _)); exact BK164.out) hb); have n6_ := Aside0.mk (below_step (by repeat (first | (with_reducible first | exact HB.out | apply below_alloc | apply pw_below_drewN | apply below_drew1 | refine below_set ?_ GE164.out) | exact HB.out)) hb); clear HO_7; clear HO_8; clear HO_10; clear HO189; clear BK164; clear HB; have HO_7 := n0_; have HO_8 := n1_; have HO_10 := n2_; have HO189 := n3_; have HO193 := n4_; have BK164 := n5_; have HB := n6_; clear n0_ n1_ n2_ n3_ n4_ n5_ n6_; (try clear hb); (try clear hb2); (try clear hk); (try clear hi); (try clear ho0))))
             go_meet
             case rel => exact ⟨_, (t186), (t190), (t191), (by first | rfl | (simp; done) | (simp [*]; done)), (by first | rfl | (simp; done) | (simp [*]; done)), H', ⟨by have := HJ3.out; have := HK2.out; first | omega | exact Nat.le_refl _⟩, ⟨by (with_reducible repeat (first | apply Kd.R_alloc | apply Kd.R_drewN | apply Kd.R_drew)); exact Kd.R_mono HO_10.out (fun _ hk => hk.2)⟩, ⟨by (with_reducible repeat (first | apply Kd.R_alloc | apply Kd.R_drewN | apply Kd.R_drew)); exact Kd.R_mono HO193.out (fun _ hk => hk.1.2)⟩, ⟨by (with_reducible repeat (first | refine blk_drewN ?_ _ | refine blk_drew ?_ | refine blk_alloc ?_ _)); exact BK164.out⟩, ⟨by repeat (first | (with_reducible first | exact HB.out | apply below_alloc | apply pw_below_drewN | apply below_drew1 | refine below_set ?_ GE164.out) | exact HB.out)⟩⟩
           ·rw [if_neg c35] at H
            have c35b0 : (t186 == 0) = false := beq_eq_false_iff_ne.mpr c35
            have c35b1 : (t186 != 0) = true := bne_iff_ne.mpr c35
            (first | rw [c35b0] | (simp only [i64_w, i32_w]; rw [c35b0]) | skip)
            have H' := Aside0.mk H
            clear H; go_wp2
            repeat (go_quiet (fail); try go_wp2)
            go_meet
            case rel => exact ⟨_, (t186), (0), (y187), (by first | rfl | (simp; done) | (simp [*]; done)), (by first | rfl | (simp; done) | (simp [*]; done)), H', ⟨by have := HJ3.out; have := HK2.out; first | omega | exact Nat.le_refl _⟩, ⟨by (with_reducible repeat (first | apply Kd.R_alloc | apply Kd.R_drewN | apply Kd.R_drew)); exact Kd.R_mono HO_10.out (fun _ hk => hk.2)⟩, ⟨by (with_reducible repeat (first | apply Kd.R_alloc | apply Kd.R_drewN | apply Kd.R_drew)); exact Kd.R_mono HO189.out (fun _ hk => hk.2)⟩, ⟨by (with_reducible repeat (first | refine blk_drewN ?_ _ | refine blk_drew ?_ | refine blk_alloc ?_ _)); exact BK164.out⟩, ⟨by repeat (first | (with_reducible first | exact HB.out | apply below_alloc | apply pw_below_drewN | apply below_drew1 | refine below_set ?_ GE164.out) | exact HB.out)⟩⟩
          case rest =>
           clear HC30; try clear c1
           try clear p1
           try clear q1
           try clear hx1
           try clear c2
           try clear p2
           try clear c3
           try clear c4
           try clear c6
           try clear c6b0
           try clear c6b1
           try clear p6
           try clear c7
           try clear c10
           try clear c11
           try clear p18
           try clear q18
           try clear hx18
           try clear c23
           try clear c23b0
           try clear c24
           try clear c24b0
           try clear c25
           try clear c25b0
           try clear c26
           try clear c26b0
           try clear c28
           try clear c35
           try clear c35b0
           try clear c35b1
           try clear c37
           try clear c37b0
           try clear c37b1
           try clear hcz19_0
           try clear hcz19_1
           try clear hcz19_2
           try clear hcz19_3
           try clear hcz19_4
           try clear hcz31_0
           try clear hcz31_1
           try clear hcz31_2
           try clear hcz31_3
           try clear hcz31_4
           try clear hcz38_0
           try clear hcz38_1
           try clear hcz38_2
           try clear hcz38_3
           try clear hcz38_4
           try clear hcz40_0
           try clear hcz40_1
           try clear hcz40_2
           try clear hcz40_3
           try clear hcz40_4
           try clear hfz19_0
           try clear hfz19_1
           try clear hfz19_2
           try clear hfz19_3
           try clear hfz19_4
           try clear hfz31_0
           try clear hfz31_1
           try clear hfz31_2
           try clear hfz31_3
           try clear hfz31_4
           try clear hfz38_0
           try clear hfz38_1
           try clear hfz38_2
           try clear hfz38_3
           try clear hfz38_4
           try clear hfz40_0
           try clear hfz40_1
           try clear hfz40_2
           try clear hfz40_3
           try clear hfz40_4
           try clear hx183_0
           try clear hx183_1
           try clear hx183_2
           try clear hx184_0
           try clear hx184_1
           try clear hx184_2
           try clear p183
           try clear p184
           try clear p2
           try clear q183
           try clear q184
           obtain ⟨kq, x13_29, x14_29, x15_29, rfl, rfl, HA, HJ29, HO_10, HO_15, BK164, HB⟩ := hcut
           cases kq with
           | zero => exact absurd HA.out (by simp [lw_FeePrices.j2])
           | succ kj29 =>
            have H := HA.out
            clear HA; simp only [lw_FeePrices.j2] at H
            by_cases c42 : x13_29 = 0
            ·rw [if_pos c42] at H
             have c42b0 : (x13_29 == 0) = true := beq_iff_eq.mpr c42
             have c42b1 : (x13_29 != 0) = false := bne_eq_false_iff_eq.mpr c42
             clear c42; have HC43 := Aside0.mk H
             clear H; go_upto_region 19 with (fail)
             repeat (go_quiet (fail); go_upto_region 19 with (fail))
             go_cut [105] (fun v105 wc => ∃ (kq : Nat) (x105_42 : Bool), v105 = .bool x105_42 ∧ Aside0 (lw_FeePrices.j3 kq t179 x15_29 x105_42 = some r) ∧ Aside0 (kq ≤ kj29) ∧ Aside0 (Kd.R k44 44 wc w.heap.size (fun k_ => some k_ ≠ (u15 : Value).ownBlock) v180 t179) ∧ Aside0 (Kd.R k44 44 wc w.heap.size (fun k_ => some k_ ≠ (v180 : Value).ownBlock) u15 x15_29) ∧ Aside0 (wc.heap[gb164]? = some (.cells #[.int .i64 a0_0, .int .i64 a0_1, .int .i64 a0_2, .int .i64 a0_3, .int .i64 a0_4] 23 (0, 0))) ∧ Aside0 (Below w.heap.size w wc))
             case first =>
              have H := HC43.out
              clear HC43
              by_cases c44 : t182 = 0
              ·rw [if_pos c44] at H
               have c44b0 : (t182 == 0) = true := beq_iff_eq.mpr c44
               have c44b1 : (t182 != 0) = false := bne_eq_false_iff_eq.mpr c44
               clear c44
               (first | rw [c44b0] | (simp only [i64_w, i32_w]; rw [c44b0]) | skip)
               by_cases c45 : t178 = x14_29
               ·rw [if_pos c45] at H
                have c45b0 : (t178 == x14_29) = true := beq_iff_eq.mpr c45
                have c45b1 : (t178 != x14_29) = false := bne_eq_false_iff_eq.mpr c45
                clear c45; have H' := Aside0.mk H
                clear H; obtain ⟨Ao46, co46, eo46⟩ := Kd.R_slice HO_10.out
                subst eo46
                obtain ⟨Ao47, co47, eo47⟩ := Kd.R_slice HO_15.out
                subst eo47
                go_wp2
                repeat (go_quiet (fail); try go_wp2)
                go_meet
                case rel => exact ⟨_, (((t179.length : Int) != (x15_29.length : Int))), (by first | rfl | (simp; done) | (simp [*]; done)), H', ⟨by have := HJ3.out; have := HK2.out; have := HJ29.out; first | omega | exact Nat.le_refl _⟩, ⟨by (with_reducible repeat (first | apply Kd.R_alloc | apply Kd.R_drewN | apply Kd.R_drew)); exact HO_10.out⟩, ⟨by (with_reducible repeat (first | apply Kd.R_alloc | apply Kd.R_drewN | apply Kd.R_drew)); exact HO_15.out⟩, ⟨by (with_reducible repeat (first | refine blk_drewN ?_ _ | refine blk_drew ?_ | refine blk_alloc ?_ _)); exact BK164.out⟩, ⟨by repeat (first | (with_reducible first | exact HB.out | apply below_alloc | apply pw_below_drewN | apply below_drew1 | refine below_set ?_ GE164.out) | exact HB.out)⟩⟩
               ·rw [if_neg c45] at H
                have c45b0 : (t178 == x14_29) = false := beq_eq_false_iff_ne.mpr c45
                have c45b1 : (t178 != x14_29) = true := bne_iff_ne.mpr c45
                have H' := Aside0.mk H
                clear H; go_wp2
                repeat (go_quiet (fail); try go_wp2)
                go_meet
                case rel => exact ⟨_, (true), (by first | rfl | (simp; done) | (simp [*]; done)), H', ⟨by have := HJ3.out; have := HK2.out; have := HJ29.out; first | omega | exact Nat.le_refl _⟩, ⟨by (with_reducible repeat (first | apply Kd.R_alloc | apply Kd.R_drewN | apply Kd.R_drew)); exact HO_10.out⟩, ⟨by (with_reducible repeat (first | apply Kd.R_alloc | apply Kd.R_drewN | apply Kd.R_drew)); exact HO_15.out⟩, ⟨by (with_reducible repeat (first | refine blk_drewN ?_ _ | refine blk_drew ?_ | refine blk_alloc ?_ _)); exact BK164.out⟩, ⟨by repeat (first | (with_reducible first | exact HB.out | apply below_alloc | apply pw_below_drewN | apply below_drew1 | refine below_set ?_ GE164.out) | exact HB.out)⟩⟩
              ·rw [if_neg c44] at H
               have c44b0 : (t182 == 0) = false := beq_eq_false_iff_ne.mpr c44
               have c44b1 : (t182 != 0) = true := bne_iff_ne.mpr c44
               (first | rw [c44b0] | (simp only [i64_w, i32_w]; rw [c44b0]) | skip)
               have H' := Aside0.mk H
               clear H; go_wp2
               repeat (go_quiet (fail); try go_wp2)
               go_meet
               case rel => exact ⟨_, (true), (by first | rfl | (simp; done) | (simp [*]; done)), H', ⟨by have := HJ3.out; have := HK2.out; have := HJ29.out; first | omega | exact Nat.le_refl _⟩, ⟨by (with_reducible repeat (first | apply Kd.R_alloc | apply Kd.R_drewN | apply Kd.R_drew)); exact HO_10.out⟩, ⟨by (with_reducible repeat (first | apply Kd.R_alloc | apply Kd.R_drewN | apply Kd.R_drew)); exact HO_15.out⟩, ⟨by (with_reducible repeat (first | refine blk_drewN ?_ _ | refine blk_drew ?_ | refine blk_alloc ?_ _)); exact BK164.out⟩, ⟨by repeat (first | (with_reducible first | exact HB.out | apply below_alloc | apply pw_below_drewN | apply below_drew1 | refine below_set ?_ GE164.out) | exact HB.out)⟩⟩
             case rest =>
              clear HC43; try clear c1
              try clear p1
              try clear q1
              try clear hx1
              try clear c2
              try clear p2
              try clear c3
              try clear c4
              try clear c6
              try clear c6b0
              try clear c6b1
              try clear p6
              try clear c7
              try clear c10
              try clear c11
              try clear p18
              try clear q18
              try clear hx18
              try clear c23
              try clear c23b0
              try clear c24
              try clear c24b0
              try clear c25
              try clear c25b0
              try clear c26
              try clear c26b0
              try clear c28
              try clear c35
              try clear c35b0
              try clear c35b1
              try clear c37
              try clear c37b0
              try clear c37b1
              try clear c42
              try clear c42b0
              try clear c42b1
              try clear c44
              try clear c44b0
              try clear c44b1
              try clear c45
              try clear c45b0
              try clear c45b1
              try clear hcz19_0
              try clear hcz19_1
              try clear hcz19_2
              try clear hcz19_3
              try clear hcz19_4
              try clear hcz31_0
              try clear hcz31_1
              try clear hcz31_2
              try clear hcz31_3
              try clear hcz31_4
              try clear hcz38_0
              try clear hcz38_1
              try clear hcz38_2
              try clear hcz38_3
              try clear hcz38_4
              try clear hcz40_0
              try clear hcz40_1
              try clear hcz40_2
              try clear hcz40_3
              try clear hcz40_4
              try clear hfz19_0
              try clear hfz19_1
              try clear hfz19_2
              try clear hfz19_3
              try clear hfz19_4
              try clear hfz31_0
              try clear hfz31_1
              try clear hfz31_2
              try clear hfz31_3
              try clear hfz31_4
              try clear hfz38_0
              try clear hfz38_1
              try clear hfz38_2
              try clear hfz38_3
              try clear hfz38_4
              try clear hfz40_0
              try clear hfz40_1
              try clear hfz40_2
              try clear hfz40_3
              try clear hfz40_4
              try clear hx183_0
              try clear hx183_1
              try clear hx183_2
              try clear hx184_0
              try clear hx184_1
              try clear hx184_2
              try clear p1
              try clear p18
              try clear p183
              try clear p184
              try clear p2
              try clear p6
              try clear q1
              try clear q18
              try clear q183
              try clear q184
              obtain ⟨kq, x105_42, rfl, HA, HJ42, HO_10, HO_15, BK164, HB⟩ := hcut
              cases kq with
              | zero => exact absurd HA.out (by simp [lw_FeePrices.j3])
              | succ kj42 =>
               have H := HA.out
               clear HA; simp only [lw_FeePrices.j3] at H
               by_cases c48 : x105_42 = true
               ·subst c48
                have H1 : (some false) = some r := by rw [if_pos rfl] at H; exact H
                clear H; have H := H1
                clear H1; obtain rfl := Option.some.inj H
                go_wp2
                repeat (go_quiet (fail); try go_wp2)
                go_ret
                exact ⟨by first | rfl | (simp [errW_none, errW_some] <;> rfl) | (simp [*, errW_none, errW_some] <;> rfl), by repeat (first | (with_reducible first | exact HB.out | apply below_alloc | apply pw_below_drewN | apply below_drew1 | refine below_set ?_ GE164.out) | exact HB.out)⟩
               ·replace c48 := Bool.eq_false_iff.mpr c48
                subst c48
                have H1 : (lw_FeePrices.l1 kj42 t179 x15_29 0) = some r := by rw [if_neg (show ¬ (false = true) by decide)] at H; exact H
                clear H; have H := H1
                clear H1; have H' := Aside0.mk H
                clear H; go_wp2
                repeat (go_quiet (fail); try go_wp2)
                go_loopg [16] kj42 (fun kq v16 w' => ∃ (x16_5 : Int), v16 = .int .i64 x16_5 ∧ Aside0 (lw_FeePrices.l1 kq t179 x15_29 x16_5 = some r) ∧ Aside0 (kq ≤ kj42) ∧ Aside0 (Kd.R k44 44 w' w.heap.size (fun k_ => some k_ ≠ (u15 : Value).ownBlock) v180 t179) ∧ Aside0 (Kd.R k44 44 w' w.heap.size (fun k_ => some k_ ≠ (v180 : Value).ownBlock) u15 x15_29) ∧ Aside0 (w'.heap[gb164]? = some (.cells #[.int .i64 a0_0, .int .i64 a0_1, .int .i64 a0_2, .int .i64 a0_3, .int .i64 a0_4] 23 (0, 0))) ∧ Aside0 (Below w.heap.size w w'))
                case atStart => exact ⟨(0), (by first | rfl | (simp; done) | (simp [*]; done)), H', ⟨Nat.le_refl _⟩, ⟨by (with_reducible repeat (first | apply Kd.R_alloc | apply Kd.R_drewN | apply Kd.R_drew)); exact HO_10.out⟩, ⟨by (with_reducible repeat (first | apply Kd.R_alloc | apply Kd.R_drewN | apply Kd.R_drew)); exact HO_15.out⟩, ⟨by (with_reducible repeat (first | refine blk_drewN ?_ _ | refine blk_drew ?_ | refine blk_alloc ?_ _)); exact BK164.out⟩, ⟨by repeat (first | (with_reducible first | exact HB.out | apply below_alloc | apply pw_below_drewN | apply below_drew1 | refine below_set ?_ GE164.out) | exact HB.out)⟩⟩
                case round =>
                 clear H'; try clear c1
                 try clear p1
                 try clear q1
                 try clear hx1
                 try clear c2
                 try clear p2
                 try clear c3
                 try clear c4
                 try clear c6
                 try clear c6b0
                 try clear c6b1
                 try clear p6
                 try clear c7
                 try clear c10
                 try clear c11
                 try clear p18
                 try clear q18
                 try clear hx18
                 try clear c23
                 try clear c23b0
                 try clear c24
                 try clear c24b0
                 try clear c25
                 try clear c25b0
                 try clear c26
                 try clear c26b0
                 try clear c28
                 try clear c35
                 try clear c35b0
                 try clear c35b1
                 try clear c37
                 try clear c37b0
                 try clear c37b1
                 try clear c42
                 try clear c42b0
                 try clear c42b1
                 try clear c44
                 try clear c44b0
                 try clear c44b1
                 try clear c45
                 try clear c45b0
                 try clear c45b1
                 try clear c48
                 try clear hcz19_0
                 try clear hcz19_1
                 try clear hcz19_2
                 try clear hcz19_3
                 try clear hcz19_4
                 try clear hcz31_0
                 try clear hcz31_1
                 try clear hcz31_2
                 try clear hcz31_3
                 try clear hcz31_4
                 try clear hcz38_0
                 try clear hcz38_1
                 try clear hcz38_2
                 try clear hcz38_3
                 try clear hcz38_4
                 try clear hcz40_0
                 try clear hcz40_1
                 try clear hcz40_2
                 try clear hcz40_3
                 try clear hcz40_4
                 try clear hfz19_0
                 try clear hfz19_1
                 try clear hfz19_2
                 try clear hfz19_3
                 try clear hfz19_4
                 try clear hfz31_0
                 try clear hfz31_1
                 try clear hfz31_2
                 try clear hfz31_3
                 try clear hfz31_4
                 try clear hfz38_0
                 try clear hfz38_1
                 try clear hfz38_2
                 try clear hfz38_3
                 try clear hfz38_4
                 try clear hfz40_0
                 try clear hfz40_1
                 try clear hfz40_2
                 try clear hfz40_3
                 try clear hfz40_4
                 try clear hx183_0
                 try clear hx183_1
                 try clear hx183_2
                 try clear hx184_0
                 try clear hx184_1
                 try clear hx184_2
                 try clear p1
                 try clear p18
                 try clear p183
                 try clear p184
                 try clear p2
                 try clear p6
                 try clear q1
                 try clear q18
                 try clear q183
                 try clear q184
                 obtain ⟨x16_5, rfl, HA, HK5, HO_10, HO_15, BK164, HB⟩ := hrel
                 cases gk with
                 | zero => exact absurd HA.out (by simp [lw_FeePrices.l1])
                 | succ k5 =>
                  have H := HA.out
                  clear HA; simp only [lw_FeePrices.l1] at H
                  by_cases c49 : x16_5 < (x15_29.length : Int)
                  ·rw [if_pos c49] at H
                   have c49b0 : decide (x16_5 < (x15_29.length : Int)) = true := decide_eq_true c49
                   clear c49
                   by_cases c50 : 0 ≤ x16_5
                   ·rw [if_pos c50] at H
                    have c50b0 : decide (0 ≤ x16_5) = true := decide_eq_true c50
                    clear c50
                    by_cases c51 : x16_5 < (t179.length : Int)
                    ·rw [if_pos c51] at H
                     have c51b0 : decide (x16_5 < (t179.length : Int)) = true := decide_eq_true c51
                     clear c51
                     by_cases c52 : (!(((rd_T44 t179 x16_5).f0) == ((rd_T44 x15_29 x16_5).f0)) || (!(((rd_T44 t179 x16_5).f1) == ((rd_T44 x15_29 x16_5).f1)))) = true
                     ·rw [if_pos c52] at H
                      have c52b0 : (!(((rd_T44 t179 x16_5).f0) == ((rd_T44 x15_29 x16_5).f0)) || (!(((rd_T44 t179 x16_5).f1) == ((rd_T44 x15_29 x16_5).f1)))) = true := c52
                      clear c52; obtain rfl := Option.some.inj H
                      obtain ⟨Ao53, co53, eo53⟩ := Kd.R_slice HO_15.out
                      subst eo53
                      obtain ⟨Ao54, co54, eo54⟩ := Kd.R_slice HO_10.out
                      subst eo54
                      have p195 : 0 ≤ (x16_5 : Int) := of_decide_eq_true (by first | (with_reducible assumption) | assumption)
                      have q195 : x16_5 < (t179.length : Int) := of_decide_eq_true (by first | (with_reducible assumption) | assumption)
                      obtain ⟨ad195, e195, hx195_0, hx195_1⟩ := at_T44 (Kd.R_reads' HO_10.out).2.2 x16_5 p195 q195
                      cases e195
                      replace p195 := eq_true p195
                      replace q195 := eq_true q195
                      have p196 : 0 ≤ (x16_5 : Int) := of_decide_eq_true (by first | (with_reducible assumption) | assumption)
                      have q196 : x16_5 < (x15_29.length : Int) := of_decide_eq_true (by first | (with_reducible assumption) | assumption)
                      obtain ⟨ad196, e196, hx196_0, hx196_1⟩ := at_T44 (Kd.R_reads' HO_15.out).2.2 x16_5 p196 q196
                      cases e196
                      replace p196 := eq_true p196
                      replace q196 := eq_true q196
                      go_wp2
                      repeat (go_quiet (fail); try go_wp2)
                      go_ret
                      exact ⟨by first | rfl | (simp [errW_none, errW_some] <;> rfl) | (simp [*, errW_none, errW_some] <;> rfl), by repeat (first | (with_reducible first | exact HB.out | apply below_alloc | apply pw_below_drewN | apply below_drew1 | refine below_set ?_ GE164.out) | exact HB.out)⟩
                     ·rw [if_neg c52] at H
                      have c52b0 : (!(((rd_T44 t179 x16_5).f0) == ((rd_T44 x15_29 x16_5).f0)) || (!(((rd_T44 t179 x16_5).f1) == ((rd_T44 x15_29 x16_5).f1)))) = false := by simpa using c52
                      clear c52; have H' := Aside0.mk H
                      clear H; obtain ⟨Ao55, co55, eo55⟩ := Kd.R_slice HO_15.out
                      subst eo55
                      obtain ⟨Ao56, co56, eo56⟩ := Kd.R_slice HO_10.out
                      subst eo56
                      have p195 : 0 ≤ (x16_5 : Int) := of_decide_eq_true (by first | (with_reducible assumption) | assumption)
                      have q195 : x16_5 < (t179.length : Int) := of_decide_eq_true (by first | (with_reducible assumption) | assumption)
                      obtain ⟨ad195, e195, hx195_0, hx195_1⟩ := at_T44 (Kd.R_reads' HO_10.out).2.2 x16_5 p195 q195
                      cases e195
                      replace p195 := eq_true p195
                      replace q195 := eq_true q195
                      have p196 : 0 ≤ (x16_5 : Int) := of_decide_eq_true (by first | (with_reducible assumption) | assumption)
                      have q196 : x16_5 < (x15_29.length : Int) := of_decide_eq_true (by first | (with_reducible assumption) | assumption)
                      obtain ⟨ad196, e196, hx196_0, hx196_1⟩ := at_T44 (Kd.R_reads' HO_15.out).2.2 x16_5 p196 q196
                      cases e196
                      replace p196 := eq_true p196
                      replace q196 := eq_true q196
                      go_wp2
                      repeat (go_quiet (fail); try go_wp2)
                      go_roundg k5
                      case measure => have := HJ3.out; have := HK2.out; have := HJ29.out; have := HJ42.out; have := HK5.out; omega
                      case rel => exact ⟨(wrap64 (x16_5 + 1)), (by first | rfl | (simp; done) | (simp [*]; done)), H', ⟨by have := HJ3.out; have := HK2.out; have := HJ29.out; have := HJ42.out; have := HK5.out; omega⟩, ⟨by (with_reducible repeat (first | apply Kd.R_alloc | apply Kd.R_drewN | apply Kd.R_drew)); exact HO_10.out⟩, ⟨by (with_reducible repeat (first | apply Kd.R_alloc | apply Kd.R_drewN | apply Kd.R_drew)); exact HO_15.out⟩, ⟨by (with_reducible repeat (first | refine blk_drewN ?_ _ | refine blk_drew ?_ | refine blk_alloc ?_ _)); exact BK164.out⟩, ⟨by repeat (first | (with_reducible first | exact HB.out | apply below_alloc | apply pw_below_drewN | apply below_drew1 | refine below_set ?_ GE164.out) | exact HB.out)⟩⟩
                    ·rw [if_neg c51] at H
                     exact absurd H (by simp)
                   ·rw [if_neg c50] at H
                    exact absurd H (by simp)
                  ·rw [if_neg c49] at H
                   have c49b0 : decide (x16_5 < (x15_29.length : Int)) = false := decide_eq_false c49
                   clear c49
                   replace H := Option.bind_eq_some_iff.mp H
                   obtain ⟨t197, A570, H⟩ := H
                   replace H : (some t197) = some r := H
                   have A57 := Aside0.mk A570
                   clear A570; obtain rfl := Option.some.inj H
                   obtain ⟨Ao58, co58, eo58⟩ := Kd.R_slice HO_15.out
                   subst eo58
                   go_wp2_with (first | (go_at_call 22; (with_reducible refine (lw_known.calls  t197 _ A57.out).mono ?_); rintro e w59 ⟨rfl, hb⟩; have n0_ := Aside0.mk (Kd.R_below (by (with_reducible repeat (first | apply Kd.R_alloc | apply Kd.R_drewN | apply Kd.R_drew)); exact HO_10.out) hb); have n1_ := Aside0.mk (Kd.R_below (by (with_reducible repeat (first | apply Kd.R_alloc | apply Kd.R_drewN | apply Kd.R_drew)); exact HO_15.out) hb); have n2_ := Aside0.mk (blk_below (g := gb164) (o := .cells #[.int .i64 a0_0, .int .i64 a0_1, .int .i64 a0_2, .int .i64 a0_3, .int .i64 a0_4] 23 (0, 0)) (by (with_reducible repeat (first | refine blk_drewN ?_ _ | refine blk_drew ?_ | refine blk_alloc ?_ _)); exact BK164.out) hb); have n3_ := Aside0.mk (below_step (by repeat (first | (with_reducible first | exact HB.out | apply below_alloc | apply pw_below_drewN | apply below_drew1 | refine below_set ?_ GE164.out) | exact HB.out)) hb); clear HO_10; clear HO_15; clear BK164; clear HB; have HO_10 := n0_; have HO_15 := n1_; have BK164 := n2_; have HB := n3_; clear n0_ n1_ n2_ n3_; (try clear hb); (try clear hb2); (try clear hk); (try clear hi)))
                   repeat (go_quiet (first | (go_at_call 22; (with_reducible refine (lw_known.calls  t197 _ A57.out).mono ?_); rintro e w59 ⟨rfl, hb⟩; have n0_ := Aside0.mk (Kd.R_below (by (with_reducible repeat (first | apply Kd.R_alloc | apply Kd.R_drewN | apply Kd.R_drew)); exact HO_10.out) hb); have n1_ := Aside0.mk (Kd.R_below (by (with_reducible repeat (first | apply Kd.R_alloc | apply Kd.R_drewN | apply Kd.R_drew)); exact HO_15.out) hb); have n2_ := Aside0.mk (blk_below (g := gb164) (o := .cells #[.int .i64 a0_0, .int .i64 a0_1, .int .i64 a0_2, .int .i64 a0_3, .int .i64 a0_4] 23 (0, 0)) (by (with_reducible repeat (first | refine blk_drewN ?_ _ | refine blk_drew ?_ | refine blk_alloc ?_ _)); exact BK164.out) hb); have n3_ := Aside0.mk (below_step (by repeat (first | (with_reducible first | exact HB.out | apply below_alloc | apply pw_below_drewN | apply below_drew1 | refine below_set ?_ GE164.out) | exact HB.out)) hb); clear HO_10; clear HO_15; clear BK164; clear HB; have HO_10 := n0_; have HO_15 := n1_; have BK164 := n2_; have HB := n3_; clear n0_ n1_ n2_ n3_; (try clear hb); (try clear hb2); (try clear hk); (try clear hi))); try go_wp2_with (first | (go_at_call 22; (with_reducible refine (lw_known.calls  t197 _ A57.out).mono ?_); rintro e w59 ⟨rfl, hb⟩; have n0_ := Aside0.mk (Kd.R_below (by (with_reducible repeat (first | apply Kd.R_alloc | apply Kd.R_drewN | apply Kd.R_drew)); exact HO_10.out) hb); have n1_ := Aside0.mk (Kd.R_below (by (with_reducible repeat (first | apply Kd.R_alloc | apply Kd.R_drewN | apply Kd.R_drew)); exact HO_15.out) hb); have n2_ := Aside0.mk (blk_below (g := gb164) (o := .cells #[.int .i64 a0_0, .int .i64 a0_1, .int .i64 a0_2, .int .i64 a0_3, .int .i64 a0_4] 23 (0, 0)) (by (with_reducible repeat (first | refine blk_drewN ?_ _ | refine blk_drew ?_ | refine blk_alloc ?_ _)); exact BK164.out) hb); have n3_ := Aside0.mk (below_step (by repeat (first | (with_reducible first | exact HB.out | apply below_alloc | apply pw_below_drewN | apply below_drew1 | refine below_set ?_ GE164.out) | exact HB.out)) hb); clear HO_10; clear HO_15; clear BK164; clear HB; have HO_10 := n0_; have HO_15 := n1_; have BK164 := n2_; have HB := n3_; clear n0_ n1_ n2_ n3_; (try clear hb); (try clear hb2); (try clear hk); (try clear hi))))
                   go_ret
                   exact ⟨by first | rfl | (simp [errW_none, errW_some] <;> rfl) | (simp [*, errW_none, errW_some] <;> rfl), by repeat (first | (with_reducible first | exact HB.out | apply below_alloc | apply pw_below_drewN | apply below_drew1 | refine below_set ?_ GE164.out) | exact HB.out)⟩
            ·rw [if_neg c42] at H
             have c42b0 : (x13_29 == 0) = false := beq_eq_false_iff_ne.mpr c42
             have c42b1 : (x13_29 != 0) = true := bne_iff_ne.mpr c42
             by_cases c60 : t182 = x13_29
             ·rw [if_pos c60] at H
              have c60b0 : (t182 == x13_29) = true := beq_iff_eq.mpr c60
              have c60b1 : (t182 != x13_29) = false := bne_eq_false_iff_eq.mpr c60
              clear c60
              by_cases c61 : t178 = 0
              ·rw [if_pos c61] at H
               have c61b0 : (t178 == 0) = true := beq_iff_eq.mpr c61
               have c61b1 : (t178 != 0) = false := bne_eq_false_iff_eq.mpr c61
               clear c61
               by_cases c62 : (t179.length : Int) = 0
               ·rw [if_pos c62] at H
                have c62b0 : ((t179.length : Int) == 0) = true := beq_iff_eq.mpr c62
                have c62b1 : ((t179.length : Int) != 0) = false := bne_eq_false_iff_eq.mpr c62
                clear c62
                replace H := Option.bind_eq_some_iff.mp H
                obtain ⟨t194, A630, H⟩ := H
                replace H : (some t194) = some r := H
                have A63 := Aside0.mk A630
                clear A630; obtain rfl := Option.some.inj H
                obtain ⟨Ao64, co64, eo64⟩ := Kd.R_slice HO_10.out
                subst eo64
                go_wp2_with (first | (go_at_call 22; (with_reducible refine (lw_known.calls  t194 _ A63.out).mono ?_); rintro e w65 ⟨rfl, hb⟩; have n0_ := Aside0.mk (Kd.R_below (by (with_reducible repeat (first | apply Kd.R_alloc | apply Kd.R_drewN | apply Kd.R_drew)); exact HO_10.out) hb); have n1_ := Aside0.mk (Kd.R_below (by (with_reducible repeat (first | apply Kd.R_alloc | apply Kd.R_drewN | apply Kd.R_drew)); exact HO_15.out) hb); have n2_ := Aside0.mk (blk_below (g := gb164) (o := .cells #[.int .i64 a0_0, .int .i64 a0_1, .int .i64 a0_2, .int .i64 a0_3, .int .i64 a0_4] 23 (0, 0)) (by (with_reducible repeat (first | refine blk_drewN ?_ _ | refine blk_drew ?_ | refine blk_alloc ?_ _)); exact BK164.out) hb); have n3_ := Aside0.mk (below_step (by repeat (first | (with_reducible first | exact HB.out | apply below_alloc | apply pw_below_drewN | apply below_drew1 | refine below_set ?_ GE164.out) | exact HB.out)) hb); clear HO_10; clear HO_15; clear BK164; clear HB; have HO_10 := n0_; have HO_15 := n1_; have BK164 := n2_; have HB := n3_; clear n0_ n1_ n2_ n3_; (try clear hb); (try clear hb2); (try clear hk); (try clear hi)))
                repeat (go_quiet (first | (go_at_call 22; (with_reducible refine (lw_known.calls  t194 _ A63.out).mono ?_); rintro e w65 ⟨rfl, hb⟩; have n0_ := Aside0.mk (Kd.R_below (by (with_reducible repeat (first | apply Kd.R_alloc | apply Kd.R_drewN | apply Kd.R_drew)); exact HO_10.out) hb); have n1_ := Aside0.mk (Kd.R_below (by (with_reducible repeat (first | apply Kd.R_alloc | apply Kd.R_drewN | apply Kd.R_drew)); exact HO_15.out) hb); have n2_ := Aside0.mk (blk_below (g := gb164) (o := .cells #[.int .i64 a0_0, .int .i64 a0_1, .int .i64 a0_2, .int .i64 a0_3, .int .i64 a0_4] 23 (0, 0)) (by (with_reducible repeat (first | refine blk_drewN ?_ _ | refine blk_drew ?_ | refine blk_alloc ?_ _)); exact BK164.out) hb); have n3_ := Aside0.mk (below_step (by repeat (first | (with_reducible first | exact HB.out | apply below_alloc | apply pw_below_drewN | apply below_drew1 | refine below_set ?_ GE164.out) | exact HB.out)) hb); clear HO_10; clear HO_15; clear BK164; clear HB; have HO_10 := n0_; have HO_15 := n1_; have BK164 := n2_; have HB := n3_; clear n0_ n1_ n2_ n3_; (try clear hb); (try clear hb2); (try clear hk); (try clear hi))); try go_wp2_with (first | (go_at_call 22; (with_reducible refine (lw_known.calls  t194 _ A63.out).mono ?_); rintro e w65 ⟨rfl, hb⟩; have n0_ := Aside0.mk (Kd.R_below (by (with_reducible repeat (first | apply Kd.R_alloc | apply Kd.R_drewN | apply Kd.R_drew)); exact HO_10.out) hb); have n1_ := Aside0.mk (Kd.R_below (by (with_reducible repeat (first | apply Kd.R_alloc | apply Kd.R_drewN | apply Kd.R_drew)); exact HO_15.out) hb); have n2_ := Aside0.mk (blk_below (g := gb164) (o := .cells #[.int .i64 a0_0, .int .i64 a0_1, .int .i64 a0_2, .int .i64 a0_3, .int .i64 a0_4] 23 (0, 0)) (by (with_reducible repeat (first | refine blk_drewN ?_ _ | refine blk_drew ?_ | refine blk_alloc ?_ _)); exact BK164.out) hb); have n3_ := Aside0.mk (below_step (by repeat (first | (with_reducible first | exact HB.out | apply below_alloc | apply pw_below_drewN | apply below_drew1 | refine below_set ?_ GE164.out) | exact HB.out)) hb); clear HO_10; clear HO_15; clear BK164; clear HB; have HO_10 := n0_; have HO_15 := n1_; have BK164 := n2_; have HB := n3_; clear n0_ n1_ n2_ n3_; (try clear hb); (try clear hb2); (try clear hk); (try clear hi))))
                go_ret
                exact ⟨by first | rfl | (simp [errW_none, errW_some] <;> rfl) | (simp [*, errW_none, errW_some] <;> rfl), by repeat (first | (with_reducible first | exact HB.out | apply below_alloc | apply pw_below_drewN | apply below_drew1 | refine below_set ?_ GE164.out) | exact HB.out)⟩
               ·rw [if_neg c62] at H
                have c62b0 : ((t179.length : Int) == 0) = false := beq_eq_false_iff_ne.mpr c62
                have c62b1 : ((t179.length : Int) != 0) = true := bne_iff_ne.mpr c62
                have c62b2 : ¬ (t179 = []) := fun h_ => c62 (by rw [h_]; rfl)
                obtain rfl := Option.some.inj H
                obtain ⟨Ao66, co66, eo66⟩ := Kd.R_slice HO_10.out
                subst eo66
                go_wp2
                repeat (go_quiet (fail); try go_wp2)
                go_ret
                exact ⟨by first | rfl | (simp [errW_none, errW_some] <;> rfl) | (simp [*, errW_none, errW_some] <;> rfl), by repeat (first | (with_reducible first | exact HB.out | apply below_alloc | apply pw_below_drewN | apply below_drew1 | refine below_set ?_ GE164.out) | exact HB.out)⟩
              ·rw [if_neg c61] at H
               have c61b0 : (t178 == 0) = false := beq_eq_false_iff_ne.mpr c61
               have c61b1 : (t178 != 0) = true := bne_iff_ne.mpr c61
               obtain rfl := Option.some.inj H
               go_wp2
               repeat (go_quiet (fail); try go_wp2)
               go_ret
               exact ⟨by first | rfl | (simp [errW_none, errW_some] <;> rfl) | (simp [*, errW_none, errW_some] <;> rfl), by repeat (first | (with_reducible first | exact HB.out | apply below_alloc | apply pw_below_drewN | apply below_drew1 | refine below_set ?_ GE164.out) | exact HB.out)⟩
             ·rw [if_neg c60] at H
              have c60b0 : (t182 == x13_29) = false := beq_eq_false_iff_ne.mpr c60
              have c60b1 : (t182 != x13_29) = true := bne_iff_ne.mpr c60
              obtain rfl := Option.some.inj H
              go_wp2
              repeat (go_quiet (fail); try go_wp2)
              go_ret
              exact ⟨by first | rfl | (simp [errW_none, errW_some] <;> rfl) | (simp [*, errW_none, errW_some] <;> rfl), by repeat (first | (with_reducible first | exact HB.out | apply below_alloc | apply pw_below_drewN | apply below_drew1 | refine below_set ?_ GE164.out) | exact HB.out)⟩
         ·replace c28 := Bool.eq_false_iff.mpr c28
          subst c28
          have H1 : (some false) = some r := by rw [if_neg (show ¬ (false = true) by decide)] at H; exact H
          clear H; have H := H1
          clear H1; obtain rfl := Option.some.inj H
          go_wp2_with (first | (go_at_call 25; (with_reducible refine (rf_Ints.calls k2 _ _ y175 _ _ l2 false _ ?side1 ?side2 ?side3 ?side4 A27.out).mono ?_); (case side1 => repeat (first | exact (Kd.R_reads' HO_8.out).2.2 | (with_reducible refine Kd.C_alloc ?_ _) | (with_reducible refine Kd.C_drewN ?_ _) | (with_reducible refine Kd.C_drew ?_))); (case side2 => exact (Kd.R_reads' HO_8.out).2.1); (case side3 => repeat (first | exact (Kd.C_below HR2.out HB.out) | (with_reducible refine Kd.C_alloc ?_ _) | (with_reducible refine Kd.C_drewN ?_ _) | (with_reducible refine Kd.C_drew ?_))); (case side4 => exact HC2.out); rintro e w' ⟨rfl, ⟨nd, rfl⟩⟩; (try first | exact ⟨rfl, _, World.drewN_drewN _ _ _⟩ | exact ⟨rfl, _, Eq.trans (World.drewN_drewN _ _ _) (congrArg (World.drewN _) (Nat.add_assoc _ _ _))⟩)))
          repeat (go_quiet (first | (go_at_call 25; (with_reducible refine (rf_Ints.calls k2 _ _ y175 _ _ l2 false _ ?side1 ?side2 ?side3 ?side4 A27.out).mono ?_); (case side1 => repeat (first | exact (Kd.R_reads' HO_8.out).2.2 | (with_reducible refine Kd.C_alloc ?_ _) | (with_reducible refine Kd.C_drewN ?_ _) | (with_reducible refine Kd.C_drew ?_))); (case side2 => exact (Kd.R_reads' HO_8.out).2.1); (case side3 => repeat (first | exact (Kd.C_below HR2.out HB.out) | (with_reducible refine Kd.C_alloc ?_ _) | (with_reducible refine Kd.C_drewN ?_ _) | (with_reducible refine Kd.C_drew ?_))); (case side4 => exact HC2.out); rintro e w' ⟨rfl, ⟨nd, rfl⟩⟩; (try first | exact ⟨rfl, _, World.drewN_drewN _ _ _⟩ | exact ⟨rfl, _, Eq.trans (World.drewN_drewN _ _ _) (congrArg (World.drewN _) (Nat.add_assoc _ _ _))⟩))); try go_wp2_with (first | (go_at_call 25; (with_reducible refine (rf_Ints.calls k2 _ _ y175 _ _ l2 false _ ?side1 ?side2 ?side3 ?side4 A27.out).mono ?_); (case side1 => repeat (first | exact (Kd.R_reads' HO_8.out).2.2 | (with_reducible refine Kd.C_alloc ?_ _) | (with_reducible refine Kd.C_drewN ?_ _) | (with_reducible refine Kd.C_drew ?_))); (case side2 => exact (Kd.R_reads' HO_8.out).2.1); (case side3 => repeat (first | exact (Kd.C_below HR2.out HB.out) | (with_reducible refine Kd.C_alloc ?_ _) | (with_reducible refine Kd.C_drewN ?_ _) | (with_reducible refine Kd.C_drew ?_))); (case side4 => exact HC2.out); rintro e w' ⟨rfl, ⟨nd, rfl⟩⟩; (try first | exact ⟨rfl, _, World.drewN_drewN _ _ _⟩ | exact ⟨rfl, _, Eq.trans (World.drewN_drewN _ _ _) (congrArg (World.drewN _) (Nat.add_assoc _ _ _))⟩))))
          go_ret
          exact ⟨by first | rfl | (simp [errW_none, errW_some] <;> rfl) | (simp [*, errW_none, errW_some] <;> rfl), by repeat (first | (with_reducible first | exact HB.out | apply below_alloc | apply pw_below_drewN | apply below_drew1 | refine below_set ?_ GE164.out) | exact HB.out)⟩
     ·rw [if_neg c11] at H
      exact absurd H (by simp)
    ·rw [if_neg c10] at H
     exact absurd H (by simp)
end Go.Proofs.Ytdlekcdedahbhaa.Q
namespace Go.Proofs.Ytdlekcdedahbhaa.Rw
open Go.RowKit Go.Proofs.YtdlekcdedahbhaaW.PrintWords
set_option linter.unusedVariables false
set_option linter.unusedSimpArgs false
theorem add_two (a : Addr) (x y : Nat) : (a.add x).add y = a.add (x + y) := by
 unfold Addr.add
 by_cases h1 : x = 0
 ·subst h1; simp
 ·by_cases h2 : y = 0
  ·subst h2; simp
  ·have h3 : ¬ x + y = 0 := by omega
   simp [h1, h2, Nat.add_assoc]
structure Opens {α : Type} (P : Program) (t : TypeId) (d : Kd α) (good : α → Prop) : Prop where
 size : d.sz = P.cellsOf t
 read : ∀ {H : Type} {enc : TypeId × Value → H} {w : World} {base : Nat} {sp : Nat → Bool} {held : Bool} {fuel : Nat} {cs : List Value} {x : DataW H × List MemPlace}, DataW.trod enc P w base sp held fuel t cs = some x → ∃ y : α, d.K w y cs ∧ good y
theorem Opens.int {P : Program} {t : TypeId} {k : IntKind} (ht : P.underlying t = some (.int k)) (hc : 1 = P.cellsOf t) : Opens P t (Kd.int k) (fun n => (Lit.int k n).wf = true) := ⟨hc, fun h => by
 obtain ⟨n, rfl, rfl, hw⟩ := DataW.trod_int ht h
 exact ⟨n, rfl, hw⟩⟩
theorem Opens.slice {α : Type} {P : Program} {t e : TypeId} {d : Kd α} {good : α → Prop} (ht : P.underlying t = some (.slice e)) (hc : 1 = P.cellsOf t) (h : Opens P e d good) : Opens P t (Kd.slice e d) (fun l => ∀ x ∈ l, good x) := ⟨hc, fun {H enc w base sp held fuel cs x} hx => by
 rcases DataW.trod_slice ht hx with ⟨rfl, _⟩ | ⟨a, len, cap, elems, rest, n, _, rfl, _, hb, hl, hm, hlen, hel, _, _⟩
 ·exact ⟨[], ⟨none, 0, rfl, Nat.le_refl _, Kd.C_nil _ _⟩, fun x hx => by cases hx⟩
 ·have key : ∀ m, m ≤ len → ∃ l : List α, l.length = m ∧ ∀ i z, l[i]? = some z → good z ∧ ∃ c, c.length = d.sz ∧ d.K w z c ∧ ∀ j u, c[j]? = some u → w.cell? (a.add (i * d.sz + j)) = some u := by
   intro m
   induction m with
   | zero => intro _; exact ⟨[], rfl, fun i z hz => by simp at hz⟩
   | succ m ih =>
    intro hle
    obtain ⟨l, hll, hl2⟩ := ih (by omega)
    have h1 := hel m (by omega)
    rw [List.getElem?_eq_getElem (by omega), Option.bind_eq_some_iff] at h1
    obtain ⟨c, hc1, hc2⟩ := h1
    obtain ⟨z, hz, hg⟩ := h.read hc2
    obtain ⟨_, hcl, hcc⟩ := World.cells?_some hc1
    refine ⟨l ++ [z], by simp [hll], fun i z' hz' => ?_⟩
    rcases Nat.lt_or_ge i l.length with hlt | hge
    ·rw [List.getElem?_append_left hlt] at hz'
     exact hl2 i z' hz'
    ·rw [List.getElem?_append_right hge] at hz'
     have e : i = m := by
      rcases Nat.eq_zero_or_pos (i - l.length) with e | e
      ·omega
      ·rw [List.getElem?_eq_none (by simp; omega)] at hz'; cases hz'
     subst e
     rw [show i - l.length = 0 by omega] at hz'
     simp only [List.getElem?_cons_zero, Option.some.injEq] at hz'
     subst hz'
     refine ⟨hg, c, by rw [hcl, h.size], hz, fun j u hu => ?_⟩
     have hj : j < P.cellsOf e := by rw [← hcl]; exact (List.getElem?_eq_some_iff.1 hu).1
     have := hcc j hj
     rw [hu] at this
     rw [h.size, ← this, add_two]
  obtain ⟨l, hll, hl2⟩ := key len (Nat.le_refl _)
  refine ⟨l, ⟨some a, cap, by rw [hll], by omega, rfl, by unfold maxLen at hm; omega, fun _ => ⟨a, rfl, fun j p hj => ?_⟩⟩, fun x hx => ?_⟩
  ·obtain ⟨_, c, h1, h2, h3⟩ := hl2 j p hj
   exact ⟨c, h1, h2, h3⟩
  ·obtain ⟨i, hi⟩ := List.getElem?_of_mem hx
   exact (hl2 i x hi).1⟩
structure FOpens {α : Type} (P : Program) (fs : List Field) (off : Nat) (d : Kd α) (good : α → Prop) : Prop where
 read : ∀ {H : Type} {enc : TypeId × Value → H} {w : World} {base : Nat} {sp : Nat → Bool} {held : Bool} {fuel : Nat} {cs : List Value},
 (∀ (i : Nat) (f : Field), fs[i]? = some f → ∃ y, DataW.trod enc P w base sp held fuel f.type ((cs.drop f.offset).take (P.cellsOf f.type)) = some y) → cs.length = off + d.sz → ∃ y : α, d.K w y (cs.drop off) ∧ good y
theorem FOpens.one {α : Type} {P : Program} {f : Field} {off : Nat} {d : Kd α} {good : α → Prop} (h : Opens P f.type d good) (ho : f.offset = off) : FOpens P [f] off d good := ⟨fun {H enc w base sp held fuel cs} hf hl => by
 obtain ⟨y, hy⟩ := hf 0 f rfl
 rw [ho, ← h.size, List.take_of_length_le (by rw [List.length_drop]; omega)] at hy
 exact h.read hy⟩
theorem FOpens.cons {α β : Type} {P : Program} {f : Field} {fs : List Field} {off : Nat} {d1 : Kd α} {d2 : Kd β} {g1 : α → Prop} {g2 : β → Prop} (h1 : Opens P f.type d1 g1) (ho : f.offset = off) (h2 : FOpens P fs (off + d1.sz) d2 g2) : FOpens P (f :: fs) off (Kd.pair d1 d2) (fun x => g1 x.1 ∧ g2 x.2) := ⟨fun {H enc w base sp held fuel cs} hf hl => by
 have hsz : (Kd.pair d1 d2).sz = d1.sz + d2.sz := rfl
 obtain ⟨y1, hy1⟩ := hf 0 f rfl
 rw [ho, ← h1.size] at hy1
 obtain ⟨x1, hk1, hg1⟩ := h1.read hy1
 obtain ⟨x2, hk2, hg2⟩ := h2.read (cs := cs) (fun i g hg => hf (i + 1) g (by simpa using hg)) (by omega)
 refine ⟨(x1, x2), ⟨_, _, ?_, hk1, hk2⟩, hg1, hg2⟩
 rw [← List.drop_drop, List.take_append_drop]⟩
theorem Opens.struct {α : Type} {P : Program} {t : TypeId} {fs : Array Field} {d : Kd α} {good : α → Prop} (ht : P.underlying t = some (.struct fs)) (hs : d.sz = P.cellsOf t) (h : FOpens P fs.toList 0 d good) : Opens P t d good := ⟨hs, fun {H enc w base sp held fuel cs x} hx => by
 obtain ⟨xs, n, _, _, hcl, hxl, hf⟩ := DataW.trod_struct ht hx
 have := h.read (enc := enc) (w := w) (base := base) (sp := sp) (held := held) (fuel := n) (cs := cs) (fun i f hi => by
  rw [Array.getElem?_toList] at hi
  have hlt := (Array.getElem?_eq_some_iff.1 hi).1
  exact ⟨xs[i]'(by omega), by rw [hf i f hi, List.getElem?_eq_getElem]⟩) (by omega)
 simpa using this⟩
theorem Opens.iso {α β : Type} {P : Program} {t : TypeId} {d : Kd α} {good : α → Prop} (f : β → α) (g : α → β) (hfg : ∀ x, f (g x) = x) (h : Opens P t d good) : Opens P t (Kd.iso d f) (fun y => good (f y)) := ⟨h.size, fun hx => by
 obtain ⟨y, hk, hg⟩ := h.read hx
 exact ⟨g y, by show d.K _ (f (g y)) _; rw [hfg]; exact hk, by rw [hfg]; exact hg⟩⟩
end Go.Proofs.Ytdlekcdedahbhaa.Rw
namespace Go.Proofs.Ytdlekcdedahbhaa.Q
open Go.RowKit Go.Proofs.YtdlekcdedahbhaaW.PrintWords Go.Proofs.YtdlekcdedahbhaaW.PrintLast Go.Proofs.YtdlekcdedahbhaaW.PrintMore
attribute [local go_sem] max2_int min2_int max_two min_two max_three min_three max_four min_four   -- for this text's walks alone
set_option linter.unusedVariables false
set_option linter.unusedSimpArgs false
theorem eqA101 (d : Nat) (w : World) (x0 y0 : Int) (x1 y1 : Int) (x2 y2 : Int) :
  (Op.equalIn (d + 2) 101 (.agg #[.int .i64 x0, .int .i64 x1, .int .i64 x2]) (.agg #[.int .i64 y0, .int .i64 y1, .int .i64 y2])).run Try.prog w = .ok (x0 == y0 && (x1 == y1 && (x2 == y2))) w := by
 refine eqA_of Try.underlying101 (by kernel_rfl) ?_
 refine eqf_cons (by rfl) (by go_simp; rfl) (by go_simp; rfl) (by go_simp) ?_
 refine eqf_cons (by rfl) (by go_simp; rfl) (by go_simp; rfl) (by go_simp) ?_
 exact eqf_last (by rfl) (by go_simp; rfl) (by go_simp; rfl) (by go_simp)
end Go.Proofs.Ytdlekcdedahbhaa.Q
namespace Go.Proofs.Ytdlekcdedahbhaa.Q
open Go.RowKit Go.Proofs.YtdlekcdedahbhaaW.PrintWords Go.Proofs.YtdlekcdedahbhaaW.PrintLast Go.Proofs.YtdlekcdedahbhaaW.PrintMore
attribute [local go_sem] max2_int min2_int max_two min_two max_three min_three max_four min_four   -- for this text's walks alone
set_option linter.unusedVariables false
set_option linter.unusedSimpArgs false
attribute [local go_sem high] eqA101
end Go.Proofs.Ytdlekcdedahbhaa.Q
namespace Go.Proofs.Ytdlekcdedahbhaa.Q
open Go.RowKit Go.Proofs.YtdlekcdedahbhaaW.PrintWords Go.Proofs.YtdlekcdedahbhaaW.PrintLast Go.Proofs.YtdlekcdedahbhaaW.PrintMore
attribute [local go_sem] max2_int min2_int max_two min_two max_three min_three max_four min_four   -- for this text's walks alone
set_option linter.unusedVariables false
set_option linter.unusedSimpArgs false
end Go.Proofs.Ytdlekcdedahbhaa.Q
namespace Go.Proofs.Ytdlekcdedahbhaa.Q
open Go.RowKit Go.Proofs.YtdlekcdedahbhaaW.PrintWords Go.Proofs.YtdlekcdedahbhaaW.PrintLast Go.Proofs.YtdlekcdedahbhaaW.PrintMore
attribute [local go_sem] max2_int min2_int max_two min_two max_three min_three max_four min_four   -- for this text's walks alone
set_option linter.unusedVariables false
set_option linter.unusedSimpArgs false
end Go.Proofs.Ytdlekcdedahbhaa.Q
namespace Go.Proofs.Ytdlekcdedahbhaa.Q
open Go.RowKit Go.Proofs.YtdlekcdedahbhaaW.PrintWords Go.Proofs.YtdlekcdedahbhaaW.PrintLast Go.Proofs.YtdlekcdedahbhaaW.PrintMore
attribute [local go_sem] max2_int min2_int max_two min_two max_three min_three max_four min_four   -- for this text's walks alone
set_option linter.unusedVariables false
set_option linter.unusedSimpArgs false
end Go.Proofs.Ytdlekcdedahbhaa.Q
namespace Go.Proofs.Ytdlekcdedahbhaa.Q
open Go.RowKit Go.Proofs.YtdlekcdedahbhaaW.PrintWords
set_option linter.unusedVariables false
set_option linter.unusedSimpArgs false
theorem Ev.up {α : Type} {g : Nat → Option α} {r : α} (h : Ev (fun k => g (k + 1)) r) : Ev g r := by
 obtain ⟨K, hK⟩ := h
 refine ⟨K + 1, fun k hk => ?_⟩
 obtain ⟨m, rfl⟩ : ∃ m, k = m + 1 := ⟨k - 1, by omega⟩
 exact hK m (by omega)
theorem wr {x : Int} (h : -9223372036854775808 ≤ x ∧ x ≤ 9223372036854775807) : wrap64 x = x := by unfold wrap64; omega
theorem wi (i : Nat) (h : i ≤ 100000) : wrap64 ((i : Int) + 1) = ((i + 1 : Nat) : Int) := by rw [wr (by omega)]; omega
theorem rdI (l : List Int) (i : Nat) (h : i < l.length) : rd l (i : Int) = l[i] := by simp [rd, h]
theorem drop_dec {α : Type} [DecidableEq α] (a b : List α) (i : Nat) (ha : i < a.length) (hb : i < b.length) : decide (a.drop i = b.drop i) = (decide (a[i] = b[i]) && decide (a.drop (i + 1) = b.drop (i + 1))) := by
 rw [List.drop_eq_getElem_cons ha, List.drop_eq_getElem_cons hb, Bool.eq_iff_iff]
 simp only [decide_eq_true_eq, Bool.and_eq_true, List.cons.injEq]
theorem In_f (a b c : Int) : rf_In.f a b c = some (inB b c [a]) := by
 have e : inB b c [a] = (decide (b ≤ a) && decide (a ≤ c)) := by
  rw [Bool.eq_iff_iff, inB_iff]
  simp
 rw [e]
 unfold rf_In.f
 split <;> simp_all <;> omega
theorem known_f : lw_known.f = some true := rfl
theorem inB_or (b c : Int) (l : List Int) : inB b c l = l.all (fun a => inB b c [a]) := by
 rw [Bool.eq_iff_iff, inB_iff, List.all_eq_true]
 constructor
 ·intro h x hx
  rw [inB_iff]
  intro n hn
  simp only [List.mem_singleton] at hn
  subst hn
  exact h n hx
 ·intro h n hn
  have := h n hn
  rw [inB_iff] at this
  exact this n (by simp)
theorem Check_f (a0 a1 a2 a3 a4 : Int) : rf_Check.f a0 a1 a2 a3 a4 = some (tarE ⟨a0, a1, a2, a3, a4⟩) := by
 unfold rf_Check.f tarE tarB
 rw [inB_or 0 60 [_, _, _, _]]
 simp only [In_f, Option.bind_some, List.all_cons, List.all_nil, Bool.and_true]
 cases inB 0 60 [a0] <;> cases inB 0 60 [a1] <;> cases inB 0 60 [a2] <;> cases inB 0 500 [a3] <;> cases inB 0 60 [a4] <;> rfl
theorem Work_f (a0 a1 a2 : Int) : rf_Work.f a0 a1 a2 = some (wkB ⟨a0, a1, a2⟩) := by
 unfold rf_Work.f wkB
 simp only [In_f, Option.bind_some]
 cases inB 0 200 [a0] <;> cases inB 0 2000 [a1] <;> cases inB 0 60 [a2] <;> rfl
theorem Parts_l0 (s : Int) (hs : 1 ≤ s ∧ s ≤ 100) (d : Nat) : ∀ (n o : Int), n ≤ d → n ≤ 100000 → 0 ≤ o → o + d ≤ 200000 → -1000 ≤ n → Ev (fun k => rf_Parts.l0 k n s o) (o + if n > 0 then (n + s - 1) / s else 0) := by
 induction d with
 | zero =>
  intro n o h0 h1 h2 h3 h4
  refine Ev.up ?_
  simp only [rf_Parts.l0, if_neg (show ¬ n > 0 by omega)]
  rw [Int.add_zero]
  exact Ev.now o
 | succ d ih =>
  intro n o h0 h1 h2 h3 h4
  refine Ev.up ?_
  by_cases hn : n > 0
  ·have h5 := ih (n - s) (o + 1) (by omega) (by omega) (by omega) (by omega) (by omega)
   simp only [rf_Parts.l0, if_pos hn]
   rw [wr (by omega), wr (by omega)]
   have e : (o + 1 + if n - s > 0 then (n - s + s - 1) / s else 0) = o + (n + s - 1) / s := by
    by_cases h6 : n - s > 0
    ·rw [if_pos h6]
     have h7 : (n + s - 1) / s = (n - 1) / s + 1 := by
      rw [show n + s - 1 = n - 1 + 1 * s by omega, Int.add_mul_ediv_right _ _ (by omega)]
     rw [h7, show n - s + s - 1 = n - 1 by omega]
     omega
    ·rw [if_neg h6]
     have h7 : (n + s - 1) / s = 1 := by
      rw [show n + s - 1 = n - 1 + 1 * s by omega, Int.add_mul_ediv_right _ _ (by omega), Int.ediv_eq_zero_of_lt (by omega) (by omega)]
      rfl
     rw [h7]
     omega
   rw [← e]
   exact h5
  ·simp only [rf_Parts.l0, if_neg hn]
   rw [Int.add_zero]
   exact Ev.now o
theorem Parts_f (n s : Int) (hn : 0 ≤ n ∧ n ≤ 5000) (hs : 1 ≤ s ∧ s ≤ 100) : Ev (fun k => rf_Parts.f k n s) ((n + s - 1) / s) := by
 have h := Parts_l0 s hs n.toNat n 0 (by omega) (by omega) (by omega) (by omega) (by omega)
 have e : (0 + if n > 0 then (n + s - 1) / s else 0) = (n + s - 1) / s := by
  by_cases h6 : n > 0
  ·rw [if_pos h6]; omega
  ·rw [if_neg h6, show n = 0 by omega, Int.ediv_eq_zero_of_lt (by omega) (by omega)]
   rfl
 rw [e] at h
 exact h
theorem Ints_l0 (a b : List Int) (hl : a.length ≤ 1000) (hab : a.length = b.length) : ∀ (d i : Nat), i + d = a.length → Ev (fun k => rf_Ints.l0 k a b (i : Int)) (decide (a.drop i = b.drop i))
 | 0, i, h => by
  refine Ev.up ?_
  simp only [rf_Ints.l0, if_neg (show ¬ (i : Int) < (a.length : Int) by omega)]
  rw [List.drop_eq_nil_of_le (by omega), List.drop_eq_nil_of_le (by omega)]
  simpa using Ev.now true
 | d + 1, i, h => by
  refine Ev.up ?_
  simp only [rf_Ints.l0, if_pos (show (i : Int) < (a.length : Int) by omega), if_pos (show (0 : Int) ≤ (i : Int) by omega), if_pos (show (i : Int) < (b.length : Int) by omega), wi i (by omega), rdI a i (by omega), rdI b i (by omega)]
  rw [drop_dec a b i (by omega) (by omega)]
  by_cases hq : a[i] = b[i]
  ·rw [decide_eq_true hq, Bool.true_and]
   simp only [if_pos hq]
   exact Ints_l0 a b hl hab d (i + 1) (by omega)
  ·rw [decide_eq_false hq, Bool.false_and]
   simp only [if_neg hq]
   exact Ev.now false
theorem Ints_f (a b : List Int) (hl : a.length ≤ 1000) : Ev (fun k => rf_Ints.f k a b) (decide (a = b)) := by
 unfold rf_Ints.f
 by_cases h : a.length = b.length
 ·simp only [if_pos (show (a.length : Int) = (b.length : Int) by omega)]
  simpa using Ints_l0 a b hl h a.length 0 (by omega)
 ·simp only [if_neg (show ¬ (a.length : Int) = (b.length : Int) by omega)]
  have : ¬ a = b := fun e => h (by rw [e])
  simpa [this] using Ev.now false
end Go.Proofs.Ytdlekcdedahbhaa.Q
namespace Go.Proofs.Ytdlekcdedahbhaa.Q
open Go.RowKit Go.Proofs.YtdlekcdedahbhaaW.PrintWords Go.Proofs.YtdlekcdedahbhaaW.PrintMore
set_option linter.unusedVariables false
set_option linter.unusedSimpArgs false
theorem wrapI (x : Int) : IntKind.i64.wrap x = x ∨ (x < -9223372036854775808 ∧ x ≥ -27670116110564327424 ∧ IntKind.i64.wrap x = x + 18446744073709551616) ∨ x > 9223372036854775807 ∨ x < -27670116110564327424 := by
 have e : IntKind.i64.wrap x = wrap64 x := by simp only [wrap64, IntKind.wrap_i64]
 rw [e]
 unfold wrap64
 omega
def okx (t : Tar) (h p c : Int) (x : Wk) (f : Int) : Bool := max t.l (c + h * hrs x + p * pds x) + t.f * x.l == f
def okL (t : Tar) (h p c : Int) : List Wk → List Int → Bool
 | x :: xs, f :: fs => okx t h p c x f && okL t h p c xs fs
 | _, _ => true
theorem cloth1 (t : Tar) (ht : tarB t = true) (h p c : Int) (hh : 0 ≤ h ∧ h ≤ 60) (hp : 0 ≤ p ∧ p ≤ 60) (hc : 0 ≤ c ∧ c ≤ 60) (x : Wk) (hx : wkB x = true) (f : Int) (hf : -9223372036854775808 ≤ f ∧ f ≤ 9223372036854775807) :
  (dueW t x f < t.l → okx t h p c x f = false) ∧ (¬ dueW t x f < t.l → ((if t.l < dueW t x f then restW t h p x f else 0) ≤ c ∧ c ≤ restW t h p x f ↔ okx t h p c x f = true)) := by
 have h1 := (tarB_iff _).1 ht
 have h2 := (wkB_iff _).1 hx
 have h3 := hrs_bd _ hx
 have h4 := pds_bd _ hx
 have h5 := mul_bd hh h3
 have h6 := mul_bd hp h4
 have h7 := mul_bd h1.2.2.2.1 h2.2.2
 unfold okx restW dueW
 generalize h * hrs x = a at *
 generalize p * pds x = b at *
 generalize t.f * x.l = d at *
 rw [beq_eq_false_iff_ne, beq_iff_eq]
 have w1 := wrapI (f - d)
 generalize IntKind.i64.wrap (f - d) = due at *
 have w2 := wrapI (due - a)
 generalize IntKind.i64.wrap (due - a) = r1 at *
 have w3 := wrapI (r1 - b)
 generalize IntKind.i64.wrap (r1 - b) = r2 at *
 by_cases hq : t.l < due
 ·rw [if_pos hq]
  omega
 ·rw [if_neg hq]
  omega
theorem cloths_iff (t : Tar) (ht : tarB t = true) (h p c : Int) (hh : 0 ≤ h ∧ h ≤ 60) (hp : 0 ≤ p ∧ p ≤ 60) (hc : 0 ≤ c ∧ c ≤ 60) :
  ∀ (xs : List Wk) (fs : List Int) (lo hi : Int), (∀ x ∈ xs, wkB x = true) → (∀ f ∈ fs, -9223372036854775808 ≤ f ∧ f ≤ 9223372036854775807) → 0 ≤ lo → ((clothsL t h p xs fs lo hi).1 ≤ c ∧ c ≤ (clothsL t h p xs fs lo hi).2 ↔ (lo ≤ c ∧ c ≤ hi) ∧ okL t h p c xs fs = true)
 | [], fs, lo, hi, hx, hf, h0 => by simp [clothsL, okL]
 | x :: xs, [], lo, hi, hx, hf, h0 => by simp [clothsL, okL]
 | x :: xs, f :: fs, lo, hi, hx, hf, h0 => by
  obtain ⟨k1, k2⟩ := cloth1 t ht h p c hh hp hc x (hx x (List.mem_cons_self ..)) f (hf f (List.mem_cons_self ..))
  rw [clothsL, okL, Bool.and_eq_true]
  by_cases hd : dueW t x f < t.l
  ·rw [if_pos hd, k1 hd]
   simp only [Bool.false_eq_true, false_and, and_false, iff_false]
   omega
  ·rw [if_neg hd, ← k2 hd]
   have ih := fun lo hi h0 => cloths_iff t ht h p c hh hp hc xs fs lo hi (fun y hy => hx y (List.mem_cons_of_mem _ hy)) (fun y hy => hf y (List.mem_cons_of_mem _ hy)) h0
   by_cases hq : t.l < dueW t x f
   ·simp only [if_pos hq]
    rw [ih _ _ (by omega)]
    constructor
    ·rintro ⟨h1, h2⟩; exact ⟨by omega, by omega, h2⟩
    ·rintro ⟨h1, h2, h3⟩; exact ⟨by omega, h3⟩
   ·simp only [if_neg hq]
    rw [ih _ _ h0]
    constructor
    ·rintro ⟨h1, h2⟩; exact ⟨by omega, by omega, h2⟩
    ·rintro ⟨h1, h2, h3⟩; exact ⟨by omega, h3⟩
theorem cloths_bd (t : Tar) (h p : Int) : ∀ (xs : List Wk) (fs : List Int) (lo hi : Int), 0 ≤ lo → hi ≤ 60 → 0 ≤ (clothsL t h p xs fs lo hi).1 ∧ (clothsL t h p xs fs lo hi).2 ≤ 60
 | [], fs, lo, hi, h0, h1 => by simp [clothsL]; omega
 | x :: xs, [], lo, hi, h0, h1 => by simp [clothsL]; omega
 | x :: xs, f :: fs, lo, hi, h0, h1 => by
  rw [clothsL]
  split
  ·simp
  ·exact cloths_bd t h p xs fs _ _ (by split <;> omega) (by omega)
def S : Nat → (Nat → Int) → Int
 | 0, _ => 0
 | n + 1, f => S n f + f n
theorem S0 (f : Nat → Int) : S 0 f = 0 := rfl
theorem S1 (n : Nat) (f : Nat → Int) : S (n + 1) f = S n f + f n := rfl
theorem S_congr (f g : Nat → Int) : ∀ n, (∀ i, i < n → f i = g i) → S n f = S n g
 | 0, _ => rfl
 | n + 1, h => by rw [S, S, S_congr f g n (fun i hi => h i (by omega)), h n (by omega)]
theorem S_add (f g : Nat → Int) : ∀ n, S n (fun i => f i + g i) = S n f + S n g
 | 0 => rfl
 | n + 1 => by rw [S, S, S, S_add f g n]; omega
theorem S_zero : ∀ n, S n (fun _ => 0) = 0
 | 0 => rfl
 | n + 1 => by rw [S, S_zero n]; rfl
theorem S_swap (f : Nat → Nat → Int) (m : Nat) : ∀ n, S n (fun i => S m (fun j => f i j)) = S m (fun j => S n (fun i => f i j))
 | 0 => by simp only [S]; rw [S_zero]
 | n + 1 => by simp only [S]; rw [S_swap f m n, S_add]
theorem S_ivl (lo hi : Int) (h0 : 0 ≤ lo) : ∀ n : Nat, S n (fun c => if lo ≤ (c : Int) ∧ (c : Int) ≤ hi then 1 else 0) = max 0 (min hi ((n : Int) - 1) - lo + 1)
 | 0 => by simp only [S]; omega
 | n + 1 => by
  rw [S, S_ivl lo hi h0 n]
  split <;> omega
def Ext (V : Int → Prop) (x : Sp) : Prop := (V x.lo ∧ V x.hi) ∧ ∀ v, V v → x.lo ≤ v ∧ v ≤ x.hi
theorem Ext.uniq {V : Int → Prop} {x y : Sp} (h : Ext V x) (k : Ext V y) : x = y := by
 have a := h.2 _ k.1.1
 have b := h.2 _ k.1.2
 have c := k.2 _ h.1.1
 have d := k.2 _ h.1.2
 obtain ⟨x1, x2⟩ := x
 obtain ⟨y1, y2⟩ := y
 simp only at a b c d
 rw [show x1 = y1 by omega, show x2 = y2 by omega]
theorem Ext.congr {V W : Int → Prop} {x : Sp} (h : Ext V x) (e : ∀ v, W v ↔ V v) : Ext W x := ⟨⟨(e _).2 h.1.1, (e _).2 h.1.2⟩, fun v hv => h.2 v ((e v).1 hv)⟩
theorem Ext.join {V W U : Int → Prop} {x y : Sp} (h : Ext V x) (k : Ext W y) (e : ∀ v, U v ↔ V v ∨ W v) : Ext U ⟨min x.lo y.lo, max x.hi y.hi⟩ := by
 refine ⟨⟨(e _).2 ?_, (e _).2 ?_⟩, fun v hv => ?_⟩
 ·rcases Int.le_total x.lo y.lo with q | q
  ·simp only [Int.min_eq_left q]; exact Or.inl h.1.1
  ·simp only [Int.min_eq_right q]; exact Or.inr k.1.1
 ·rcases Int.le_total x.hi y.hi with q | q
  ·simp only [Int.max_eq_right q]; exact Or.inr k.1.2
  ·simp only [Int.max_eq_left q]; exact Or.inl h.1.2
 ·simp only
  rcases (e v).1 hv with q | q
  ·have := h.2 v q; omega
  ·have := k.2 v q; omega
def Ext3 (Q : Nat → Nat → Nat → Prop) (s : List Sp) : Prop := ∃ x y z, s = [x, y, z] ∧ Ext (fun v => ∃ c h p : Nat, Q c h p ∧ v = c) x ∧ Ext (fun v => ∃ c h p : Nat, Q c h p ∧ v = h) y ∧ Ext (fun v => ∃ c h p : Nat, Q c h p ∧ v = p) z
theorem Ext3.uniq {Q s r} (h : Ext3 Q s) (k : Ext3 Q r) : s = r := by
 obtain ⟨x, y, z, rfl, h1, h2, h3⟩ := h
 obtain ⟨x', y', z', rfl, k1, k2, k3⟩ := k
 rw [h1.uniq k1, h2.uniq k2, h3.uniq k3]
theorem Ext3.congr {Q R : Nat → Nat → Nat → Prop} {s} (h : Ext3 Q s) (e : ∀ c h p, R c h p ↔ Q c h p) : Ext3 R s := by
 have : R = Q := by funext c h p; exact propext (e c h p)
 rw [this]
 exact h
def St (nl : List Sp) (Q : Nat → Nat → Nat → Prop) (m : Int) (s : List Sp) : Prop := (m = 0 ∧ s = nl ∧ ∀ c h p, ¬ Q c h p) ∨ (0 < m ∧ Ext3 Q s)
theorem St.congr {nl Q R m s} (h : St nl Q m s) (e : ∀ c h p, R c h p ↔ Q c h p) : St nl R m s := by
 have : R = Q := by funext c h p; exact propext (e c h p)
 rw [this]
 exact h
theorem ext_ivl (lo hi : Nat) (h : lo ≤ hi) (V : Int → Prop) (e : ∀ v, V v ↔ ∃ c : Nat, v = c ∧ lo ≤ c ∧ c ≤ hi) : Ext V ⟨lo, hi⟩ := by
 refine ⟨⟨(e _).2 ⟨lo, rfl, by omega, by omega⟩, (e _).2 ⟨hi, rfl, by omega, by omega⟩⟩, fun v hv => ?_⟩
 obtain ⟨c, rfl, h1, h2⟩ := (e v).1 hv
 simp only
 omega
theorem ext3_new (lo hi h0 p0 : Nat) (hl : lo ≤ hi) (Q : Nat → Nat → Nat → Prop) (e : ∀ c h p, Q c h p ↔ ((lo ≤ c ∧ c ≤ hi) ∧ h = h0 ∧ p = p0)) : Ext3 Q [⟨lo, hi⟩, ⟨h0, h0⟩, ⟨p0, p0⟩] := by
 refine ⟨_, _, _, rfl, ext_ivl lo hi hl _ fun v => ⟨?_, ?_⟩, ext_ivl h0 h0 (by omega) _ fun v => ⟨?_, ?_⟩, ext_ivl p0 p0 (by omega) _ fun v => ⟨?_, ?_⟩⟩
 ·rintro ⟨c, h, p, hq, rfl⟩; have := (e c h p).1 hq; exact ⟨c, rfl, this.1.1, this.1.2⟩
 ·rintro ⟨c, rfl, h1, h2⟩; exact ⟨c, h0, p0, (e _ _ _).2 ⟨⟨h1, h2⟩, rfl, rfl⟩, rfl⟩
 ·rintro ⟨c, h, p, hq, rfl⟩; have := (e c h p).1 hq; exact ⟨h, rfl, by omega, by omega⟩
 ·rintro ⟨c, rfl, h1, h2⟩; exact ⟨lo, h0, p0, (e _ _ _).2 ⟨⟨by omega, hl⟩, rfl, rfl⟩, by omega⟩
 ·rintro ⟨c, h, p, hq, rfl⟩; have := (e c h p).1 hq; exact ⟨p, rfl, by omega, by omega⟩
 ·rintro ⟨c, rfl, h1, h2⟩; exact ⟨lo, h0, p0, (e _ _ _).2 ⟨⟨by omega, hl⟩, rfl, rfl⟩, by omega⟩
theorem ext3_join {Q R U : Nat → Nat → Nat → Prop} {x y z a b c : Sp} (h : Ext3 Q [x, y, z]) (k : Ext3 R [a, b, c]) (e : ∀ c h p, U c h p ↔ Q c h p ∨ R c h p) : Ext3 U (joinS [x, y, z] a b c) := by
 obtain ⟨x', y', z', hs, h1, h2, h3⟩ := h
 obtain ⟨a', b', c', ks, k1, k2, k3⟩ := k
 simp only [List.cons.injEq, and_true] at hs ks
 obtain ⟨rfl, rfl, rfl⟩ := hs
 obtain ⟨rfl, rfl, rfl⟩ := ks
 have key : ∀ g : Nat → Nat → Nat → Int, ∀ v, (∃ c h p : Nat, U c h p ∧ v = g c h p) ↔ (∃ c h p : Nat, Q c h p ∧ v = g c h p) ∨ (∃ c h p : Nat, R c h p ∧ v = g c h p) := fun g v => by
  constructor
  ·rintro ⟨c, h, p, hu, rfl⟩
   rcases (e c h p).1 hu with q | q
   ·exact Or.inl ⟨c, h, p, q, rfl⟩
   ·exact Or.inr ⟨c, h, p, q, rfl⟩
  ·rintro (⟨c, h, p, q, rfl⟩ | ⟨c, h, p, q, rfl⟩)
   ·exact ⟨c, h, p, (e _ _ _).2 (Or.inl q), rfl⟩
   ·exact ⟨c, h, p, (e _ _ _).2 (Or.inr q), rfl⟩
 exact ⟨_, _, _, rfl, h1.join k1 (key fun c h p => c), h2.join k2 (key fun c h p => h), h3.join k3 (key fun c h p => p)⟩
def gd (t : Tar) (xs : List Wk) (fs : List Int) (c h p : Nat) : Bool := okL t h p c xs fs
def g1 (t : Tar) (xs : List Wk) (fs : List Int) (c h p : Nat) : Int := if gd t xs fs c h p = true then 1 else 0
def QL (t : Tar) (xs : List Wk) (fs : List Int) (h0 p0 c h p : Nat) : Prop := gd t xs fs c h p = true ∧ c < 61 ∧ h < 61 ∧ p < 61 ∧ (h < h0 ∨ (h = h0 ∧ p < p0))
def mL (t : Tar) (xs : List Wk) (fs : List Int) (h0 p0 : Nat) : Int := S h0 (fun h => S 61 fun p => S 61 fun c => g1 t xs fs c h p) + S p0 (fun p => S 61 fun c => g1 t xs fs c h0 p)
structure Ok (t : Tar) (xs : List Wk) (fs : List Int) : Prop where
 t : tarB t = true
 x : ∀ x ∈ xs, wkB x = true
 f : ∀ f ∈ fs, -9223372036854775808 ≤ f ∧ f ≤ 9223372036854775807
theorem law_step (t : Tar) (xs : List Wk) (fs : List Int) (ok : Ok t xs fs) (h p : Nat) (hh : h < 61) (hp : p < 61) (q : PS) (hq : q.m = mL t xs fs h p ∧ St [] (QL t xs fs h p) q.m q.s) :
  (psStep t xs fs h p q).m = mL t xs fs h (p + 1) ∧ St [] (QL t xs fs h (p + 1)) (psStep t xs fs h p q).m (psStep t xs fs h p q).s := by
 obtain ⟨hm, hs⟩ := hq
 have hb := cloths_bd t h p xs fs 0 60 (by omega) (by omega)
 have hi : ∀ c : Nat, c < 61 → ((clothsL t h p xs fs 0 60).1 ≤ (c : Int) ∧ (c : Int) ≤ (clothsL t h p xs fs 0 60).2 ↔ gd t xs fs c h p = true) := fun c hc => by
  rw [cloths_iff t ok.t h p c (by omega) (by omega) (by omega) xs fs 0 60 ok.x ok.f (by omega)]
  unfold gd
  constructor
  ·rintro ⟨_, k⟩; exact k
  ·intro k; exact ⟨by omega, k⟩
 have e1 : S 61 (fun c => g1 t xs fs c h p) = max 0 (min (clothsL t h p xs fs 0 60).2 60 - (clothsL t h p xs fs 0 60).1 + 1) := by
  have := S_ivl (clothsL t h p xs fs 0 60).1 (clothsL t h p xs fs 0 60).2 hb.1 61
  rw [show (((61 : Nat) : Int) - 1) = 60 by rfl] at this
  rw [← this]
  refine S_congr _ _ _ fun c hc => ?_
  unfold g1
  by_cases k : gd t xs fs c h p = true
  ·rw [if_pos k, if_pos ((hi c hc).2 k)]
  ·rw [if_neg k, if_neg (fun k2 => k ((hi c hc).1 k2))]
 have e2 : mL t xs fs h (p + 1) = mL t xs fs h p + S 61 (fun c => g1 t xs fs c h p) := by unfold mL; rw [S1 p]; omega
 rw [e2, e1]
 generalize hlo : (clothsL t h p xs fs 0 60).1 = lo at *
 generalize hhi : (clothsL t h p xs fs 0 60).2 = hi2 at *
 unfold psStep
 rw [hlo, hhi]
 by_cases hlt : hi2 < lo
 ·rw [if_pos hlt]
  refine ⟨by omega, hs.congr fun c h' p' => ?_⟩
  unfold QL
  constructor
  ·rintro ⟨k1, k2, k3, k4, k5⟩
   refine ⟨k1, k2, k3, k4, ?_⟩
   rcases k5 with k5 | ⟨rfl, k5⟩
   ·exact Or.inl k5
   ·by_cases e : p' = p
    ·subst e
     have := (hi c k2).2 k1
     omega
    ·exact Or.inr ⟨rfl, by omega⟩
  ·rintro ⟨k1, k2, k3, k4, k5⟩
   exact ⟨k1, k2, k3, k4, by omega⟩
 ·rw [if_neg hlt]
  obtain ⟨lo', rfl⟩ : ∃ n : Nat, lo = (n : Int) := ⟨lo.toNat, by omega⟩
  obtain ⟨hi', rfl⟩ : ∃ n : Nat, hi2 = (n : Int) := ⟨hi2.toNat, by omega⟩
  have hnew := ext3_new lo' hi' h p (by omega) (fun c h' p' => (lo' ≤ c ∧ c ≤ hi') ∧ h' = h ∧ p' = p) (fun c h' p' => Iff.rfl)
  have hU : ∀ c h' p', QL t xs fs h (p + 1) c h' p' ↔ QL t xs fs h p c h' p' ∨ ((lo' ≤ c ∧ c ≤ hi') ∧ h' = h ∧ p' = p) := fun c h' p' => by
   unfold QL
   constructor
   ·rintro ⟨k1, k2, k3, k4, k5⟩
    by_cases e : h' = h ∧ p' = p
    ·obtain ⟨rfl, rfl⟩ := e
     have := (hi c k2).2 k1
     exact Or.inr ⟨by omega, rfl, rfl⟩
    ·exact Or.inl ⟨k1, k2, k3, k4, by omega⟩
   ·rintro (⟨k1, k2, k3, k4, k5⟩ | ⟨k1, rfl, rfl⟩)
    ·exact ⟨k1, k2, k3, k4, by omega⟩
    ·exact ⟨(hi c (by omega)).1 (by omega), by omega, hh, hp, Or.inr ⟨rfl, by omega⟩⟩
  simp only
  refine ⟨by omega, Or.inr ?_⟩
  rcases hs with ⟨s1, s2, s3⟩ | ⟨s1, s2⟩
  ·refine ⟨by omega, ?_⟩
   rw [s2]
   exact hnew.congr fun c h' p' => by rw [hU]; exact ⟨fun k => k.resolve_left (s3 _ _ _), Or.inr⟩
  ·refine ⟨by omega, ?_⟩
   obtain ⟨x, y, z, hx, _⟩ := id s2
   rw [hx] at s2 ⊢
   exact ext3_join s2 hnew hU
theorem law_in (t : Tar) (xs : List Wk) (fs : List Int) (ok : Ok t xs fs) (h : Nat) (hh : h < 61) (q : PS) (hq : q.m = mL t xs fs h 0 ∧ St [] (QL t xs fs h 0) q.m q.s) : ∀ n, n ≤ 61 →
  (psIn t xs fs h q n).m = mL t xs fs h n ∧ St [] (QL t xs fs h n) (psIn t xs fs h q n).m (psIn t xs fs h q n).s
 | 0, _ => hq
 | n + 1, hn => by
  rw [psIn_succ]
  exact law_step t xs fs ok h n hh (by omega) _ (law_in t xs fs ok h hh q hq n (by omega))
theorem law_out (t : Tar) (xs : List Wk) (fs : List Int) (ok : Ok t xs fs) : ∀ n, n ≤ 61 →
  (psOut t xs fs n).m = mL t xs fs n 0 ∧ St [] (QL t xs fs n 0) (psOut t xs fs n).m (psOut t xs fs n).s
 | 0, _ => by
  refine ⟨rfl, Or.inl ⟨rfl, rfl, fun c h p => ?_⟩⟩
  unfold QL
  omega
 | n + 1, hn => by
  rw [psOut_succ]
  have k := law_in t xs fs ok n (by omega) _ (law_out t xs fs ok n (by omega)) 61 (by omega)
  have e : mL t xs fs (n + 1) 0 = mL t xs fs n 61 := by unfold mL; rw [S1 n, S0]; omega
  refine ⟨by rw [e]; exact k.1, k.2.congr fun c h p => ?_⟩
  unfold QL
  constructor
  ·rintro ⟨k1, k2, k3, k4, k5⟩; exact ⟨k1, k2, k3, k4, by omega⟩
  ·rintro ⟨k1, k2, k3, k4, k5⟩; exact ⟨k1, k2, k3, k4, by omega⟩
def QR (t : Tar) (xs : List Wk) (fs : List Int) (c0 h0 p0 c h p : Nat) : Prop := gd t xs fs c h p = true ∧ c < 61 ∧ h < 61 ∧ p < 61 ∧ (c < c0 ∨ (c = c0 ∧ (h < h0 ∨ (h = h0 ∧ p < p0))))
def mR (t : Tar) (xs : List Wk) (fs : List Int) (c0 h0 p0 : Nat) : Int := S c0 (fun c => S 61 fun h => S 61 fun p => g1 t xs fs c h p) + S h0 (fun h => S 61 fun p => g1 t xs fs c0 h p) + S p0 (fun p => g1 t xs fs c0 h0 p)
def nl3 : List Sp := [⟨61, -1⟩, ⟨61, -1⟩, ⟨61, -1⟩]
def RI (t : Tar) (xs : List Wk) (fs : List Int) (c h p : Nat) (m : Int) (s : List Sp) : Prop := m = mR t xs fs c h p ∧ St nl3 (QR t xs fs c h p) m s ∧ s.length = 3
theorem S_bd (f : Nat → Int) (B : Int) (hf : ∀ i, 0 ≤ f i ∧ f i ≤ B) : ∀ n : Nat, 0 ≤ S n f ∧ S n f ≤ B * n
 | 0 => by simp [S]
 | n + 1 => by
  have h1 := S_bd f B hf n
  have h2 := hf n
  rw [S, Int.natCast_add, Int.mul_add]
  omega
theorem g1_bd (t xs fs c h p) : 0 ≤ g1 t xs fs c h p ∧ g1 t xs fs c h p ≤ 1 := by unfold g1; split <;> omega
theorem mR_bd (t xs fs) (c h p : Nat) (hc : c ≤ 61) (hh : h ≤ 61) (hp : p ≤ 61) : 0 ≤ mR t xs fs c h p ∧ mR t xs fs c h p ≤ 1000000 := by
 have a := S_bd (fun c => S 61 fun h => S 61 fun p => g1 t xs fs c h p) 3721 (fun c => by
  have := S_bd (fun h => S 61 fun p => g1 t xs fs c h p) 61 (fun h => by
   have := S_bd (fun p => g1 t xs fs c h p) 1 (fun p => g1_bd t xs fs c h p) 61
   omega) 61
  omega) c
 have b := S_bd (fun h => S 61 fun p => g1 t xs fs c h p) 61 (fun h => by
   have := S_bd (fun p => g1 t xs fs c h p) 1 (fun p => g1_bd t xs fs c h p) 61
   omega) h
 have d := S_bd (fun p => g1 t xs fs c h p) 1 (fun p => g1_bd t xs fs c h p) p
 unfold mR
 omega
theorem ref_no (t : Tar) (xs : List Wk) (fs : List Int) (c h p : Nat) (m : Int) (s : List Sp) (hr : RI t xs fs c h p m s) (hg : gd t xs fs c h p = false) : RI t xs fs c h (p + 1) m s := by
 obtain ⟨h1, h2, h3⟩ := hr
 have e : mR t xs fs c h (p + 1) = mR t xs fs c h p := by
  have e2 : g1 t xs fs c h p = 0 := by simp [g1, hg]
  unfold mR
  rw [S1 p, e2]
  omega
 refine ⟨by rw [e]; exact h1, h2.congr fun c' h' p' => ?_, h3⟩
 unfold QR
 constructor
 ·rintro ⟨k1, k2, k3, k4, k5⟩
  refine ⟨k1, k2, k3, k4, ?_⟩
  by_cases e : c' = c ∧ h' = h ∧ p' = p
  ·obtain ⟨rfl, rfl, rfl⟩ := e
   rw [hg] at k1
   cases k1
  ·omega
 ·rintro ⟨k1, k2, k3, k4, k5⟩; exact ⟨k1, k2, k3, k4, by omega⟩
theorem ref_yes (t : Tar) (xs : List Wk) (fs : List Int) (c h p : Nat) (hc : c < 61) (hh : h < 61) (hp : p < 61) (m : Int) (x y z : Sp) (hr : RI t xs fs c h p m [x, y, z]) (hg : gd t xs fs c h p = true) : RI t xs fs c h (p + 1) (m + 1) [⟨min x.lo c, max x.hi c⟩, ⟨min y.lo h, max y.hi h⟩, ⟨min z.lo p, max z.hi p⟩] := by
 obtain ⟨h1, h2, h3⟩ := hr
 have e : mR t xs fs c h (p + 1) = mR t xs fs c h p + 1 := by
  have e2 : g1 t xs fs c h p = 1 := by simp [g1, hg]
  unfold mR
  rw [S1 p, e2]
  omega
 have hb := mR_bd t xs fs c h p (by omega) (by omega) (by omega)
 refine ⟨by rw [e, h1], Or.inr ⟨by omega, ?_⟩, rfl⟩
 have hnew := ext3_new c c h p (by omega) (fun c' h' p' => (c ≤ c' ∧ c' ≤ c) ∧ h' = h ∧ p' = p) (fun c h' p' => Iff.rfl)
 have hU : ∀ c' h' p', QR t xs fs c h (p + 1) c' h' p' ↔ QR t xs fs c h p c' h' p' ∨ ((c ≤ c' ∧ c' ≤ c) ∧ h' = h ∧ p' = p) := fun c' h' p' => by
  unfold QR
  constructor
  ·rintro ⟨k1, k2, k3, k4, k5⟩
   by_cases e : c' = c ∧ h' = h ∧ p' = p
   ·exact Or.inr ⟨by omega, e.2.1, e.2.2⟩
   ·exact Or.inl ⟨k1, k2, k3, k4, by omega⟩
  ·rintro (⟨k1, k2, k3, k4, k5⟩ | ⟨k1, rfl, rfl⟩)
   ·exact ⟨k1, k2, k3, k4, by omega⟩
   ·obtain rfl : c' = c := by omega
    exact ⟨hg, hc, hh, hp, by omega⟩
 rcases h2 with ⟨s1, s2, s3⟩ | ⟨s1, s2⟩
 ·simp only [nl3, List.cons.injEq, and_true] at s2
  obtain ⟨rfl, rfl, rfl⟩ := s2
  have e2 : ([⟨min 61 (c : Int), max (-1) (c : Int)⟩, ⟨min 61 (h : Int), max (-1) (h : Int)⟩, ⟨min 61 (p : Int), max (-1) (p : Int)⟩] : List Sp) = [⟨c, c⟩, ⟨h, h⟩, ⟨p, p⟩] := by
   rw [show min 61 (c : Int) = c by omega, show max (-1) (c : Int) = c by omega, show min 61 (h : Int) = h by omega, show max (-1) (h : Int) = h by omega, show min 61 (p : Int) = p by omega, show max (-1) (p : Int) = p by omega]
  rw [e2]
  exact hnew.congr fun c' h' p' => by rw [hU]; exact ⟨fun k => k.resolve_left (s3 _ _ _), Or.inr⟩
 ·exact ext3_join s2 hnew hU
theorem ref_row (t : Tar) (xs : List Wk) (fs : List Int) (c h : Nat) (m : Int) (s : List Sp) (hr : RI t xs fs c h 61 m s) : RI t xs fs c (h + 1) 0 m s := by
 obtain ⟨h1, h2, h3⟩ := hr
 refine ⟨by rw [h1]; unfold mR; rw [S1 h, S0]; omega, h2.congr fun c' h' p' => ?_, h3⟩
 unfold QR
 constructor
 ·rintro ⟨k1, k2, k3, k4, k5⟩; exact ⟨k1, k2, k3, k4, by omega⟩
 ·rintro ⟨k1, k2, k3, k4, k5⟩; exact ⟨k1, k2, k3, k4, by omega⟩
theorem ref_page (t : Tar) (xs : List Wk) (fs : List Int) (c : Nat) (m : Int) (s : List Sp) (hr : RI t xs fs c 61 0 m s) : RI t xs fs (c + 1) 0 0 m s := by
 obtain ⟨h1, h2, h3⟩ := hr
 refine ⟨by rw [h1]; unfold mR; rw [S1 c]; simp only [S0]; omega, h2.congr fun c' h' p' => ?_, h3⟩
 unfold QR
 constructor
 ·rintro ⟨k1, k2, k3, k4, k5⟩; exact ⟨k1, k2, k3, k4, by omega⟩
 ·rintro ⟨k1, k2, k3, k4, k5⟩; exact ⟨k1, k2, k3, k4, by omega⟩
theorem ref_start (t : Tar) (xs : List Wk) (fs : List Int) : RI t xs fs 0 0 0 0 nl3 := by
 refine ⟨by unfold mR; rw [S0, S0, S0]; rfl, Or.inl ⟨rfl, rfl, fun c h p => ?_⟩, rfl⟩
 unfold QR
 omega
theorem both (t : Tar) (xs : List Wk) (fs : List Int) (ok : Ok t xs fs) (m : Int) (s : List Sp) (hr : RI t xs fs 61 0 0 m s) : m = (psOut t xs fs 61).m ∧ s = if (psOut t xs fs 61).m = 0 then nl3 else (psOut t xs fs 61).s := by
 obtain ⟨l1, l2⟩ := law_out t xs fs ok 61 (by omega)
 obtain ⟨r1, r2, r3⟩ := hr
 have e : mR t xs fs 61 0 0 = mL t xs fs 61 0 := by
  unfold mR mL
  rw [S0, S0, S0, Int.add_zero, Int.add_zero, Int.add_zero]
  have a : S 61 (fun c => S 61 fun h => S 61 fun p => g1 t xs fs c h p) = S 61 (fun h => S 61 fun p => S 61 fun c => g1 t xs fs c h p) := by
   rw [S_swap]
   exact S_congr _ _ _ fun h _ => S_swap _ _ _
  exact a
 have hm : m = (psOut t xs fs 61).m := by rw [r1, l1, e]
 refine ⟨hm, ?_⟩
 rcases l2 with ⟨a1, a2, a3⟩ | ⟨a1, a2⟩
 ·rw [if_pos a1]
  rcases r2 with ⟨b1, b2, b3⟩ | ⟨b1, b2⟩
  ·exact b2
  ·omega
 ·rw [if_neg (by omega)]
  rcases r2 with ⟨b1, b2, b3⟩ | ⟨b1, b2⟩
  ·omega
  ·refine b2.uniq (a2.congr fun c h p => ?_)
   unfold QR QL
   constructor
   ·rintro ⟨k1, k2, k3, k4, k5⟩; exact ⟨k1, k2, k3, k4, by omega⟩
   ·rintro ⟨k1, k2, k3, k4, k5⟩; exact ⟨k1, k2, k3, k4, by omega⟩
theorem mxm (a b : Int) : mx a b = max a b := by unfold mx; split <;> omega
theorem mnm (a b : Int) : mn a b = min a b := by unfold mn; split <;> omega
theorem rdW (l : List S25) (i : Nat) (h : i < l.length) : rdWk (toWk l) i = ⟨(rd_T25 l (i : Int)).f0, (rd_T25 l (i : Int)).f1, (rd_T25 l (i : Int)).f2⟩ := by
 simp [rdWk, toWk, rd_T25, h]
theorem toWk_drop (l : List S25) (i : Nat) (h : i < l.length) : (toWk l).drop i = rdWk (toWk l) i :: (toWk l).drop (i + 1) := by
 rw [List.drop_eq_getElem_cons (by rw [toWk_len]; exact h)]
 simp [rdWk, toWk, h]
theorem rdWk_mem (l : List S25) (i : Nat) (h : i < l.length) : rdWk (toWk l) i ∈ toWk l := by
 have e : rdWk (toWk l) i = (toWk l)[i]'(by rw [toWk_len]; exact h) := by simp [rdWk, toWk_len, h]
 rw [e]
 exact List.getElem_mem _
theorem Known_l0 (l : List S25) (b : List Int) (hl : l.length ≤ 1000) : ∀ (d i : Nat), i + d = l.length → Ev (fun k => rf_Known.l0 k l b (i : Int)) (if ((toWk l).drop i).any (fun x => !wkB x) = true then 3 else if b.length = (toWk l).length then 0 else 4)
 | 0, i, h => by
  refine Ev.up ?_
  simp only [rf_Known.l0, if_neg (show ¬ (i : Int) < (l.length : Int) by omega)]
  rw [List.drop_eq_nil_of_le (by rw [toWk_len]; omega), toWk_len]
  by_cases c : b.length = l.length
  ·simp only [if_pos (show (b.length : Int) = (l.length : Int) by omega), if_pos c]
   simpa using Ev.now (0 : Int)
  ·simp only [if_neg (show ¬ (b.length : Int) = (l.length : Int) by omega), if_neg c]
   simpa using Ev.now (4 : Int)
 | d + 1, i, h => by
  have ih := Known_l0 l b hl d (i + 1) (by omega)
  have e := rdW l i (by omega)
  refine Ev.up ?_
  simp only [rf_Known.l0, if_pos (show (i : Int) < (l.length : Int) by omega), if_pos (show (0 : Int) ≤ (i : Int) by omega), wi i (by omega), Work_f, Option.bind_some]
  rw [toWk_drop l i (by omega), List.any_cons, ← e]
  by_cases c : wkB (rdWk (toWk l) i) = true
  ·simp only [c, if_true, Bool.not_true, Bool.false_or]
   exact ih
  ·have c' : wkB (rdWk (toWk l) i) = false := by simpa using c
   simp only [c', Bool.false_eq_true, if_false, Bool.not_false, Bool.true_or, if_true]
   exact Ev.now (3 : Int)
theorem Known_f (a0 a1 a2 a3 a4 : Int) (l : List S25) (b : List Int) (hl : l.length ≤ 1000) : Ev (fun k => rf_Known.f k a0 a1 a2 a3 a4 l b) (pricesE0 ⟨a0, a1, a2, a3, a4⟩ (toWk l) b) := by
 unfold rf_Known.f pricesE0
 simp only [Check_f, Option.bind_some]
 by_cases c : tarE ⟨a0, a1, a2, a3, a4⟩ = 0
 ·simp only [if_pos c]
  by_cases c2 : l.length > 6
  ·simp only [if_pos (show (l.length : Int) > 6 by omega), if_pos (show (toWk l).length > 6 by rw [toWk_len]; exact c2)]
   exact Ev.now 5
  ·simp only [if_neg (show ¬ (l.length : Int) > 6 by omega), if_neg (show ¬ (toWk l).length > 6 by rw [toWk_len]; exact c2)]
   exact Known_l0 l b hl l.length 0 (by omega)
 ·simp only [if_neg c]
  exact Ev.now _
theorem ofSp_len (s : List Sp) : (ofSp s).length = s.length := by simp [ofSp]
theorem spell (s : List Sp) (h : s.length = 3) : ∃ x y z, s = [x, y, z] := by
 match s, h with
 | [x, y, z], _ => exact ⟨x, y, z, rfl⟩
theorem Prices_l5 (x1 : List S25) (x2 x8 x9 : List Int) (m : Int) (x y z : Sp) (c h p t0 t1 t2 t3 t4 : Int) (hp : 0 ≤ p ∧ p ≤ 60) (R : Int × List S44)
  (hR : Ev (fun k => rf_Prices.l3 k x1 x2 x8 x9 m (ofSp [⟨min x.lo c, max x.hi c⟩, ⟨min y.lo h, max y.hi h⟩, ⟨min z.lo p, max z.hi p⟩]) c h (p + 1) t0 t1 t2 t3 t4) R) :
  Ev (fun k => rf_Prices.l5 k x1 x2 x8 x9 m (ofSp [x, y, z]) c h p 0 t0 t1 t2 t3 t4) R := by
 have e0 : wrap64 1 = 1 := wr (by omega)
 have e1 : wrap64 2 = 2 := wr (by omega)
 have e2 : wrap64 3 = 3 := wr (by omega)
 refine Ev.up ?_
 simp [rf_Prices.l5, ofSp, e0, rd_T44, mxm, mnm]
 refine Ev.up ?_
 simp [rf_Prices.l5, ofSp, e1, rd_T44, mxm, mnm]
 refine Ev.up ?_
 simp [rf_Prices.l5, ofSp, e2, rd_T44, mxm, mnm]
 refine Ev.up ?_
 simp only [rf_Prices.l5, if_neg (show ¬ (3 : Int) < 3 by omega)]
 rw [wr (by omega)]
 simpa [ofSp] using hR
structure Wks (t : Tar) (x1 : List S25) (x2 x8 x9 : List Int) : Prop where
 ok : Ok t (toWk x1) x2
 n : x1.length ≤ 6
 n2 : x2.length = x1.length
 n8 : x8.length = x1.length
 n9 : x9.length = x1.length
 h8 : ∀ i : Nat, i < x1.length → rd x8 (i : Int) = hrs (rdWk (toWk x1) i)
 h9 : ∀ i : Nat, i < x1.length → rd x9 (i : Int) = pds (rdWk (toWk x1) i)
theorem Prices_l4 (t0 t1 t2 t3 t4 : Int) (x1 : List S25) (x2 x8 x9 : List Int) (K : Wks ⟨t0, t1, t2, t3, t4⟩ x1 x2 x8 x9) (m : Int) (s : List S44) (c h p : Int) (hc : 0 ≤ c ∧ c ≤ 60) (hh : 0 ≤ h ∧ h ≤ 60) (hp : 0 ≤ p ∧ p ≤ 60) (R : Int × List S44) :
  ∀ (d i : Nat) (ok : Bool), i + d = x1.length → Ev (fun k => rf_Prices.j5 k x1 x2 x8 x9 m s c h p (ok && okL ⟨t0, t1, t2, t3, t4⟩ h p c ((toWk x1).drop i) (x2.drop i)) t0 t1 t2 t3 t4) R → Ev (fun k => rf_Prices.l4 k x1 x2 x8 x9 m s c h p ok (i : Int) t0 t1 t2 t3 t4) R
 | 0, i, ok, hi, hR => by
  refine Ev.up ?_
  simp only [rf_Prices.l4, if_neg (show ¬ (i : Int) < (x1.length : Int) by omega)]
  rw [List.drop_eq_nil_of_le (by rw [toWk_len]; omega)] at hR
  simpa [okL] using hR
 | d + 1, i, ok, hi, hR => by
  have k1 := K.n; have k2 := K.n2; have k3 := K.n8; have k4 := K.n9
  have e := rdW x1 i (by omega)
  have h1 := (tarB_iff _).1 K.ok.t
  have hx := K.ok.x _ (rdWk_mem x1 i (by omega))
  have h2 := (wkB_iff _).1 hx
  have h3 := hrs_bd _ hx
  have h4 := pds_bd _ hx
  have h5 := mul_bd hh h3
  have h6 := mul_bd hp h4
  have h7 := mul_bd h1.2.2.2.1 h2.2.2
  simp only at h1 h7
  refine Ev.up ?_
  cases ok with
  | false =>
   simp only [rf_Prices.l4, if_pos (show (i : Int) < (x1.length : Int) by omega), Bool.false_eq_true, if_false]
   simpa using hR
  | true =>
   rw [toWk_drop x1 i (by omega), List.drop_eq_getElem_cons (show i < x2.length by omega), okL, Bool.true_and] at hR
   have e2 : (rd_T25 x1 (i : Int)).f2 = (rdWk (toWk x1) i).l := by rw [e]
   simp only [rf_Prices.l4, if_pos (show (i : Int) < (x1.length : Int) by omega), if_true, if_pos (show (0 : Int) ≤ (i : Int) by omega), if_pos (show (i : Int) < (x8.length : Int) by omega), if_pos (show (i : Int) < (x9.length : Int) by omega), if_pos (show (i : Int) < (x2.length : Int) by omega), wi i (by omega), K.h8 i (by omega), K.h9 i (by omega), rdI x2 i (by omega), e2, mxm]
   rw [wr (x := h * _) (by omega), wr (x := p * _) (by omega), wr (x := t4 * _) (by omega), wr (x := c + _) (by omega), wr (x := c + _ + _) (by omega), wr (by omega)]
   exact Prices_l4 t0 t1 t2 t3 t4 x1 x2 x8 x9 K m s c h p hc hh hp R d (i + 1) _ (by omega) hR
theorem Prices_l3 (t0 t1 t2 t3 t4 : Int) (x1 : List S25) (x2 x8 x9 : List Int) (K : Wks ⟨t0, t1, t2, t3, t4⟩ x1 x2 x8 x9) (c h : Nat) (hc : c < 61) (hh : h < 61) (R : Int × List S44)
  (hR : ∀ m s, RI ⟨t0, t1, t2, t3, t4⟩ (toWk x1) x2 c (h + 1) 0 m s → Ev (fun k => rf_Prices.l2 k x1 x2 x8 x9 m (ofSp s) (c : Int) ((h + 1 : Nat) : Int) t0 t1 t2 t3 t4) R) :
  ∀ (d p : Nat) (m : Int) (s : List Sp), p + d = 61 → RI ⟨t0, t1, t2, t3, t4⟩ (toWk x1) x2 c h p m s → Ev (fun k => rf_Prices.l3 k x1 x2 x8 x9 m (ofSp s) (c : Int) (h : Int) (p : Int) t0 t1 t2 t3 t4) R
 | 0, p, m, s, hp, hI => by
  refine Ev.up ?_
  simp only [rf_Prices.l3, if_neg (show ¬ (p : Int) ≤ 60 by omega), wi h (by omega)]
  rw [show p = 61 by omega] at hI
  exact hR m s (ref_row _ _ _ c h m s hI)
 | d + 1, p, m, s, hp, hI => by
  have hb := mR_bd ⟨t0, t1, t2, t3, t4⟩ (toWk x1) x2 c h p (by omega) (by omega) (by omega)
  have hm := hI.1
  refine Ev.up ?_
  simp only [rf_Prices.l3, if_pos (show (p : Int) ≤ 60 by omega)]
  refine Prices_l4 t0 t1 t2 t3 t4 x1 x2 x8 x9 K m (ofSp s) c h p (by omega) (by omega) (by omega) R x1.length 0 true (by omega) ?_
  rw [Bool.true_and, List.drop_zero, List.drop_zero]
  refine Ev.up ?_
  by_cases g : gd ⟨t0, t1, t2, t3, t4⟩ (toWk x1) x2 c h p = true
  ·obtain ⟨x, y, z, rfl⟩ := spell s hI.2.2
   have g' : okL ⟨t0, t1, t2, t3, t4⟩ h p c (toWk x1) x2 = true := g
   simp only [rf_Prices.j5, g', if_true]
   rw [wr (by omega)]
   refine Prices_l5 x1 x2 x8 x9 (m + 1) x y z c h p t0 t1 t2 t3 t4 (by omega) R ?_
   have ih := Prices_l3 t0 t1 t2 t3 t4 x1 x2 x8 x9 K c h hc hh R hR d (p + 1) _ _ (by omega) (ref_yes _ _ _ c h p hc hh (by omega) m x y z hI g)
   rw [show ((p + 1 : Nat) : Int) = (p : Int) + 1 by omega] at ih
   exact ih
  ·have g0 : gd ⟨t0, t1, t2, t3, t4⟩ (toWk x1) x2 c h p = false := by simpa using g
   have g' : okL ⟨t0, t1, t2, t3, t4⟩ h p c (toWk x1) x2 = false := g0
   simp only [rf_Prices.j5, g', Bool.false_eq_true, if_false, wi p (by omega)]
   exact Prices_l3 t0 t1 t2 t3 t4 x1 x2 x8 x9 K c h hc hh R hR d (p + 1) m s (by omega) (ref_no _ _ _ c h p m s hI g0)
theorem Prices_l2 (t0 t1 t2 t3 t4 : Int) (x1 : List S25) (x2 x8 x9 : List Int) (K : Wks ⟨t0, t1, t2, t3, t4⟩ x1 x2 x8 x9) (c : Nat) (hc : c < 61) (R : Int × List S44)
  (hR : ∀ m s, RI ⟨t0, t1, t2, t3, t4⟩ (toWk x1) x2 (c + 1) 0 0 m s → Ev (fun k => rf_Prices.l1 k x1 x2 x8 x9 m (ofSp s) ((c + 1 : Nat) : Int) t0 t1 t2 t3 t4) R) :
  ∀ (d h : Nat) (m : Int) (s : List Sp), h + d = 61 → RI ⟨t0, t1, t2, t3, t4⟩ (toWk x1) x2 c h 0 m s → Ev (fun k => rf_Prices.l2 k x1 x2 x8 x9 m (ofSp s) (c : Int) (h : Int) t0 t1 t2 t3 t4) R
 | 0, h, m, s, hh, hI => by
  refine Ev.up ?_
  simp only [rf_Prices.l2, if_neg (show ¬ (h : Int) ≤ 60 by omega), wi c (by omega)]
  rw [show h = 61 by omega] at hI
  exact hR m s (ref_page _ _ _ c m s hI)
 | d + 1, h, m, s, hh, hI => by
  refine Ev.up ?_
  simp only [rf_Prices.l2, if_pos (show (h : Int) ≤ 60 by omega)]
  exact Prices_l3 t0 t1 t2 t3 t4 x1 x2 x8 x9 K c h hc (by omega) R (fun m s hI => Prices_l2 t0 t1 t2 t3 t4 x1 x2 x8 x9 K c hc R hR d (h + 1) m s (by omega) hI) 61 0 m s (by omega) hI
theorem Prices_l1 (t0 t1 t2 t3 t4 : Int) (x1 : List S25) (x2 x8 x9 : List Int) (K : Wks ⟨t0, t1, t2, t3, t4⟩ x1 x2 x8 x9) (R : Int × List S44)
  (hR : ∀ m s, RI ⟨t0, t1, t2, t3, t4⟩ (toWk x1) x2 61 0 0 m s → R = (m, ofSp s)) :
  ∀ (d c : Nat) (m : Int) (s : List Sp), c + d = 61 → RI ⟨t0, t1, t2, t3, t4⟩ (toWk x1) x2 c 0 0 m s → Ev (fun k => rf_Prices.l1 k x1 x2 x8 x9 m (ofSp s) (c : Int) t0 t1 t2 t3 t4) R
 | 0, c, m, s, hc, hI => by
  refine Ev.up ?_
  simp only [rf_Prices.l1, if_neg (show ¬ (c : Int) ≤ 60 by omega)]
  rw [show c = 61 by omega] at hI
  rw [hR m s hI]
  exact Ev.now _
 | d + 1, c, m, s, hc, hI => by
  refine Ev.up ?_
  simp only [rf_Prices.l1, if_pos (show (c : Int) ≤ 60 by omega)]
  exact Prices_l2 t0 t1 t2 t3 t4 x1 x2 x8 x9 K c (by omega) R (fun m s hI => Prices_l1 t0 t1 t2 t3 t4 x1 x2 x8 x9 K R hR d (c + 1) m s (by omega) hI) 61 0 m s (by omega) hI
def rPrices (t : Tar) (xs : List Wk) (fs : List Int) : Int × List S44 := ((psOut t xs fs 61).m, ofSp (if (psOut t xs fs 61).m = 0 then nl3 else (psOut t xs fs 61).s))
theorem Prices_l0 (t0 t1 t2 t3 t4 : Int) (x1 : List S25) (x2 : List Int) (ok : Ok ⟨t0, t1, t2, t3, t4⟩ (toWk x1) x2) (hn : x1.length ≤ 6) (h2 : x2.length = x1.length) :
  ∀ (d i : Nat) (x8 x9 : List Int), i + d = x1.length → x8 = ((toWk x1).take i).map hrs → x9 = ((toWk x1).take i).map pds → Ev (fun k => rf_Prices.l0 k x1 x2 x8 x9 (i : Int) t0 t1 t2 t3 t4) (rPrices ⟨t0, t1, t2, t3, t4⟩ (toWk x1) x2)
 | 0, i, x8, x9, hi, h8, h9 => by
  have hl := toWk_len x1
  rw [List.take_of_length_le (by omega)] at h8 h9
  have K : Wks ⟨t0, t1, t2, t3, t4⟩ x1 x2 x8 x9 := ⟨ok, hn, h2, by rw [h8, List.length_map, hl], by rw [h9, List.length_map, hl], fun j hj => by
   rw [h8]
   simp [rd, rdWk, hl, hj], fun j hj => by
   rw [h9]
   simp [rd, rdWk, hl, hj]⟩
  refine Ev.up ?_
  simp only [rf_Prices.l0, if_neg (show ¬ (i : Int) < (x1.length : Int) by omega)]
  have h := Prices_l1 t0 t1 t2 t3 t4 x1 x2 x8 x9 K (rPrices ⟨t0, t1, t2, t3, t4⟩ (toWk x1) x2) (fun m s hI => by
   obtain ⟨e1, e2⟩ := both _ _ _ ok m s hI
   unfold rPrices
   rw [← e1, e2, ← e1]) 61 0 0 nl3 (by omega) (ref_start _ _ _)
  exact h
 | d + 1, i, x8, x9, hi, h8, h9 => by
  have hl := toWk_len x1
  have e := rdW x1 i (by omega)
  have hx := ok.x _ (rdWk_mem x1 i (by omega))
  have h3 := (wkB_iff _).1 hx
  have a8 : x8.length ≤ 6 := by rw [h8, List.length_map, List.length_take]; omega
  have a9 : x9.length ≤ 6 := by rw [h9, List.length_map, List.length_take]; omega
  have e0 : (rd_T25 x1 (i : Int)).f0 = (rdWk (toWk x1) i).q := by rw [e]
  have e1 : (rd_T25 x1 (i : Int)).f1 = (rdWk (toWk x1) i).o := by rw [e]
  have ih := Prices_l0 t0 t1 t2 t3 t4 x1 x2 ok hn h2 d (i + 1) (x8 ++ [hrs (rdWk (toWk x1) i)]) (x9 ++ [pds (rdWk (toWk x1) i)]) (by omega) (by
   rw [List.take_succ_eq_append_getElem (show i < (toWk x1).length by omega), List.map_append, h8]
   simp [rdWk, hl, show i < x1.length by omega]) (by
   rw [List.take_succ_eq_append_getElem (show i < (toWk x1).length by omega), List.map_append, h9]
   simp [rdWk, hl, show i < x1.length by omega])
  refine Ev.up ?_
  simp only [rf_Prices.l0, if_pos (show (i : Int) < (x1.length : Int) by omega), if_pos (show (0 : Int) ≤ (i : Int) by omega), wi i (by omega), e0, e1]
  refine Ev.bind (Parts_f _ 4 (by omega) (by omega)) ?_
  simp only [if_pos (show x8.length < 17592186044416 by omega)]
  refine Ev.bind (Parts_f _ 16 (by omega) (by omega)) ?_
  simp only [if_pos (show x9.length < 17592186044416 by omega)]
  exact ih
theorem Prices_f (t0 t1 t2 t3 t4 : Int) (x1 : List S25) (x2 : List Int) (ok : Ok ⟨t0, t1, t2, t3, t4⟩ (toWk x1) x2) (hn : x1.length ≤ 6) (h2 : x2.length = x1.length) : Ev (fun k => rf_Prices.f k t0 t1 t2 t3 t4 x1 x2) (rPrices ⟨t0, t1, t2, t3, t4⟩ (toWk x1) x2) :=
 Prices_l0 t0 t1 t2 t3 t4 x1 x2 ok hn h2 x1.length 0 [] [] (by omega) (by simp) (by simp)
theorem FeePrices_l1 (s : List S44) (hs : s.length ≤ 1000) : ∀ (d i : Nat), i + d = s.length → Ev (fun k => lw_FeePrices.l1 k s s (i : Int)) true
 | 0, i, h => by
  refine Ev.up ?_
  simp only [lw_FeePrices.l1, if_neg (show ¬ (i : Int) < (s.length : Int) by omega), known_f, Option.bind_some]
  exact Ev.now true
 | d + 1, i, h => by
  refine Ev.up ?_
  simp only [lw_FeePrices.l1, if_pos (show (i : Int) < (s.length : Int) by omega), if_pos (show (0 : Int) ≤ (i : Int) by omega), wi i (by omega), beq_self_eq_true, Bool.not_true, Bool.or_self, Bool.false_eq_true, if_false]
  exact FeePrices_l1 s hs d (i + 1) (by omega)
theorem FeePrices_err (e : Int) (he : e ≠ 0) (m : Int) (s : List S44) : Ev (fun k => lw_FeePrices.j2 k 0 [] e e m s) true := by
 refine Ev.up ?_
 simp only [lw_FeePrices.j2, if_neg he, if_true, List.length_nil, known_f, Option.bind_some]
 simpa using Ev.now true
theorem FeePrices_l0 (t0 t1 t2 t3 t4 : Int) (x1 : List S25) (x2 : List Int) (h1 : x1.length ≤ 20) (h2 : x2.length ≤ 20) (hf : ∀ f ∈ x2, -9223372036854775808 ≤ f ∧ f ≤ 9223372036854775807) : ∀ (d i : Nat), i + d = x1.length → Ev (fun k => lw_FeePrices.l0 k x1 x2 x1 x2 (pricesM ⟨t0, t1, t2, t3, t4⟩ (toWk x1) x2) (ofSp (pricesS ⟨t0, t1, t2, t3, t4⟩ (toWk x1) x2)) (pricesE ⟨t0, t1, t2, t3, t4⟩ (toWk x1) x2) (i : Int) t0 t1 t2 t3 t4) true
 | d + 1, i, h => by
  refine Ev.up ?_
  simp only [lw_FeePrices.l0, if_pos (show (i : Int) < (x1.length : Int) by omega), if_pos (show (0 : Int) ≤ (i : Int) by omega), wi i (by omega), beq_self_eq_true, Bool.not_true, Bool.or_self, Bool.false_eq_true, if_false]
  exact FeePrices_l0 t0 t1 t2 t3 t4 x1 x2 h1 h2 hf d (i + 1) (by omega)
 | 0, i, h => by
  refine Ev.up ?_
  simp only [lw_FeePrices.l0, if_neg (show ¬ (i : Int) < (x1.length : Int) by omega)]
  have hI := Ints_f x2 x2 (by omega)
  rw [decide_eq_true rfl] at hI
  refine Ev.bind hI ?_
  simp only [if_true]
  refine Ev.bind (Known_f t0 t1 t2 t3 t4 x1 x2 (by omega)) ?_
  by_cases c : pricesE0 ⟨t0, t1, t2, t3, t4⟩ (toWk x1) x2 = 0
  ·have hk := c
   unfold pricesE0 at hk
   have hl := toWk_len x1
   by_cases k1 : tarE ⟨t0, t1, t2, t3, t4⟩ = 0
   ·rw [if_pos k1] at hk
    by_cases k2 : (toWk x1).length > 6
    ·rw [if_pos k2] at hk; omega
    rw [if_neg k2] at hk
    by_cases k3 : ((toWk x1).any fun x => !wkB x) = true
    ·rw [if_pos k3] at hk; omega
    rw [if_neg k3] at hk
    by_cases k4 : x2.length = (toWk x1).length
    ·have ok : Ok ⟨t0, t1, t2, t3, t4⟩ (toWk x1) x2 := ⟨(tarE_zero _).1 k1, fun x hx => by
      have := List.any_eq_false.1 (by simpa using k3 : ((toWk x1).any fun x => !wkB x) = false) x hx
      simpa using this, hf⟩
     simp only [if_pos c]
     refine Ev.bind (Prices_f t0 t1 t2 t3 t4 x1 x2 ok (by omega) (by omega)) ?_
     have eM : pricesM ⟨t0, t1, t2, t3, t4⟩ (toWk x1) x2 = (psOut ⟨t0, t1, t2, t3, t4⟩ (toWk x1) x2 61).m := by unfold pricesM; rw [if_pos c]
     by_cases k5 : (psOut ⟨t0, t1, t2, t3, t4⟩ (toWk x1) x2 61).m = 0
     ·have eE : pricesE ⟨t0, t1, t2, t3, t4⟩ (toWk x1) x2 = 9 := by unfold pricesE; rw [if_pos c, if_pos k5]
      have eS : ofSp (pricesS ⟨t0, t1, t2, t3, t4⟩ (toWk x1) x2) = [] := by unfold pricesS; rw [eE]; rfl
      simp only [rPrices, if_pos k5, eM, eE, eS, k5]
      exact FeePrices_err 9 (by omega) _ _
     ·have eE : pricesE ⟨t0, t1, t2, t3, t4⟩ (toWk x1) x2 = 0 := by unfold pricesE; rw [if_pos c, if_neg k5]
      have eS : pricesS ⟨t0, t1, t2, t3, t4⟩ (toWk x1) x2 = (psOut ⟨t0, t1, t2, t3, t4⟩ (toWk x1) x2 61).s := by unfold pricesS; rw [if_pos eE]
      have e3 : (psOut ⟨t0, t1, t2, t3, t4⟩ (toWk x1) x2 61).s.length = 3 := by
       rcases (law_out _ _ _ ok 61 (by omega)).2 with ⟨a1, _⟩ | ⟨_, x, y, z, e, _⟩
       ·exact absurd a1 k5
       ·rw [e]; rfl
      simp only [rPrices, if_neg k5, eM, eE, eS, c]
      refine Ev.up ?_
      simp only [lw_FeePrices.j2, if_true, bne_self_eq_false]
      refine Ev.up ?_
      simp only [lw_FeePrices.j3, Bool.false_eq_true, if_false]
      exact FeePrices_l1 (ofSp (psOut ⟨t0, t1, t2, t3, t4⟩ (toWk x1) x2 61).s) (by rw [ofSp_len]; omega) (ofSp (psOut ⟨t0, t1, t2, t3, t4⟩ (toWk x1) x2 61).s).length 0 (by omega)
    ·rw [if_neg k4] at hk; omega
   ·rw [if_neg k1] at hk
    exact absurd hk k1
  ·have eM : pricesM ⟨t0, t1, t2, t3, t4⟩ (toWk x1) x2 = 0 := by unfold pricesM; rw [if_neg c]
   have eE : pricesE ⟨t0, t1, t2, t3, t4⟩ (toWk x1) x2 = pricesE0 ⟨t0, t1, t2, t3, t4⟩ (toWk x1) x2 := by unfold pricesE; rw [if_neg c]
   have eS : ofSp (pricesS ⟨t0, t1, t2, t3, t4⟩ (toWk x1) x2) = [] := by unfold pricesS; rw [if_neg (by rw [eE]; exact c)]; rfl
   simp only [if_neg c, eM, eE, eS]
   exact FeePrices_err _ c _ _
theorem FeePrices_ev (t0 t1 t2 t3 t4 : Int) (x1 : List S25) (x2 : List Int) (hf : ∀ f ∈ x2, -9223372036854775808 ≤ f ∧ f ≤ 9223372036854775807) : Ev (fun k => lw_FeePrices.f k t0 t1 t2 t3 t4 x1 x2) true := by
 unfold lw_FeePrices.f
 by_cases c0 : x1.length > 20
 ·simp only [if_pos (show (x1.length : Int) > 20 by omega)]
  refine Ev.up ?_
  simp only [lw_FeePrices.j0, if_true, known_f, Option.bind_some]
  exact Ev.now true
 simp only [if_neg (show ¬ (x1.length : Int) > 20 by omega)]
 refine Ev.up ?_
 by_cases c1 : x2.length > 20
 ·simp only [lw_FeePrices.j0, decide_eq_true (show (x2.length : Int) > 20 by omega), if_true, known_f, Option.bind_some]
  exact Ev.now true
 simp only [lw_FeePrices.j0, decide_eq_false (show ¬ (x2.length : Int) > 20 by omega), Bool.false_eq_true, if_false, Option.bind_some, List.length_nil, Nat.zero_add, List.nil_append, if_pos (show x1.length < 5864062014805 by omega), if_pos (show x2.length < 17592186044416 by omega), fee_Prices.f]
 exact FeePrices_l0 t0 t1 t2 t3 t4 x1 x2 (by omega) (by omega) hf x1.length 0 (by omega)
theorem FeePrices_pure (a0_0 a0_1 a0_2 a0_3 a0_4 : Int) (l1 : List S25) (l2 : List Int) {P0 P1 : Prop} (w0 : P0) (w1 : P1) (w2 : ∀ x_ ∈ l2, (Lit.int .i64 x_).wf = true) : ∃ k, lw_FeePrices.f k a0_0 a0_1 a0_2 a0_3 a0_4 l1 l2 = some true :=
 (FeePrices_ev a0_0 a0_1 a0_2 a0_3 a0_4 l1 l2 (fun f hf => by
  have := w2 f hf
  simp only [Lit.wf, Bool.and_eq_true, decide_eq_true_eq] at this
  exact this)).rounds
end Go.Proofs.Ytdlekcdedahbhaa.Q
