/- Functions printed by the kit's printer over these walks, and the plain law. No condition. -/
import Derived.Test.YtdlekcdedahbhaaGFeeFills0
import Derived.Test.YtdlekcdedahbhaaGFeeFills1
import Derived.Test.YtdlekcdedahbhaaWWords
import Derived.WalkKit
import Derived.ProofKit
import Derived.OpenShut
import Derived.ShutString
import Derived.ChangeOld
import Derived.Below
import Derived.SizedLaws
import Derived.ChangeArms
import Derived.WideShapes
import Derived.Carry
import Derived.Test.YtdlekcdedahbhaaWEqStruct
import Derived.Test.YtdlekcdedahbhaaWGuard
import Derived.Test.YtdlekcdedahbhaaWLast
import Derived.Test.YtdlekcdedahbhaaWMore
set_option linter.unusedVariables false
set_option linter.unusedSimpArgs false
namespace Go.Proofs.Ytdlekcdedahbhaa.Q
open Go.RowKit Go.Proofs.YtdlekcdedahbhaaW.PrintWords Go.Proofs.YtdlekcdedahbhaaW.PrintLast Go.Proofs.YtdlekcdedahbhaaW.PrintMore
attribute [local go_sem] max2_int min2_int max_two min_two max_three min_three max_four min_four   -- for this text's walks alone
set_option linter.unusedVariables false
set_option linter.unusedSimpArgs false
attribute [local go_sem high] eqA44
mutual
def lw_FeeFills.j0 : Nat → List (S101) → List Int → Bool → Option (Bool)
 | 0, _, _, _ => none
 | k + 1, x0, x1, x20 => if x20 = true then ((lw_known.f).bind fun t427 => (some t427)) else ((rf_Copy.f x0).bind fun t428 => ((some (([] : List Int) : List Int)).bind fun y431 => (if y431.length + x1.length < 17592186044416 then ((some (y431 ++ x1 : List Int)).bind fun y434 => ((fee_Fill.f t428 y434).bind fun bt437 => ((rf_Same.f k t428 x0).bind fun t441 => (if t441 = true then ((rf_Ints.f k y434 x1).bind fun t442 => (lw_FeeFills.j1 k x0 x1 bt437.1 bt437.2 (!t442))) else (lw_FeeFills.j1 k x0 x1 bt437.1 bt437.2 true))))) else (none))))
def lw_FeeFills.j1 : Nat → List (S101) → List Int → List (S44) → Int → Bool → Option (Bool)
 | 0, _, _, _, _, _ => none
 | k + 1, x0, x1, x7, x8, x42 => if x42 = true then (some false) else ((rf_Ledger.f k x0 false).bind fun t443 => ((some (([] : List (S44)) : List (S44))).bind fun y444 => (if t443 = 0 then ((rf_Blots.f k x0).bind fun t447 => (lw_FeeFills.j2 k x0 x1 x7 x8 t443 y444 (decide ((t447.length : Int) > 3)))) else (lw_FeeFills.j2 k x0 x1 x7 x8 t443 y444 false))))
def lw_FeeFills.j2 : Nat → List (S101) → List Int → List (S44) → Int → Int → List (S44) → Bool → Option (Bool)
 | 0, _, _, _, _, _, _, _ => none
 | k + 1, x0, x1, x7, x8, x9, x10, x53 => if x53 = true then (lw_FeeFills.j3 k x0 x1 x7 x8 8 x10) else (lw_FeeFills.j3 k x0 x1 x7 x8 x9 x10)
def lw_FeeFills.j3 : Nat → List (S101) → List Int → List (S44) → Int → Int → List (S44) → Option (Bool)
 | 0, _, _, _, _, _, _ => none
 | k + 1, x0, x1, x7, x8, x9, x10 => if x9 = 0 then ((rf_Valid.f k x1).bind fun t450 => (lw_FeeFills.j4 k x0 x1 x7 x8 x9 x10 (!t450))) else (lw_FeeFills.j4 k x0 x1 x7 x8 x9 x10 false)
def lw_FeeFills.j4 : Nat → List (S101) → List Int → List (S44) → Int → Int → List (S44) → Bool → Option (Bool)
 | 0, _, _, _, _, _, _, _ => none
 | k + 1, x0, x1, x7, x8, x9, x10, x60 => if x60 = true then (lw_FeeFills.j5 k x0 x1 x7 x8 4 x10) else (lw_FeeFills.j5 k x0 x1 x7 x8 x9 x10)
def lw_FeeFills.j5 : Nat → List (S101) → List Int → List (S44) → Int → Int → List (S44) → Option (Bool)
 | 0, _, _, _, _, _, _ => none
 | k + 1, x0, x1, x7, x8, x9, x10 => if x9 = 0 then ((rf_Fill.f k x0 x1).bind fun bt451 => (if bt451.2 = true then (lw_FeeFills.j6 k x7 x8 x9 bt451.1) else (lw_FeeFills.j6 k x7 x8 9 bt451.1))) else (lw_FeeFills.j6 k x7 x8 x9 x10)
def lw_FeeFills.j6 : Nat → List (S44) → Int → Int → List (S44) → Option (Bool)
 | 0, _, _, _, _ => none
 | k + 1, x7, x8, x9, x10 => if x9 = 0 then (if x8 = 0 then (lw_FeeFills.j7 k x7 x10 ((x7.length : Int) != (x10.length : Int))) else (lw_FeeFills.j7 k x7 x10 true)) else (if x8 = x9 then (if (x7.length : Int) = 0 then ((lw_known.f).bind fun t455 => (some t455)) else (some false)) else (some false))
def lw_FeeFills.j7 : Nat → List (S44) → List (S44) → Bool → Option (Bool)
 | 0, _, _, _ => none
 | k + 1, x7, x10, x92 => if x92 = true then (some false) else (lw_FeeFills.l0 k x7 x10 0)
def lw_FeeFills.l0 : Nat → List (S44) → List (S44) → Int → Option (Bool)
 | 0, _, _, _ => none
 | k + 1, x7, x10, x12 => if x12 < (x10.length : Int) then (if 0 ≤ x12 then (if x12 < (x7.length : Int) then (if (!(((rd_T44 x7 x12).f0) == ((rd_T44 x10 x12).f0)) || (!(((rd_T44 x7 x12).f1) == ((rd_T44 x10 x12).f1)))) = true then (some false) else (lw_FeeFills.l0 k x7 x10 (wrap64 (x12 + 1)))) else (none)) else (none)) else ((lw_known.f).bind fun t458 => (some t458))
end
def lw_FeeFills.f (k : Nat) (l0 : List (S101)) (l1 : List Int) : Option (Bool) := if (l0.length : Int) > 40 then (lw_FeeFills.j0 k l0 l1 true) else (lw_FeeFills.j0 k l0 l1 (decide ((l1.length : Int) > 20)))
set_option maxHeartbeats 8000000 in
set_option maxRecDepth 100000 in
theorem lw_FeeFills.calls (k : Nat) (A0 : Option Addr) (c0 : Nat) (l0 : List (S101)) (A1 : Option Addr) (c1 : Nat) (l1 : List Int) (r : Bool) (w : World) (hr0 : Kd.C k101 w A0 l0.length l0) (hc0 : l0.length ≤ c0) (hr1 : Kd.C (Kd.int .i64) w A1 l1.length l1) (hc1 : l1.length ≤ c1) (h : lw_FeeFills.f k l0 l1 = some r) :
  Calls Try.prog 8 #[.slice A0 l0.length c0, .slice A1 l1.length c1] w fun e w' => e = .returned (.bool r) ∧ Below w.heap.size w w' := by
 have hu44 := Try.underlying44
 have HR0 := Aside0.mk hr0
 have HC0 := Aside0.mk hc0
 clear hr0 hc0; have HR1 := Aside0.mk hr1
 have HC1 := Aside0.mk hc1
 clear hr1 hc1; have HB := Aside0.mk (Below.refl w.heap.size w)
 have H : (if (l0.length : Int) > 40 then (lw_FeeFills.j0 k l0 l1 true) else (lw_FeeFills.j0 k l0 l1 (decide ((l1.length : Int) > 20)))) = some r := h
 clear h; have HC3 := Aside0.mk H
 clear H; go_enter Try.func8, Try.ntmps8
 go_upto_region 1 with (fail)
 repeat (go_quiet (fail); go_upto_region 1 with (fail))
 go_cut [20] (fun v20 wc => ∃ (kq : Nat) (x20_2 : Bool), v20 = .bool x20_2 ∧ Aside0 (lw_FeeFills.j0 kq l0 l1 x20_2 = some r) ∧ Aside0 (kq ≤ k) ∧ Aside0 (Below w.heap.size w wc))
 case first =>
  have H := HC3.out
  clear HC3
  by_cases c4 : (l0.length : Int) > 40
  ·rw [if_pos c4] at H
   have c4b0 : decide (40 < (l0.length : Int)) = true := decide_eq_true c4
   have c4b1 : decide (40 < l0.length) = true := decide_eq_true (by omega)
   clear c4
   (first | rw [c4b0] | (simp only [i64_w, i32_w]; rw [c4b0]) | skip)
   have H' := Aside0.mk H
   clear H; go_wp2
   repeat (go_quiet (fail); try go_wp2)
   go_meet
   case rel => exact ⟨_, (true), (by first | rfl | (simp; done) | (simp [*]; done)), H', ⟨by first | omega | exact Nat.le_refl _⟩, ⟨by repeat (first | (with_reducible first | exact HB.out | apply below_alloc | apply pw_below_drewN | apply below_drew1) | exact HB.out)⟩⟩
  ·rw [if_neg c4] at H
   have c4b0 : decide (40 < (l0.length : Int)) = false := decide_eq_false c4
   have c4b1 : decide (40 < l0.length) = false := decide_eq_false (by omega)
   clear c4
   (first | rw [c4b0] | (simp only [i64_w, i32_w]; rw [c4b0]) | skip)
   have H' := Aside0.mk H
   clear H; go_wp2
   repeat (go_quiet (fail); try go_wp2)
   go_meet
   case rel => exact ⟨_, (decide ((l1.length : Int) > 20)), (by first | rfl | (simp; done) | (simp [*]; done)), H', ⟨by first | omega | exact Nat.le_refl _⟩, ⟨by repeat (first | (with_reducible first | exact HB.out | apply below_alloc | apply pw_below_drewN | apply below_drew1) | exact HB.out)⟩⟩
 case rest =>
  clear HC3; try clear c1
  try clear p2
  try clear c4
  try clear c4b0
  try clear c4b1
  obtain ⟨kq, x20_2, rfl, HA, HJ2, HB⟩ := hcut
  cases kq with
  | zero => exact absurd HA.out (by simp [lw_FeeFills.j0])
  | succ kj2 =>
   have H := HA.out
   clear HA; simp only [lw_FeeFills.j0] at H
   by_cases c5 : x20_2 = true
   ·subst c5
    have H1 : ((lw_known.f).bind fun t427 => (some t427)) = some r := by rw [if_pos rfl] at H; exact H
    clear H; have H := H1
    clear H1
    replace H := Option.bind_eq_some_iff.mp H
    obtain ⟨t427, A60, H⟩ := H
    replace H : (some t427) = some r := H
    have A6 := Aside0.mk A60
    clear A60; obtain rfl := Option.some.inj H
    go_wp2_with (first | (go_at_call 22; (with_reducible refine (lw_known.calls  t427 _ A6.out).mono ?_); rintro e w7 ⟨rfl, hb⟩; have n0_ := Aside0.mk (below_step (by repeat (first | (with_reducible first | exact HB.out | apply below_alloc | apply pw_below_drewN | apply below_drew1) | exact HB.out)) hb); clear HB; have HB := n0_; clear n0_; (try clear hb); (try clear hb2); (try clear hk); (try clear hi)))
    repeat (go_quiet (first | (go_at_call 22; (with_reducible refine (lw_known.calls  t427 _ A6.out).mono ?_); rintro e w7 ⟨rfl, hb⟩; have n0_ := Aside0.mk (below_step (by repeat (first | (with_reducible first | exact HB.out | apply below_alloc | apply pw_below_drewN | apply below_drew1) | exact HB.out)) hb); clear HB; have HB := n0_; clear n0_; (try clear hb); (try clear hb2); (try clear hk); (try clear hi))); try go_wp2_with (first | (go_at_call 22; (with_reducible refine (lw_known.calls  t427 _ A6.out).mono ?_); rintro e w7 ⟨rfl, hb⟩; have n0_ := Aside0.mk (below_step (by repeat (first | (with_reducible first | exact HB.out | apply below_alloc | apply pw_below_drewN | apply below_drew1) | exact HB.out)) hb); clear HB; have HB := n0_; clear n0_; (try clear hb); (try clear hb2); (try clear hk); (try clear hi))))
    go_ret
    exact ⟨by first | rfl | (simp [errW_none, errW_some] <;> rfl) | (simp [*, errW_none, errW_some] <;> rfl), by repeat (first | (with_reducible first | exact HB.out | apply below_alloc | apply pw_below_drewN | apply below_drew1) | exact HB.out)⟩
   ·replace c5 := Bool.eq_false_iff.mpr c5
    subst c5
    have H1 : ((rf_Copy.f l0).bind fun t428 => ((some (([] : List Int) : List Int)).bind fun y431 => (if y431.length + l1.length < 17592186044416 then ((some (y431 ++ l1 : List Int)).bind fun y434 => ((fee_Fill.f t428 y434).bind fun bt437 => ((rf_Same.f kj2 t428 l0).bind fun t441 => (if t441 = true then ((rf_Ints.f kj2 y434 l1).bind fun t442 => (lw_FeeFills.j1 kj2 l0 l1 bt437.1 bt437.2 (!t442))) else (lw_FeeFills.j1 kj2 l0 l1 bt437.1 bt437.2 true))))) else (none)))) = some r := by rw [if_neg (show ¬ (false = true) by decide)] at H; exact H
    clear H; have H := H1
    clear H1
    replace H := Option.bind_eq_some_iff.mp H
    obtain ⟨t428, A80, H⟩ := H
    replace H : ((some (([] : List Int) : List Int)).bind fun y431 => (if y431.length + l1.length < 17592186044416 then ((some (y431 ++ l1 : List Int)).bind fun y434 => ((fee_Fill.f t428 y434).bind fun bt437 => ((rf_Same.f kj2 t428 l0).bind fun t441 => (if t441 = true then ((rf_Ints.f kj2 y434 l1).bind fun t442 => (lw_FeeFills.j1 kj2 l0 l1 bt437.1 bt437.2 (!t442))) else (lw_FeeFills.j1 kj2 l0 l1 bt437.1 bt437.2 true))))) else (none))) = some r := H
    have A8 := Aside0.mk A80
    clear A80; obtain ⟨y431, hy431⟩ : ∃ y_ : List Int, y_ = (([] : List Int)) := ⟨_, rfl⟩
    replace H : (if y431.length + l1.length < 17592186044416 then ((some (y431 ++ l1 : List Int)).bind fun y434 => ((fee_Fill.f t428 y434).bind fun bt437 => ((rf_Same.f kj2 t428 l0).bind fun t441 => (if t441 = true then ((rf_Ints.f kj2 y434 l1).bind fun t442 => (lw_FeeFills.j1 kj2 l0 l1 bt437.1 bt437.2 (!t442))) else (lw_FeeFills.j1 kj2 l0 l1 bt437.1 bt437.2 true))))) else (none)) = some r := by first | (rw [hy431]; with_reducible exact H) | (have H2_ := (Option.bind_some _ _).symm.trans H; rw [hy431]; with_reducible exact H2_) | (have H2_ := (Option.bind_some _ _).symm.trans H; with_reducible exact H2_) | with_reducible exact H | (rw [hy431]; exact H) | exact H
    have Ny431 := Aside0.mk hy431
    clear hy431
    by_cases c9 : y431.length + l1.length < 17592186044416
    ·rw [if_pos c9] at H
     have LMc9 := Aside0.mk c9
     clear c9; obtain ⟨y434, hy434⟩ : ∃ y_ : List Int, y_ = (y431 ++ l1) := ⟨_, rfl⟩
     replace H : ((fee_Fill.f t428 y434).bind fun bt437 => ((rf_Same.f kj2 t428 l0).bind fun t441 => (if t441 = true then ((rf_Ints.f kj2 y434 l1).bind fun t442 => (lw_FeeFills.j1 kj2 l0 l1 bt437.1 bt437.2 (!t442))) else (lw_FeeFills.j1 kj2 l0 l1 bt437.1 bt437.2 true)))) = some r := by first | (rw [hy434]; with_reducible exact H) | (have H2_ := (Option.bind_some _ _).symm.trans H; rw [hy434]; with_reducible exact H2_) | (have H2_ := (Option.bind_some _ _).symm.trans H; with_reducible exact H2_) | with_reducible exact H | (rw [hy434]; exact H) | exact H
     have Ny434 := Aside0.mk hy434
     clear hy434
     replace H := Option.bind_eq_some_iff.mp H
     obtain ⟨⟨t437, t438⟩, A100, H⟩ := H
     replace H : ((rf_Same.f kj2 t428 l0).bind fun t441 => (if t441 = true then ((rf_Ints.f kj2 y434 l1).bind fun t442 => (lw_FeeFills.j1 kj2 l0 l1 t437 t438 (!t442))) else (lw_FeeFills.j1 kj2 l0 l1 t437 t438 true))) = some r := H
     have A10 := Aside0.mk A100
     clear A100; have HC11 := Aside0.mk H
     clear H; go_upto_region 5 with (first | (go_at_call 28; (with_reducible refine (rf_Copy.calls _ _ l0 t428 _ ?side1 ?side2 A8.out).mono ?_); (case side1 => repeat (first | exact (Kd.C_below HR0.out HB.out) | (with_reducible refine Kd.C_alloc ?_ _) | (with_reducible refine Kd.C_drewN ?_ _) | (with_reducible refine Kd.C_drew ?_))); (case side2 => exact HC0.out); rintro e w12 ⟨v429, rfl, ho0, hb⟩; have n0_ := Aside0.mk (Kd.R_lower ho0 (below_size (by repeat (first | (with_reducible first | exact HB.out | apply below_alloc | apply pw_below_drewN | apply below_drew1) | exact HB.out)))); have n1_ := Aside0.mk (below_step (by repeat (first | (with_reducible first | exact HB.out | apply below_alloc | apply pw_below_drewN | apply below_drew1) | exact HB.out)) hb); clear HB; have HO430 := n0_; have HB := n1_; clear n0_ n1_; (try clear hb); (try clear hb2); (try clear hk); (try clear hi); (try clear ho0)) | ((with_reducible refine gate_dst (N := 24) rfl ?_); (try (refine gate_guard (by rfl) ?_; dsimp only)); refine Kd.R_lit (Kd.int .i64) _ 3 ?hg (N := 24) ?hd (xs := ([] : List Int)) (inner := []) (ok := fun _ => True) (okp := fun _ => True) ?hr ?hp (fun _ hk => hk) trivial (Below.refl _ _) (Nat.le_refl _) (by simp) ?_; (case hd => rfl); (case hg => rfl); (case hr => first | (go_simp; done) | (go_simp; rfl)); (case hp => exact (Reps.none _ _)); intro v432 w13 ho14 hb hg_ hnew_; clear hg_ hnew_; (first | rw [← Ny431.out] at ho14 | (simp only [Int.reduceToNat] at ho14; rw [← Ny431.out] at ho14)); have n0_ := Aside0.mk (Kd.R_below (by (with_reducible repeat (first | apply Kd.R_alloc | apply Kd.R_drewN | apply Kd.R_drew)); exact HO430.out) hb); have n1_ := Aside0.mk (Kd.R_lower ho14 (below_size (by repeat (first | (with_reducible first | exact HB.out | apply below_alloc | apply pw_below_drewN | apply below_drew1) | exact HB.out)))); have n2_ := Aside0.mk (below_step (by repeat (first | (with_reducible first | exact HB.out | apply below_alloc | apply pw_below_drewN | apply below_drew1) | exact HB.out)) hb); clear HO430; clear HB; have HO430 := n0_; have HO433 := n1_; have HB := n2_; clear n0_ n1_ n2_; clear hb ho14) | ((with_reducible refine gate_builtin (b := .append) (xs := #[.tmp 24, .tmp 25]) rfl ?_); (try (refine gate_guard (by rfl) ?_; dsimp only)); at_builtin; refine Kd.R_append_rows (Kd.int .i64) (w0 := w) w.heap.size rfl (.tmp 24) (.tmp 25) 35 3 (.int .i64 0) 8 rfl Try.underlying35 info3 rfl (by decide) (by omega) v432 y431 l1 _ _ _ (fun _ => True) (fun _ => False) rfl rfl ?aO ?aR (fun _ _ h => h) (fun _ h => h.elim) ?aF ?aB ?aS ?aL ?_; (case aR => repeat (first | exact (Kd.C_below HR1.out HB.out) | (with_reducible refine Kd.C_alloc ?_ _) | (with_reducible refine Kd.C_drewN ?_ _) | (with_reducible refine Kd.C_drew ?_))); (case aB => exact (by repeat (first | (with_reducible first | exact HB.out | apply below_alloc | apply pw_below_drewN | apply below_drew1) | exact HB.out))); (case aF => exact (fun _ _ => trivial)); (case aO => exact (by (with_reducible repeat (first | apply Kd.R_alloc | apply Kd.R_drewN | apply Kd.R_drew)); exact HO433.out)); (case aS => exact (below_size (by repeat (first | (with_reducible first | exact HB.out | apply below_alloc | apply pw_below_drewN | apply below_drew1) | exact HB.out)))); (case aL => have := LMc9.out; omega); intro v435 w15 ho hb hg hat; rw [← Ny434.out] at ho; have n0_ := Aside0.mk (Kd.R_over' (by (with_reducible repeat (first | apply Kd.R_alloc | apply Kd.R_drewN | apply Kd.R_drew)); exact HO430.out) (Kd.R_typed (by (with_reducible repeat (first | apply Kd.R_alloc | apply Kd.R_drewN | apply Kd.R_drew)); exact HO433.out)) (by decide) hg); have n1_ := Aside0.mk (hb); have n2_ := Aside0.mk (ho); clear HO430; clear HB; clear HO433; have HO430 := n0_; have HB := n1_; have HO436 := n2_; clear n0_ n1_ n2_; clear ho hb hg hat; obtain ⟨Ao16, co16, eo16⟩ := Kd.R_slice HO430.out; subst eo16; obtain ⟨Ao17, co17, eo17⟩ := Kd.R_slice HO436.out; subst eo17) | (go_at_call 39; (with_reducible refine (fee_Fill.calls _ _ t428 _ _ y434 t437 t438 _ ?side1 ?side2 ?side3 ?side4 A10.out).mono ?_); (case side1 => repeat (first | exact (Kd.R_reads' HO430.out).2.2 | (with_reducible refine Kd.C_alloc ?_ _) | (with_reducible refine Kd.C_drewN ?_ _) | (with_reducible refine Kd.C_drew ?_))); (case side2 => exact (Kd.R_reads' HO430.out).2.1); (case side3 => repeat (first | exact (Kd.R_reads' HO436.out).2.2 | (with_reducible refine Kd.C_alloc ?_ _) | (with_reducible refine Kd.C_drewN ?_ _) | (with_reducible refine Kd.C_drew ?_))); (case side4 => exact (Kd.R_reads' HO436.out).2.1); rintro e w18 ⟨v439, rfl, ho0, hb⟩; have n0_ := Aside0.mk (Kd.R_below (by (with_reducible repeat (first | apply Kd.R_alloc | apply Kd.R_drewN | apply Kd.R_drew)); exact HO430.out) hb); have n1_ := Aside0.mk (Kd.R_below (by (with_reducible repeat (first | apply Kd.R_alloc | apply Kd.R_drewN | apply Kd.R_drew)); exact HO436.out) hb); have n2_ := Aside0.mk (Kd.R_lower ho0 (below_size (by repeat (first | (with_reducible first | exact HB.out | apply below_alloc | apply pw_below_drewN | apply below_drew1) | exact HB.out)))); have n3_ := Aside0.mk (below_step (by repeat (first | (with_reducible first | exact HB.out | apply below_alloc | apply pw_below_drewN | apply below_drew1) | exact HB.out)) hb); clear HO430; clear HO436; clear HB; have HO430 := n0_; have HO436 := n1_; have HO440 := n2_; have HB := n3_; clear n0_ n1_ n2_ n3_; (try clear hb); (try clear hb2); (try clear hk); (try clear hi); (try clear ho0)))
     repeat (go_quiet (first | (go_at_call 28; (with_reducible refine (rf_Copy.calls _ _ l0 t428 _ ?side1 ?side2 A8.out).mono ?_); (case side1 => repeat (first | exact (Kd.C_below HR0.out HB.out) | (with_reducible refine Kd.C_alloc ?_ _) | (with_reducible refine Kd.C_drewN ?_ _) | (with_reducible refine Kd.C_drew ?_))); (case side2 => exact HC0.out); rintro e w12 ⟨v429, rfl, ho0, hb⟩; have n0_ := Aside0.mk (Kd.R_lower ho0 (below_size (by repeat (first | (with_reducible first | exact HB.out | apply below_alloc | apply pw_below_drewN | apply below_drew1) | exact HB.out)))); have n1_ := Aside0.mk (below_step (by repeat (first | (with_reducible first | exact HB.out | apply below_alloc | apply pw_below_drewN | apply below_drew1) | exact HB.out)) hb); clear HB; have HO430 := n0_; have HB := n1_; clear n0_ n1_; (try clear hb); (try clear hb2); (try clear hk); (try clear hi); (try clear ho0)) | ((with_reducible refine gate_dst (N := 24) rfl ?_); (try (refine gate_guard (by rfl) ?_; dsimp only)); refine Kd.R_lit (Kd.int .i64) _ 3 ?hg (N := 24) ?hd (xs := ([] : List Int)) (inner := []) (ok := fun _ => True) (okp := fun _ => True) ?hr ?hp (fun _ hk => hk) trivial (Below.refl _ _) (Nat.le_refl _) (by simp) ?_; (case hd => rfl); (case hg => rfl); (case hr => first | (go_simp; done) | (go_simp; rfl)); (case hp => exact (Reps.none _ _)); intro v432 w13 ho14 hb hg_ hnew_; clear hg_ hnew_; (first | rw [← Ny431.out] at ho14 | (simp only [Int.reduceToNat] at ho14; rw [← Ny431.out] at ho14)); have n0_ := Aside0.mk (Kd.R_below (by (with_reducible repeat (first | apply Kd.R_alloc | apply Kd.R_drewN | apply Kd.R_drew)); exact HO430.out) hb); have n1_ := Aside0.mk (Kd.R_lower ho14 (below_size (by repeat (first | (with_reducible first | exact HB.out | apply below_alloc | apply pw_below_drewN | apply below_drew1) | exact HB.out)))); have n2_ := Aside0.mk (below_step (by repeat (first | (with_reducible first | exact HB.out | apply below_alloc | apply pw_below_drewN | apply below_drew1) | exact HB.out)) hb); clear HO430; clear HB; have HO430 := n0_; have HO433 := n1_; have HB := n2_; clear n0_ n1_ n2_; clear hb ho14) | ((with_reducible refine gate_builtin (b := .append) (xs := #[.tmp 24, .tmp 25]) rfl ?_); (try (refine gate_guard (by rfl) ?_; dsimp only)); at_builtin; refine Kd.R_append_rows (Kd.int .i64) (w0 := w) w.heap.size rfl (.tmp 24) (.tmp 25) 35 3 (.int .i64 0) 8 rfl Try.underlying35 info3 rfl (by decide) (by omega) v432 y431 l1 _ _ _ (fun _ => True) (fun _ => False) rfl rfl ?aO ?aR (fun _ _ h => h) (fun _ h => h.elim) ?aF ?aB ?aS ?aL ?_; (case aR => repeat (first | exact (Kd.C_below HR1.out HB.out) | (with_reducible refine Kd.C_alloc ?_ _) | (with_reducible refine Kd.C_drewN ?_ _) | (with_reducible refine Kd.C_drew ?_))); (case aB => exact (by repeat (first | (with_reducible first | exact HB.out | apply below_alloc | apply pw_below_drewN | apply below_drew1) | exact HB.out))); (case aF => exact (fun _ _ => trivial)); (case aO => exact (by (with_reducible repeat (first | apply Kd.R_alloc | apply Kd.R_drewN | apply Kd.R_drew)); exact HO433.out)); (case aS => exact (below_size (by repeat (first | (with_reducible first | exact HB.out | apply below_alloc | apply pw_below_drewN | apply below_drew1) | exact HB.out)))); (case aL => have := LMc9.out; omega); intro v435 w15 ho hb hg hat; rw [← Ny434.out] at ho; have n0_ := Aside0.mk (Kd.R_over' (by (with_reducible repeat (first | apply Kd.R_alloc | apply Kd.R_drewN | apply Kd.R_drew)); exact HO430.out) (Kd.R_typed (by (with_reducible repeat (first | apply Kd.R_alloc | apply Kd.R_drewN | apply Kd.R_drew)); exact HO433.out)) (by decide) hg); have n1_ := Aside0.mk (hb); have n2_ := Aside0.mk (ho); clear HO430; clear HB; clear HO433; have HO430 := n0_; have HB := n1_; have HO436 := n2_; clear n0_ n1_ n2_; clear ho hb hg hat; obtain ⟨Ao16, co16, eo16⟩ := Kd.R_slice HO430.out; subst eo16; obtain ⟨Ao17, co17, eo17⟩ := Kd.R_slice HO436.out; subst eo17) | (go_at_call 39; (with_reducible refine (fee_Fill.calls _ _ t428 _ _ y434 t437 t438 _ ?side1 ?side2 ?side3 ?side4 A10.out).mono ?_); (case side1 => repeat (first | exact (Kd.R_reads' HO430.out).2.2 | (with_reducible refine Kd.C_alloc ?_ _) | (with_reducible refine Kd.C_drewN ?_ _) | (with_reducible refine Kd.C_drew ?_))); (case side2 => exact (Kd.R_reads' HO430.out).2.1); (case side3 => repeat (first | exact (Kd.R_reads' HO436.out).2.2 | (with_reducible refine Kd.C_alloc ?_ _) | (with_reducible refine Kd.C_drewN ?_ _) | (with_reducible refine Kd.C_drew ?_))); (case side4 => exact (Kd.R_reads' HO436.out).2.1); rintro e w18 ⟨v439, rfl, ho0, hb⟩; have n0_ := Aside0.mk (Kd.R_below (by (with_reducible repeat (first | apply Kd.R_alloc | apply Kd.R_drewN | apply Kd.R_drew)); exact HO430.out) hb); have n1_ := Aside0.mk (Kd.R_below (by (with_reducible repeat (first | apply Kd.R_alloc | apply Kd.R_drewN | apply Kd.R_drew)); exact HO436.out) hb); have n2_ := Aside0.mk (Kd.R_lower ho0 (below_size (by repeat (first | (with_reducible first | exact HB.out | apply below_alloc | apply pw_below_drewN | apply below_drew1) | exact HB.out)))); have n3_ := Aside0.mk (below_step (by repeat (first | (with_reducible first | exact HB.out | apply below_alloc | apply pw_below_drewN | apply below_drew1) | exact HB.out)) hb); clear HO430; clear HO436; clear HB; have HO430 := n0_; have HO436 := n1_; have HO440 := n2_; have HB := n3_; clear n0_ n1_ n2_ n3_; (try clear hb); (try clear hb2); (try clear hk); (try clear hi); (try clear ho0))); go_upto_region 5 with (first | (go_at_call 28; (with_reducible refine (rf_Copy.calls _ _ l0 t428 _ ?side1 ?side2 A8.out).mono ?_); (case side1 => repeat (first | exact (Kd.C_below HR0.out HB.out) | (with_reducible refine Kd.C_alloc ?_ _) | (with_reducible refine Kd.C_drewN ?_ _) | (with_reducible refine Kd.C_drew ?_))); (case side2 => exact HC0.out); rintro e w12 ⟨v429, rfl, ho0, hb⟩; have n0_ := Aside0.mk (Kd.R_lower ho0 (below_size (by repeat (first | (with_reducible first | exact HB.out | apply below_alloc | apply pw_below_drewN | apply below_drew1) | exact HB.out)))); have n1_ := Aside0.mk (below_step (by repeat (first | (with_reducible first | exact HB.out | apply below_alloc | apply pw_below_drewN | apply below_drew1) | exact HB.out)) hb); clear HB; have HO430 := n0_; have HB := n1_; clear n0_ n1_; (try clear hb); (try clear hb2); (try clear hk); (try clear hi); (try clear ho0)) | ((with_reducible refine gate_dst (N := 24) rfl ?_); (try (refine gate_guard (by rfl) ?_; dsimp only)); refine Kd.R_lit (Kd.int .i64) _ 3 ?hg (N := 24) ?hd (xs := ([] : List Int)) (inner := []) (ok := fun _ => True) (okp := fun _ => True) ?hr ?hp (fun _ hk => hk) trivial (Below.refl _ _) (Nat.le_refl _) (by simp) ?_; (case hd => rfl); (case hg => rfl); (case hr => first | (go_simp; done) | (go_simp; rfl)); (case hp => exact (Reps.none _ _)); intro v432 w13 ho14 hb hg_ hnew_; clear hg_ hnew_; (first | rw [← Ny431.out] at ho14 | (simp only [Int.reduceToNat] at ho14; rw [← Ny431.out] at ho14)); have n0_ := Aside0.mk (Kd.R_below (by (with_reducible repeat (first | apply Kd.R_alloc | apply Kd.R_drewN | apply Kd.R_drew)); exact HO430.out) hb); have n1_ := Aside0.mk (Kd.R_lower ho14 (below_size (by repeat (first | (with_reducible first | exact HB.out | apply below_alloc | apply pw_below_drewN | apply below_drew1) | exact HB.out)))); have n2_ := Aside0.mk (below_step (by repeat (first | (with_reducible first | exact HB.out | apply below_alloc | apply pw_below_drewN | apply below_drew1) | exact HB.out)) hb); clear HO430; clear HB; have HO430 := n0_; have HO433 := n1_; have HB := n2_; clear n0_ n1_ n2_; clear hb ho14) | ((with_reducible refine gate_builtin (b := .append) (xs := #[.tmp 24, .tmp 25]) rfl ?_); (try (refine gate_guard (by rfl) ?_; dsimp only)); at_builtin; refine Kd.R_append_rows (Kd.int .i64) (w0 := w) w.heap.size rfl (.tmp 24) (.tmp 25) 35 3 (.int .i64 0) 8 rfl Try.underlying35 info3 rfl (by decide) (by omega) v432 y431 l1 _ _ _ (fun _ => True) (fun _ => False) rfl rfl ?aO ?aR (fun _ _ h => h) (fun _ h => h.elim) ?aF ?aB ?aS ?aL ?_; (case aR => repeat (first | exact (Kd.C_below HR1.out HB.out) | (with_reducible refine Kd.C_alloc ?_ _) | (with_reducible refine Kd.C_drewN ?_ _) | (with_reducible refine Kd.C_drew ?_))); (case aB => exact (by repeat (first | (with_reducible first | exact HB.out | apply below_alloc | apply pw_below_drewN | apply below_drew1) | exact HB.out))); (case aF => exact (fun _ _ => trivial)); (case aO => exact (by (with_reducible repeat (first | apply Kd.R_alloc | apply Kd.R_drewN | apply Kd.R_drew)); exact HO433.out)); (case aS => exact (below_size (by repeat (first | (with_reducible first | exact HB.out | apply below_alloc | apply pw_below_drewN | apply below_drew1) | exact HB.out)))); (case aL => have := LMc9.out; omega); intro v435 w15 ho hb hg hat; rw [← Ny434.out] at ho; have n0_ := Aside0.mk (Kd.R_over' (by (with_reducible repeat (first | apply Kd.R_alloc | apply Kd.R_drewN | apply Kd.R_drew)); exact HO430.out) (Kd.R_typed (by (with_reducible repeat (first | apply Kd.R_alloc | apply Kd.R_drewN | apply Kd.R_drew)); exact HO433.out)) (by decide) hg); have n1_ := Aside0.mk (hb); have n2_ := Aside0.mk (ho); clear HO430; clear HB; clear HO433; have HO430 := n0_; have HB := n1_; have HO436 := n2_; clear n0_ n1_ n2_; clear ho hb hg hat; obtain ⟨Ao16, co16, eo16⟩ := Kd.R_slice HO430.out; subst eo16; obtain ⟨Ao17, co17, eo17⟩ := Kd.R_slice HO436.out; subst eo17) | (go_at_call 39; (with_reducible refine (fee_Fill.calls _ _ t428 _ _ y434 t437 t438 _ ?side1 ?side2 ?side3 ?side4 A10.out).mono ?_); (case side1 => repeat (first | exact (Kd.R_reads' HO430.out).2.2 | (with_reducible refine Kd.C_alloc ?_ _) | (with_reducible refine Kd.C_drewN ?_ _) | (with_reducible refine Kd.C_drew ?_))); (case side2 => exact (Kd.R_reads' HO430.out).2.1); (case side3 => repeat (first | exact (Kd.R_reads' HO436.out).2.2 | (with_reducible refine Kd.C_alloc ?_ _) | (with_reducible refine Kd.C_drewN ?_ _) | (with_reducible refine Kd.C_drew ?_))); (case side4 => exact (Kd.R_reads' HO436.out).2.1); rintro e w18 ⟨v439, rfl, ho0, hb⟩; have n0_ := Aside0.mk (Kd.R_below (by (with_reducible repeat (first | apply Kd.R_alloc | apply Kd.R_drewN | apply Kd.R_drew)); exact HO430.out) hb); have n1_ := Aside0.mk (Kd.R_below (by (with_reducible repeat (first | apply Kd.R_alloc | apply Kd.R_drewN | apply Kd.R_drew)); exact HO436.out) hb); have n2_ := Aside0.mk (Kd.R_lower ho0 (below_size (by repeat (first | (with_reducible first | exact HB.out | apply below_alloc | apply pw_below_drewN | apply below_drew1) | exact HB.out)))); have n3_ := Aside0.mk (below_step (by repeat (first | (with_reducible first | exact HB.out | apply below_alloc | apply pw_below_drewN | apply below_drew1) | exact HB.out)) hb); clear HO430; clear HO436; clear HB; have HO430 := n0_; have HO436 := n1_; have HO440 := n2_; have HB := n3_; clear n0_ n1_ n2_ n3_; (try clear hb); (try clear hb2); (try clear hk); (try clear hi); (try clear ho0))))
     (try simp only [Act.put, List.setIfInBounds_toArray, List.set_cons_zero, List.set_cons_succ])
     go_cut [42] (fun v42 wc => ∃ (kq : Nat) (x42_10 : Bool), v42 = .bool x42_10 ∧ Aside0 (lw_FeeFills.j1 kq l0 l1 t437 t438 x42_10 = some r) ∧ Aside0 (kq ≤ kj2) ∧ Aside0 (Kd.R k44 44 wc w.heap.size (fun _ => True) v439 t437) ∧ Aside0 (Below w.heap.size w wc))
     case first =>
      have H := HC11.out
      clear HC11
      replace H := Option.bind_eq_some_iff.mp H
      obtain ⟨t441, A190, H⟩ := H
      replace H : (if t441 = true then ((rf_Ints.f kj2 y434 l1).bind fun t442 => (lw_FeeFills.j1 kj2 l0 l1 t437 t438 (!t442))) else (lw_FeeFills.j1 kj2 l0 l1 t437 t438 true)) = some r := H
      have A19 := Aside0.mk A190
      clear A190
      by_cases c20 : t441 = true
      ·subst c20
       have H1 : ((rf_Ints.f kj2 y434 l1).bind fun t442 => (lw_FeeFills.j1 kj2 l0 l1 t437 t438 (!t442))) = some r := by rw [if_pos rfl] at H; exact H
       clear H; have H := H1
       clear H1
       replace H := Option.bind_eq_some_iff.mp H
       obtain ⟨t442, A210, H⟩ := H
       replace H : (lw_FeeFills.j1 kj2 l0 l1 t437 t438 (!t442)) = some r := H
       have A21 := Aside0.mk A210
       clear A210; have H' := Aside0.mk H
       clear H; go_wp2_with (first | (go_at_call 30; (with_reducible refine (rf_Same.calls kj2 _ _ t428 _ _ l0 true _ ?side1 ?side2 ?side3 ?side4 A19.out).mono ?_); (case side1 => repeat (first | exact (Kd.R_reads' HO430.out).2.2 | (with_reducible refine Kd.C_alloc ?_ _) | (with_reducible refine Kd.C_drewN ?_ _) | (with_reducible refine Kd.C_drew ?_))); (case side2 => exact (Kd.R_reads' HO430.out).2.1); (case side3 => repeat (first | exact (Kd.C_below HR0.out HB.out) | (with_reducible refine Kd.C_alloc ?_ _) | (with_reducible refine Kd.C_drewN ?_ _) | (with_reducible refine Kd.C_drew ?_))); (case side4 => exact HC0.out); rintro e w' ⟨rfl, ⟨nd, rfl⟩⟩; (try first | exact ⟨rfl, _, World.drewN_drewN _ _ _⟩ | exact ⟨rfl, _, Eq.trans (World.drewN_drewN _ _ _) (congrArg (World.drewN _) (Nat.add_assoc _ _ _))⟩)) | (go_at_call 25; (with_reducible refine (rf_Ints.calls kj2 _ _ y434 _ _ l1 t442 _ ?side1 ?side2 ?side3 ?side4 A21.out).mono ?_); (case side1 => repeat (first | exact (Kd.R_reads' HO436.out).2.2 | (with_reducible refine Kd.C_alloc ?_ _) | (with_reducible refine Kd.C_drewN ?_ _) | (with_reducible refine Kd.C_drew ?_))); (case side2 => exact (Kd.R_reads' HO436.out).2.1); (case side3 => repeat (first | exact (Kd.C_below HR1.out (by repeat (first | (with_reducible first | exact HB.out | apply below_alloc | apply pw_below_drewN | apply below_drew1) | exact HB.out))) | (with_reducible refine Kd.C_alloc ?_ _) | (with_reducible refine Kd.C_drewN ?_ _) | (with_reducible refine Kd.C_drew ?_))); (case side4 => exact HC1.out); rintro e w' ⟨rfl, ⟨nd, rfl⟩⟩; (try first | exact ⟨rfl, _, World.drewN_drewN _ _ _⟩ | exact ⟨rfl, _, Eq.trans (World.drewN_drewN _ _ _) (congrArg (World.drewN _) (Nat.add_assoc _ _ _))⟩)))
       repeat (go_quiet (first | (go_at_call 30; (with_reducible refine (rf_Same.calls kj2 _ _ t428 _ _ l0 true _ ?side1 ?side2 ?side3 ?side4 A19.out).mono ?_); (case side1 => repeat (first | exact (Kd.R_reads' HO430.out).2.2 | (with_reducible refine Kd.C_alloc ?_ _) | (with_reducible refine Kd.C_drewN ?_ _) | (with_reducible refine Kd.C_drew ?_))); (case side2 => exact (Kd.R_reads' HO430.out).2.1); (case side3 => repeat (first | exact (Kd.C_below HR0.out HB.out) | (with_reducible refine Kd.C_alloc ?_ _) | (with_reducible refine Kd.C_drewN ?_ _) | (with_reducible refine Kd.C_drew ?_))); (case side4 => exact HC0.out); rintro e w' ⟨rfl, ⟨nd, rfl⟩⟩; (try first | exact ⟨rfl, _, World.drewN_drewN _ _ _⟩ | exact ⟨rfl, _, Eq.trans (World.drewN_drewN _ _ _) (congrArg (World.drewN _) (Nat.add_assoc _ _ _))⟩)) | (go_at_call 25; (with_reducible refine (rf_Ints.calls kj2 _ _ y434 _ _ l1 t442 _ ?side1 ?side2 ?side3 ?side4 A21.out).mono ?_); (case side1 => repeat (first | exact (Kd.R_reads' HO436.out).2.2 | (with_reducible refine Kd.C_alloc ?_ _) | (with_reducible refine Kd.C_drewN ?_ _) | (with_reducible refine Kd.C_drew ?_))); (case side2 => exact (Kd.R_reads' HO436.out).2.1); (case side3 => repeat (first | exact (Kd.C_below HR1.out (by repeat (first | (with_reducible first | exact HB.out | apply below_alloc | apply pw_below_drewN | apply below_drew1) | exact HB.out))) | (with_reducible refine Kd.C_alloc ?_ _) | (with_reducible refine Kd.C_drewN ?_ _) | (with_reducible refine Kd.C_drew ?_))); (case side4 => exact HC1.out); rintro e w' ⟨rfl, ⟨nd, rfl⟩⟩; (try first | exact ⟨rfl, _, World.drewN_drewN _ _ _⟩ | exact ⟨rfl, _, Eq.trans (World.drewN_drewN _ _ _) (congrArg (World.drewN _) (Nat.add_assoc _ _ _))⟩))); try go_wp2_with (first | (go_at_call 30; (with_reducible refine (rf_Same.calls kj2 _ _ t428 _ _ l0 true _ ?side1 ?side2 ?side3 ?side4 A19.out).mono ?_); (case side1 => repeat (first | exact (Kd.R_reads' HO430.out).2.2 | (with_reducible refine Kd.C_alloc ?_ _) | (with_reducible refine Kd.C_drewN ?_ _) | (with_reducible refine Kd.C_drew ?_))); (case side2 => exact (Kd.R_reads' HO430.out).2.1); (case side3 => repeat (first | exact (Kd.C_below HR0.out HB.out) | (with_reducible refine Kd.C_alloc ?_ _) | (with_reducible refine Kd.C_drewN ?_ _) | (with_reducible refine Kd.C_drew ?_))); (case side4 => exact HC0.out); rintro e w' ⟨rfl, ⟨nd, rfl⟩⟩; (try first | exact ⟨rfl, _, World.drewN_drewN _ _ _⟩ | exact ⟨rfl, _, Eq.trans (World.drewN_drewN _ _ _) (congrArg (World.drewN _) (Nat.add_assoc _ _ _))⟩)) | (go_at_call 25; (with_reducible refine (rf_Ints.calls kj2 _ _ y434 _ _ l1 t442 _ ?side1 ?side2 ?side3 ?side4 A21.out).mono ?_); (case side1 => repeat (first | exact (Kd.R_reads' HO436.out).2.2 | (with_reducible refine Kd.C_alloc ?_ _) | (with_reducible refine Kd.C_drewN ?_ _) | (with_reducible refine Kd.C_drew ?_))); (case side2 => exact (Kd.R_reads' HO436.out).2.1); (case side3 => repeat (first | exact (Kd.C_below HR1.out (by repeat (first | (with_reducible first | exact HB.out | apply below_alloc | apply pw_below_drewN | apply below_drew1) | exact HB.out))) | (with_reducible refine Kd.C_alloc ?_ _) | (with_reducible refine Kd.C_drewN ?_ _) | (with_reducible refine Kd.C_drew ?_))); (case side4 => exact HC1.out); rintro e w' ⟨rfl, ⟨nd, rfl⟩⟩; (try first | exact ⟨rfl, _, World.drewN_drewN _ _ _⟩ | exact ⟨rfl, _, Eq.trans (World.drewN_drewN _ _ _) (congrArg (World.drewN _) (Nat.add_assoc _ _ _))⟩))))
       go_meet
       case rel => exact ⟨_, (!t442), (by first | rfl | (simp; done) | (simp [*]; done)), H', ⟨by have := HJ2.out; first | omega | exact Nat.le_refl _⟩, ⟨by (with_reducible repeat (first | apply Kd.R_alloc | apply Kd.R_drewN | apply Kd.R_drew)); exact HO440.out⟩, ⟨by repeat (first | (with_reducible first | exact HB.out | apply below_alloc | apply pw_below_drewN | apply below_drew1) | exact HB.out)⟩⟩
      ·replace c20 := Bool.eq_false_iff.mpr c20
       subst c20
       have H1 : (lw_FeeFills.j1 kj2 l0 l1 t437 t438 true) = some r := by rw [if_neg (show ¬ (false = true) by decide)] at H; exact H
       clear H; have H := H1
       clear H1; have H' := Aside0.mk H
       clear H; go_wp2_with (first | (go_at_call 30; (with_reducible refine (rf_Same.calls kj2 _ _ t428 _ _ l0 false _ ?side1 ?side2 ?side3 ?side4 A19.out).mono ?_); (case side1 => repeat (first | exact (Kd.R_reads' HO430.out).2.2 | (with_reducible refine Kd.C_alloc ?_ _) | (with_reducible refine Kd.C_drewN ?_ _) | (with_reducible refine Kd.C_drew ?_))); (case side2 => exact (Kd.R_reads' HO430.out).2.1); (case side3 => repeat (first | exact (Kd.C_below HR0.out HB.out) | (with_reducible refine Kd.C_alloc ?_ _) | (with_reducible refine Kd.C_drewN ?_ _) | (with_reducible refine Kd.C_drew ?_))); (case side4 => exact HC0.out); rintro e w' ⟨rfl, ⟨nd, rfl⟩⟩; (try first | exact ⟨rfl, _, World.drewN_drewN _ _ _⟩ | exact ⟨rfl, _, Eq.trans (World.drewN_drewN _ _ _) (congrArg (World.drewN _) (Nat.add_assoc _ _ _))⟩)))
       repeat (go_quiet (first | (go_at_call 30; (with_reducible refine (rf_Same.calls kj2 _ _ t428 _ _ l0 false _ ?side1 ?side2 ?side3 ?side4 A19.out).mono ?_); (case side1 => repeat (first | exact (Kd.R_reads' HO430.out).2.2 | (with_reducible refine Kd.C_alloc ?_ _) | (with_reducible refine Kd.C_drewN ?_ _) | (with_reducible refine Kd.C_drew ?_))); (case side2 => exact (Kd.R_reads' HO430.out).2.1); (case side3 => repeat (first | exact (Kd.C_below HR0.out HB.out) | (with_reducible refine Kd.C_alloc ?_ _) | (with_reducible refine Kd.C_drewN ?_ _) | (with_reducible refine Kd.C_drew ?_))); (case side4 => exact HC0.out); rintro e w' ⟨rfl, ⟨nd, rfl⟩⟩; (try first | exact ⟨rfl, _, World.drewN_drewN _ _ _⟩ | exact ⟨rfl, _, Eq.trans (World.drewN_drewN _ _ _) (congrArg (World.drewN _) (Nat.add_assoc _ _ _))⟩))); try go_wp2_with (first | (go_at_call 30; (with_reducible refine (rf_Same.calls kj2 _ _ t428 _ _ l0 false _ ?side1 ?side2 ?side3 ?side4 A19.out).mono ?_); (case side1 => repeat (first | exact (Kd.R_reads' HO430.out).2.2 | (with_reducible refine Kd.C_alloc ?_ _) | (with_reducible refine Kd.C_drewN ?_ _) | (with_reducible refine Kd.C_drew ?_))); (case side2 => exact (Kd.R_reads' HO430.out).2.1); (case side3 => repeat (first | exact (Kd.C_below HR0.out HB.out) | (with_reducible refine Kd.C_alloc ?_ _) | (with_reducible refine Kd.C_drewN ?_ _) | (with_reducible refine Kd.C_drew ?_))); (case side4 => exact HC0.out); rintro e w' ⟨rfl, ⟨nd, rfl⟩⟩; (try first | exact ⟨rfl, _, World.drewN_drewN _ _ _⟩ | exact ⟨rfl, _, Eq.trans (World.drewN_drewN _ _ _) (congrArg (World.drewN _) (Nat.add_assoc _ _ _))⟩))))
       go_meet
       case rel => exact ⟨_, (true), (by first | rfl | (simp; done) | (simp [*]; done)), H', ⟨by have := HJ2.out; first | omega | exact Nat.le_refl _⟩, ⟨by (with_reducible repeat (first | apply Kd.R_alloc | apply Kd.R_drewN | apply Kd.R_drew)); exact HO440.out⟩, ⟨by repeat (first | (with_reducible first | exact HB.out | apply below_alloc | apply pw_below_drewN | apply below_drew1) | exact HB.out)⟩⟩
     case rest =>
      clear HC11; try clear c1
      try clear c2
      try clear p2
      try clear c4
      try clear c4b0
      try clear c4b1
      try clear c5
      try clear c8
      try clear c9
      try clear c20
      try clear p2
      obtain ⟨kq, x42_10, rfl, HA, HJ10, HO_7, HB⟩ := hcut
      cases kq with
      | zero => exact absurd HA.out (by simp [lw_FeeFills.j1])
      | succ kj10 =>
       have H := HA.out
       clear HA; simp only [lw_FeeFills.j1] at H
       by_cases c22 : x42_10 = true
       ·subst c22
        have H1 : (some false) = some r := by rw [if_pos rfl] at H; exact H
        clear H; have H := H1
        clear H1; obtain rfl := Option.some.inj H
        go_wp2
        repeat (go_quiet (fail); try go_wp2)
        go_ret
        exact ⟨by first | rfl | (simp [errW_none, errW_some] <;> rfl) | (simp [*, errW_none, errW_some] <;> rfl), by repeat (first | (with_reducible first | exact HB.out | apply below_alloc | apply pw_below_drewN | apply below_drew1) | exact HB.out)⟩
       ·replace c22 := Bool.eq_false_iff.mpr c22
        subst c22
        have H1 : ((rf_Ledger.f kj10 l0 false).bind fun t443 => ((some (([] : List (S44)) : List (S44))).bind fun y444 => (if t443 = 0 then ((rf_Blots.f kj10 l0).bind fun t447 => (lw_FeeFills.j2 kj10 l0 l1 t437 t438 t443 y444 (decide ((t447.length : Int) > 3)))) else (lw_FeeFills.j2 kj10 l0 l1 t437 t438 t443 y444 false)))) = some r := by rw [if_neg (show ¬ (false = true) by decide)] at H; exact H
        clear H; have H := H1
        clear H1
        replace H := Option.bind_eq_some_iff.mp H
        obtain ⟨t443, A230, H⟩ := H
        replace H : ((some (([] : List (S44)) : List (S44))).bind fun y444 => (if t443 = 0 then ((rf_Blots.f kj10 l0).bind fun t447 => (lw_FeeFills.j2 kj10 l0 l1 t437 t438 t443 y444 (decide ((t447.length : Int) > 3)))) else (lw_FeeFills.j2 kj10 l0 l1 t437 t438 t443 y444 false))) = some r := H
        have A23 := Aside0.mk A230
        clear A230; obtain ⟨y444, hy444⟩ : ∃ y_ : List (S44), y_ = (([] : List (S44))) := ⟨_, rfl⟩
        replace H : (if t443 = 0 then ((rf_Blots.f kj10 l0).bind fun t447 => (lw_FeeFills.j2 kj10 l0 l1 t437 t438 t443 y444 (decide ((t447.length : Int) > 3)))) else (lw_FeeFills.j2 kj10 l0 l1 t437 t438 t443 y444 false)) = some r := by first | (rw [hy444]; with_reducible exact H) | (have H2_ := (Option.bind_some _ _).symm.trans H; rw [hy444]; with_reducible exact H2_) | (have H2_ := (Option.bind_some _ _).symm.trans H; with_reducible exact H2_) | with_reducible exact H | (rw [hy444]; exact H) | exact H
        have Ny444 := Aside0.mk hy444
        clear hy444; have HC24 := Aside0.mk H
        clear H; go_upto_region 8 with (first | (go_at_call 31; (with_reducible refine (rf_Ledger.calls kj10 _ _ l0 false t443 _ ?side1 ?side2 A23.out).mono ?_); (case side1 => repeat (first | exact (Kd.C_below HR0.out HB.out) | (with_reducible refine Kd.C_alloc ?_ _) | (with_reducible refine Kd.C_drewN ?_ _) | (with_reducible refine Kd.C_drew ?_))); (case side2 => exact HC0.out); rintro e w25 ⟨rfl, hb⟩; have n0_ := Aside0.mk (Kd.R_below (by (with_reducible repeat (first | apply Kd.R_alloc | apply Kd.R_drewN | apply Kd.R_drew)); exact HO_7.out) hb); have n1_ := Aside0.mk (below_step (by repeat (first | (with_reducible first | exact HB.out | apply below_alloc | apply pw_below_drewN | apply below_drew1) | exact HB.out)) hb); clear HO_7; clear HB; have HO_7 := n0_; have HB := n1_; clear n0_ n1_; (try clear hb); (try clear hb2); (try clear hk); (try clear hi)) | ((with_reducible refine gate_dst (N := 45) rfl ?_); (try (refine gate_guard (by rfl) ?_; dsimp only)); refine Kd.R_lit k44 _ 44 ?hg (N := 45) ?hd (xs := ([] : List (S44))) (inner := []) (ok := fun _ => True) (okp := fun _ => True) ?hr ?hp (fun _ hk => hk) trivial (Below.refl _ _) (Nat.le_refl _) (by simp) ?_; (case hd => rfl); (case hg => rfl); (case hr => first | (go_simp; done) | (go_simp; rfl)); (case hp => exact (Reps.none _ _)); intro v445 w26 ho27 hb hg_ hnew_; clear hg_ hnew_; (first | rw [← Ny444.out] at ho27 | (simp only [Int.reduceToNat] at ho27; rw [← Ny444.out] at ho27)); have n0_ := Aside0.mk (Kd.R_elder' (by (with_reducible repeat (first | apply Kd.R_alloc | apply Kd.R_drewN | apply Kd.R_drew)); exact HO_7.out) (Kd.R_base ho27) hb); have n1_ := Aside0.mk (Kd.R_lower (Kd.R_new' ho27 (Kd.R_lt (by (with_reducible repeat (first | apply Kd.R_alloc | apply Kd.R_drewN | apply Kd.R_drew)); exact HO_7.out))) (below_size (by repeat (first | (with_reducible first | exact HB.out | apply below_alloc | apply pw_below_drewN | apply below_drew1) | exact HB.out)))); have n2_ := Aside0.mk (below_step (by repeat (first | (with_reducible first | exact HB.out | apply below_alloc | apply pw_below_drewN | apply below_drew1) | exact HB.out)) hb); clear HO_7; clear HB; have HO_7 := n0_; have HO446 := n1_; have HB := n2_; clear n0_ n1_ n2_; clear hb ho27))
        repeat (go_quiet (first | (go_at_call 31; (with_reducible refine (rf_Ledger.calls kj10 _ _ l0 false t443 _ ?side1 ?side2 A23.out).mono ?_); (case side1 => repeat (first | exact (Kd.C_below HR0.out HB.out) | (with_reducible refine Kd.C_alloc ?_ _) | (with_reducible refine Kd.C_drewN ?_ _) | (with_reducible refine Kd.C_drew ?_))); (case side2 => exact HC0.out); rintro e w25 ⟨rfl, hb⟩; have n0_ := Aside0.mk (Kd.R_below (by (with_reducible repeat (first | apply Kd.R_alloc | apply Kd.R_drewN | apply Kd.R_drew)); exact HO_7.out) hb); have n1_ := Aside0.mk (below_step (by repeat (first | (with_reducible first | exact HB.out | apply below_alloc | apply pw_below_drewN | apply below_drew1) | exact HB.out)) hb); clear HO_7; clear HB; have HO_7 := n0_; have HB := n1_; clear n0_ n1_; (try clear hb); (try clear hb2); (try clear hk); (try clear hi)) | ((with_reducible refine gate_dst (N := 45) rfl ?_); (try (refine gate_guard (by rfl) ?_; dsimp only)); refine Kd.R_lit k44 _ 44 ?hg (N := 45) ?hd (xs := ([] : List (S44))) (inner := []) (ok := fun _ => True) (okp := fun _ => True) ?hr ?hp (fun _ hk => hk) trivial (Below.refl _ _) (Nat.le_refl _) (by simp) ?_; (case hd => rfl); (case hg => rfl); (case hr => first | (go_simp; done) | (go_simp; rfl)); (case hp => exact (Reps.none _ _)); intro v445 w26 ho27 hb hg_ hnew_; clear hg_ hnew_; (first | rw [← Ny444.out] at ho27 | (simp only [Int.reduceToNat] at ho27; rw [← Ny444.out] at ho27)); have n0_ := Aside0.mk (Kd.R_elder' (by (with_reducible repeat (first | apply Kd.R_alloc | apply Kd.R_drewN | apply Kd.R_drew)); exact HO_7.out) (Kd.R_base ho27) hb); have n1_ := Aside0.mk (Kd.R_lower (Kd.R_new' ho27 (Kd.R_lt (by (with_reducible repeat (first | apply Kd.R_alloc | apply Kd.R_drewN | apply Kd.R_drew)); exact HO_7.out))) (below_size (by repeat (first | (with_reducible first | exact HB.out | apply below_alloc | apply pw_below_drewN | apply below_drew1) | exact HB.out)))); have n2_ := Aside0.mk (below_step (by repeat (first | (with_reducible first | exact HB.out | apply below_alloc | apply pw_below_drewN | apply below_drew1) | exact HB.out)) hb); clear HO_7; clear HB; have HO_7 := n0_; have HO446 := n1_; have HB := n2_; clear n0_ n1_ n2_; clear hb ho27)); go_upto_region 8 with (first | (go_at_call 31; (with_reducible refine (rf_Ledger.calls kj10 _ _ l0 false t443 _ ?side1 ?side2 A23.out).mono ?_); (case side1 => repeat (first | exact (Kd.C_below HR0.out HB.out) | (with_reducible refine Kd.C_alloc ?_ _) | (with_reducible refine Kd.C_drewN ?_ _) | (with_reducible refine Kd.C_drew ?_))); (case side2 => exact HC0.out); rintro e w25 ⟨rfl, hb⟩; have n0_ := Aside0.mk (Kd.R_below (by (with_reducible repeat (first | apply Kd.R_alloc | apply Kd.R_drewN | apply Kd.R_drew)); exact HO_7.out) hb); have n1_ := Aside0.mk (below_step (by repeat (first | (with_reducible first | exact HB.out | apply below_alloc | apply pw_below_drewN | apply below_drew1) | exact HB.out)) hb); clear HO_7; clear HB; have HO_7 := n0_; have HB := n1_; clear n0_ n1_; (try clear hb); (try clear hb2); (try clear hk); (try clear hi)) | ((with_reducible refine gate_dst (N := 45) rfl ?_); (try (refine gate_guard (by rfl) ?_; dsimp only)); refine Kd.R_lit k44 _ 44 ?hg (N := 45) ?hd (xs := ([] : List (S44))) (inner := []) (ok := fun _ => True) (okp := fun _ => True) ?hr ?hp (fun _ hk => hk) trivial (Below.refl _ _) (Nat.le_refl _) (by simp) ?_; (case hd => rfl); (case hg => rfl); (case hr => first | (go_simp; done) | (go_simp; rfl)); (case hp => exact (Reps.none _ _)); intro v445 w26 ho27 hb hg_ hnew_; clear hg_ hnew_; (first | rw [← Ny444.out] at ho27 | (simp only [Int.reduceToNat] at ho27; rw [← Ny444.out] at ho27)); have n0_ := Aside0.mk (Kd.R_elder' (by (with_reducible repeat (first | apply Kd.R_alloc | apply Kd.R_drewN | apply Kd.R_drew)); exact HO_7.out) (Kd.R_base ho27) hb); have n1_ := Aside0.mk (Kd.R_lower (Kd.R_new' ho27 (Kd.R_lt (by (with_reducible repeat (first | apply Kd.R_alloc | apply Kd.R_drewN | apply Kd.R_drew)); exact HO_7.out))) (below_size (by repeat (first | (with_reducible first | exact HB.out | apply below_alloc | apply pw_below_drewN | apply below_drew1) | exact HB.out)))); have n2_ := Aside0.mk (below_step (by repeat (first | (with_reducible first | exact HB.out | apply below_alloc | apply pw_below_drewN | apply below_drew1) | exact HB.out)) hb); clear HO_7; clear HB; have HO_7 := n0_; have HO446 := n1_; have HB := n2_; clear n0_ n1_ n2_; clear hb ho27)))
        (try simp only [Act.put, List.setIfInBounds_toArray, List.set_cons_zero, List.set_cons_succ])
        go_cut [53] (fun v53 wc => ∃ (kq : Nat) (x53_23 : Bool), v53 = .bool x53_23 ∧ Aside0 (lw_FeeFills.j2 kq l0 l1 t437 t438 t443 y444 x53_23 = some r) ∧ Aside0 (kq ≤ kj10) ∧ Aside0 (Kd.R k44 44 wc w.heap.size (fun k_ => some k_ ≠ (v445 : Value).ownBlock) v439 t437) ∧ Aside0 (Kd.R k44 44 wc w.heap.size (fun k_ => some k_ ≠ (v439 : Value).ownBlock) v445 y444) ∧ Aside0 (Below w.heap.size w wc))
        case first =>
         have H := HC24.out
         clear HC24
         by_cases c28 : t443 = 0
         ·rw [if_pos c28] at H
          have c28b0 : (t443 == 0) = true := beq_iff_eq.mpr c28
          have c28b1 : (t443 != 0) = false := bne_eq_false_iff_eq.mpr c28
          clear c28
          (first | rw [c28b0] | (simp only [i64_w, i32_w]; rw [c28b0]) | skip)
          replace H := Option.bind_eq_some_iff.mp H
          obtain ⟨t447, A290, H⟩ := H
          replace H : (lw_FeeFills.j2 kj10 l0 l1 t437 t438 t443 y444 (decide ((t447.length : Int) > 3))) = some r := H
          have A29 := Aside0.mk A290
          clear A290; have H' := Aside0.mk H
          clear H; go_wp2_with (first | (go_at_call 40; (with_reducible refine (rf_Blots.calls kj10 _ _ l0 t447 _ ?side1 ?side2 A29.out).mono ?_); (case side1 => repeat (first | exact (Kd.C_below HR0.out HB.out) | (with_reducible refine Kd.C_alloc ?_ _) | (with_reducible refine Kd.C_drewN ?_ _) | (with_reducible refine Kd.C_drew ?_))); (case side2 => exact HC0.out); rintro e w30 ⟨v448, rfl, ho0, hb⟩; have n0_ := Aside0.mk (Kd.R_below (by (with_reducible repeat (first | apply Kd.R_alloc | apply Kd.R_drewN | apply Kd.R_drew)); exact HO_7.out) hb); have n1_ := Aside0.mk (Kd.R_below (by (with_reducible repeat (first | apply Kd.R_alloc | apply Kd.R_drewN | apply Kd.R_drew)); exact HO446.out) hb); have n2_ := Aside0.mk (Kd.R_lower ho0 (below_size (by repeat (first | (with_reducible first | exact HB.out | apply below_alloc | apply pw_below_drewN | apply below_drew1) | exact HB.out)))); have n3_ := Aside0.mk (below_step (by repeat (first | (with_reducible first | exact HB.out | apply below_alloc | apply pw_below_drewN | apply below_drew1) | exact HB.out)) hb); clear HO_7; clear HO446; clear HB; have HO_7 := n0_; have HO446 := n1_; have HO449 := n2_; have HB := n3_; clear n0_ n1_ n2_ n3_; (try clear hb); (try clear hb2); (try clear hk); (try clear hi); (try clear ho0); obtain ⟨Ao31, co31, eo31⟩ := Kd.R_slice HO449.out; subst eo31))
          repeat (go_quiet (first | (go_at_call 40; (with_reducible refine (rf_Blots.calls kj10 _ _ l0 t447 _ ?side1 ?side2 A29.out).mono ?_); (case side1 => repeat (first | exact (Kd.C_below HR0.out HB.out) | (with_reducible refine Kd.C_alloc ?_ _) | (with_reducible refine Kd.C_drewN ?_ _) | (with_reducible refine Kd.C_drew ?_))); (case side2 => exact HC0.out); rintro e w30 ⟨v448, rfl, ho0, hb⟩; have n0_ := Aside0.mk (Kd.R_below (by (with_reducible repeat (first | apply Kd.R_alloc | apply Kd.R_drewN | apply Kd.R_drew)); exact HO_7.out) hb); have n1_ := Aside0.mk (Kd.R_below (by (with_reducible repeat (first | apply Kd.R_alloc | apply Kd.R_drewN | apply Kd.R_drew)); exact HO446.out) hb); have n2_ := Aside0.mk (Kd.R_lower ho0 (below_size (by repeat (first | (with_reducible first | exact HB.out | apply below_alloc | apply pw_below_drewN | apply below_drew1) | exact HB.out)))); have n3_ := Aside0.mk (below_step (by repeat (first | (with_reducible first | exact HB.out | apply below_alloc | apply pw_below_drewN | apply below_drew1) | exact HB.out)) hb); clear HO_7; clear HO446; clear HB; have HO_7 := n0_; have HO446 := n1_; have HO449 := n2_; have HB := n3_; clear n0_ n1_ n2_ n3_; (try clear hb); (try clear hb2); (try clear hk); (try clear hi); (try clear ho0); obtain ⟨Ao31, co31, eo31⟩ := Kd.R_slice HO449.out; subst eo31)); try go_wp2_with (first | (go_at_call 40; (with_reducible refine (rf_Blots.calls kj10 _ _ l0 t447 _ ?side1 ?side2 A29.out).mono ?_); (case side1 => repeat (first | exact (Kd.C_below HR0.out HB.out) | (with_reducible refine Kd.C_alloc ?_ _) | (with_reducible refine Kd.C_drewN ?_ _) | (with_reducible refine Kd.C_drew ?_))); (case side2 => exact HC0.out); rintro e w30 ⟨v448, rfl, ho0, hb⟩; have n0_ := Aside0.mk (Kd.R_below (by (with_reducible repeat (first | apply Kd.R_alloc | apply Kd.R_drewN | apply Kd.R_drew)); exact HO_7.out) hb); have n1_ := Aside0.mk (Kd.R_below (by (with_reducible repeat (first | apply Kd.R_alloc | apply Kd.R_drewN | apply Kd.R_drew)); exact HO446.out) hb); have n2_ := Aside0.mk (Kd.R_lower ho0 (below_size (by repeat (first | (with_reducible first | exact HB.out | apply below_alloc | apply pw_below_drewN | apply below_drew1) | exact HB.out)))); have n3_ := Aside0.mk (below_step (by repeat (first | (with_reducible first | exact HB.out | apply below_alloc | apply pw_below_drewN | apply below_drew1) | exact HB.out)) hb); clear HO_7; clear HO446; clear HB; have HO_7 := n0_; have HO446 := n1_; have HO449 := n2_; have HB := n3_; clear n0_ n1_ n2_ n3_; (try clear hb); (try clear hb2); (try clear hk); (try clear hi); (try clear ho0); obtain ⟨Ao31, co31, eo31⟩ := Kd.R_slice HO449.out; subst eo31)))
          go_meet
          case rel => exact ⟨_, (decide ((t447.length : Int) > 3)), (by first | rfl | (simp; done) | (simp [*]; done)), H', ⟨by have := HJ2.out; have := HJ10.out; first | omega | exact Nat.le_refl _⟩, ⟨by (with_reducible repeat (first | apply Kd.R_alloc | apply Kd.R_drewN | apply Kd.R_drew)); exact Kd.R_mono HO_7.out (fun _ hk => hk.2)⟩, ⟨by (with_reducible repeat (first | apply Kd.R_alloc | apply Kd.R_drewN | apply Kd.R_drew)); exact Kd.R_mono HO446.out (fun _ hk => hk.2)⟩, ⟨by repeat (first | (with_reducible first | exact HB.out | apply below_alloc | apply pw_below_drewN | apply below_drew1) | exact HB.out)⟩⟩
         ·rw [if_neg c28] at H
          have c28b0 : (t443 == 0) = false := beq_eq_false_iff_ne.mpr c28
          have c28b1 : (t443 != 0) = true := bne_iff_ne.mpr c28
          (first | rw [c28b0] | (simp only [i64_w, i32_w]; rw [c28b0]) | skip)
          have H' := Aside0.mk H
          clear H; go_wp2
          repeat (go_quiet (fail); try go_wp2)
          go_meet
          case rel => exact ⟨_, (false), (by first | rfl | (simp; done) | (simp [*]; done)), H', ⟨by have := HJ2.out; have := HJ10.out; first | omega | exact Nat.le_refl _⟩, ⟨by (with_reducible repeat (first | apply Kd.R_alloc | apply Kd.R_drewN | apply Kd.R_drew)); exact Kd.R_mono HO_7.out (fun _ hk => hk.2)⟩, ⟨by (with_reducible repeat (first | apply Kd.R_alloc | apply Kd.R_drewN | apply Kd.R_drew)); exact Kd.R_mono HO446.out (fun _ hk => hk.2)⟩, ⟨by repeat (first | (with_reducible first | exact HB.out | apply below_alloc | apply pw_below_drewN | apply below_drew1) | exact HB.out)⟩⟩
        case rest =>
         clear HC24; try clear c1
         try clear c2
         try clear p2
         try clear c4
         try clear c4b0
         try clear c4b1
         try clear c5
         try clear c8
         try clear c9
         try clear c20
         try clear c22
         try clear c28
         try clear c28b0
         try clear c28b1
         try clear p2
         obtain ⟨kq, x53_23, rfl, HA, HJ23, HO_7, HO_10, HB⟩ := hcut
         cases kq with
         | zero => exact absurd HA.out (by simp [lw_FeeFills.j2])
         | succ kj23 =>
          have H := HA.out
          clear HA; simp only [lw_FeeFills.j2] at H
          have HC32 := Aside0.mk H
          clear H; go_upto_if 53 with (fail)
          repeat (go_quiet (fail); go_upto_if 53 with (fail))
          go_cut [9] (fun v9 wc => ∃ (kq : Nat) (x9_31 : Int), v9 = .int .i64 x9_31 ∧ Aside0 (lw_FeeFills.j3 kq l0 l1 t437 t438 x9_31 y444 = some r) ∧ Aside0 (kq ≤ kj23) ∧ Aside0 (Kd.R k44 44 wc w.heap.size (fun k_ => some k_ ≠ (v445 : Value).ownBlock) v439 t437) ∧ Aside0 (Kd.R k44 44 wc w.heap.size (fun k_ => some k_ ≠ (v439 : Value).ownBlock) v445 y444) ∧ Aside0 (Below w.heap.size w wc))
          case first =>
           have H := HC32.out
           clear HC32
           by_cases c33 : x53_23 = true
           ·subst c33
            have H1 : (lw_FeeFills.j3 kj23 l0 l1 t437 t438 8 y444) = some r := by rw [if_pos rfl] at H; exact H
            clear H; have H := H1
            clear H1; have H' := Aside0.mk H
            clear H; go_wp2
            repeat (go_quiet (fail); try go_wp2)
            go_meet
            case rel => exact ⟨_, (8), (by first | rfl | (simp; done) | (simp [*]; done)), H', ⟨by have := HJ2.out; have := HJ10.out; have := HJ23.out; first | omega | exact Nat.le_refl _⟩, ⟨by (with_reducible repeat (first | apply Kd.R_alloc | apply Kd.R_drewN | apply Kd.R_drew)); exact HO_7.out⟩, ⟨by (with_reducible repeat (first | apply Kd.R_alloc | apply Kd.R_drewN | apply Kd.R_drew)); exact HO_10.out⟩, ⟨by repeat (first | (with_reducible first | exact HB.out | apply below_alloc | apply pw_below_drewN | apply below_drew1) | exact HB.out)⟩⟩
           ·replace c33 := Bool.eq_false_iff.mpr c33
            subst c33
            have H1 : (lw_FeeFills.j3 kj23 l0 l1 t437 t438 t443 y444) = some r := by rw [if_neg (show ¬ (false = true) by decide)] at H; exact H
            clear H; have H := H1
            clear H1; have H' := Aside0.mk H
            clear H; go_wp2
            repeat (go_quiet (fail); try go_wp2)
            go_meet
            case rel => exact ⟨_, (t443), (by first | rfl | (simp; done) | (simp [*]; done)), H', ⟨by have := HJ2.out; have := HJ10.out; have := HJ23.out; first | omega | exact Nat.le_refl _⟩, ⟨by (with_reducible repeat (first | apply Kd.R_alloc | apply Kd.R_drewN | apply Kd.R_drew)); exact HO_7.out⟩, ⟨by (with_reducible repeat (first | apply Kd.R_alloc | apply Kd.R_drewN | apply Kd.R_drew)); exact HO_10.out⟩, ⟨by repeat (first | (with_reducible first | exact HB.out | apply below_alloc | apply pw_below_drewN | apply below_drew1) | exact HB.out)⟩⟩
          case rest =>
           clear HC32; try clear c1
           try clear c2
           try clear p2
           try clear c3
           try clear c4
           try clear c4b0
           try clear c4b1
           try clear c5
           try clear c8
           try clear c9
           try clear c20
           try clear c22
           try clear c28
           try clear c28b0
           try clear c28b1
           try clear c33
           try clear p2
           obtain ⟨kq, x9_31, rfl, HA, HJ31, HO_7, HO_10, HB⟩ := hcut
           cases kq with
           | zero => exact absurd HA.out (by simp [lw_FeeFills.j3])
           | succ kj31 =>
            have H := HA.out
            clear HA; simp only [lw_FeeFills.j3] at H
            have HC34 := Aside0.mk H
            clear H; go_upto_region 10 with (fail)
            repeat (go_quiet (fail); go_upto_region 10 with (fail))
            go_cut [60] (fun v60 wc => ∃ (kq : Nat) (x60_33 : Bool), v60 = .bool x60_33 ∧ Aside0 (lw_FeeFills.j4 kq l0 l1 t437 t438 x9_31 y444 x60_33 = some r) ∧ Aside0 (kq ≤ kj31) ∧ Aside0 (Kd.R k44 44 wc w.heap.size (fun k_ => some k_ ≠ (v445 : Value).ownBlock) v439 t437) ∧ Aside0 (Kd.R k44 44 wc w.heap.size (fun k_ => some k_ ≠ (v439 : Value).ownBlock) v445 y444) ∧ Aside0 (Below w.heap.size w wc))
            case first =>
             have H := HC34.out
             clear HC34
             by_cases c35 : x9_31 = 0
             ·rw [if_pos c35] at H
              have c35b0 : (x9_31 == 0) = true := beq_iff_eq.mpr c35
              have c35b1 : (x9_31 != 0) = false := bne_eq_false_iff_eq.mpr c35
              clear c35
              (first | rw [c35b0] | (simp only [i64_w, i32_w]; rw [c35b0]) | skip)
              replace H := Option.bind_eq_some_iff.mp H
              obtain ⟨t450, A360, H⟩ := H
              replace H : (lw_FeeFills.j4 kj31 l0 l1 t437 t438 x9_31 y444 (!t450)) = some r := H
              have A36 := Aside0.mk A360
              clear A360; have H' := Aside0.mk H
              clear H; go_wp2_with (first | (go_at_call 37; (with_reducible refine (rf_Valid.calls kj31 _ _ l1 t450 _ ?side1 ?side2 A36.out).mono ?_); (case side1 => repeat (first | exact (Kd.C_below HR1.out HB.out) | (with_reducible refine Kd.C_alloc ?_ _) | (with_reducible refine Kd.C_drewN ?_ _) | (with_reducible refine Kd.C_drew ?_))); (case side2 => exact HC1.out); rintro e w' ⟨rfl, ⟨nd, rfl⟩⟩; (try first | exact ⟨rfl, _, World.drewN_drewN _ _ _⟩ | exact ⟨rfl, _, Eq.trans (World.drewN_drewN _ _ _) (congrArg (World.drewN _) (Nat.add_assoc _ _ _))⟩)))
              repeat (go_quiet (first | (go_at_call 37; (with_reducible refine (rf_Valid.calls kj31 _ _ l1 t450 _ ?side1 ?side2 A36.out).mono ?_); (case side1 => repeat (first | exact (Kd.C_below HR1.out HB.out) | (with_reducible refine Kd.C_alloc ?_ _) | (with_reducible refine Kd.C_drewN ?_ _) | (with_reducible refine Kd.C_drew ?_))); (case side2 => exact HC1.out); rintro e w' ⟨rfl, ⟨nd, rfl⟩⟩; (try first | exact ⟨rfl, _, World.drewN_drewN _ _ _⟩ | exact ⟨rfl, _, Eq.trans (World.drewN_drewN _ _ _) (congrArg (World.drewN _) (Nat.add_assoc _ _ _))⟩))); try go_wp2_with (first | (go_at_call 37; (with_reducible refine (rf_Valid.calls kj31 _ _ l1 t450 _ ?side1 ?side2 A36.out).mono ?_); (case side1 => repeat (first | exact (Kd.C_below HR1.out HB.out) | (with_reducible refine Kd.C_alloc ?_ _) | (with_reducible refine Kd.C_drewN ?_ _) | (with_reducible refine Kd.C_drew ?_))); (case side2 => exact HC1.out); rintro e w' ⟨rfl, ⟨nd, rfl⟩⟩; (try first | exact ⟨rfl, _, World.drewN_drewN _ _ _⟩ | exact ⟨rfl, _, Eq.trans (World.drewN_drewN _ _ _) (congrArg (World.drewN _) (Nat.add_assoc _ _ _))⟩))))
              go_meet
              case rel => exact ⟨_, (!t450), (by first | rfl | (simp; done) | (simp [*]; done)), H', ⟨by have := HJ2.out; have := HJ10.out; have := HJ23.out; have := HJ31.out; first | omega | exact Nat.le_refl _⟩, ⟨by (with_reducible repeat (first | apply Kd.R_alloc | apply Kd.R_drewN | apply Kd.R_drew)); exact HO_7.out⟩, ⟨by (with_reducible repeat (first | apply Kd.R_alloc | apply Kd.R_drewN | apply Kd.R_drew)); exact HO_10.out⟩, ⟨by repeat (first | (with_reducible first | exact HB.out | apply below_alloc | apply pw_below_drewN | apply below_drew1) | exact HB.out)⟩⟩
             ·rw [if_neg c35] at H
              have c35b0 : (x9_31 == 0) = false := beq_eq_false_iff_ne.mpr c35
              have c35b1 : (x9_31 != 0) = true := bne_iff_ne.mpr c35
              (first | rw [c35b0] | (simp only [i64_w, i32_w]; rw [c35b0]) | skip)
              have H' := Aside0.mk H
              clear H; go_wp2
              repeat (go_quiet (fail); try go_wp2)
              go_meet
              case rel => exact ⟨_, (false), (by first | rfl | (simp; done) | (simp [*]; done)), H', ⟨by have := HJ2.out; have := HJ10.out; have := HJ23.out; have := HJ31.out; first | omega | exact Nat.le_refl _⟩, ⟨by (with_reducible repeat (first | apply Kd.R_alloc | apply Kd.R_drewN | apply Kd.R_drew)); exact HO_7.out⟩, ⟨by (with_reducible repeat (first | apply Kd.R_alloc | apply Kd.R_drewN | apply Kd.R_drew)); exact HO_10.out⟩, ⟨by repeat (first | (with_reducible first | exact HB.out | apply below_alloc | apply pw_below_drewN | apply below_drew1) | exact HB.out)⟩⟩
            case rest =>
             clear HC34; try clear c1
             try clear c2
             try clear p2
             try clear c3
             try clear c4
             try clear c4b0
             try clear c4b1
             try clear c5
             try clear c8
             try clear c9
             try clear c20
             try clear c22
             try clear c28
             try clear c28b0
             try clear c28b1
             try clear c33
             try clear c35
             try clear c35b0
             try clear c35b1
             try clear p2
             obtain ⟨kq, x60_33, rfl, HA, HJ33, HO_7, HO_10, HB⟩ := hcut
             cases kq with
             | zero => exact absurd HA.out (by simp [lw_FeeFills.j4])
             | succ kj33 =>
              have H := HA.out
              clear HA; simp only [lw_FeeFills.j4] at H
              have HC37 := Aside0.mk H
              clear H; go_upto_if 60 with (fail)
              repeat (go_quiet (fail); go_upto_if 60 with (fail))
              go_cut [9] (fun v9 wc => ∃ (kq : Nat) (x9_36 : Int), v9 = .int .i64 x9_36 ∧ Aside0 (lw_FeeFills.j5 kq l0 l1 t437 t438 x9_36 y444 = some r) ∧ Aside0 (kq ≤ kj33) ∧ Aside0 (Kd.R k44 44 wc w.heap.size (fun k_ => some k_ ≠ (v445 : Value).ownBlock) v439 t437) ∧ Aside0 (Kd.R k44 44 wc w.heap.size (fun k_ => some k_ ≠ (v439 : Value).ownBlock) v445 y444) ∧ Aside0 (Below w.heap.size w wc))
              case first =>
               have H := HC37.out
               clear HC37
               by_cases c38 : x60_33 = true
               ·subst c38
                have H1 : (lw_FeeFills.j5 kj33 l0 l1 t437 t438 4 y444) = some r := by rw [if_pos rfl] at H; exact H
                clear H; have H := H1
                clear H1; have H' := Aside0.mk H
                clear H; go_wp2
                repeat (go_quiet (fail); try go_wp2)
                go_meet
                case rel => exact ⟨_, (4), (by first | rfl | (simp; done) | (simp [*]; done)), H', ⟨by have := HJ2.out; have := HJ10.out; have := HJ23.out; have := HJ31.out; have := HJ33.out; first | omega | exact Nat.le_refl _⟩, ⟨by (with_reducible repeat (first | apply Kd.R_alloc | apply Kd.R_drewN | apply Kd.R_drew)); exact HO_7.out⟩, ⟨by (with_reducible repeat (first | apply Kd.R_alloc | apply Kd.R_drewN | apply Kd.R_drew)); exact HO_10.out⟩, ⟨by repeat (first | (with_reducible first | exact HB.out | apply below_alloc | apply pw_below_drewN | apply below_drew1) | exact HB.out)⟩⟩
               ·replace c38 := Bool.eq_false_iff.mpr c38
                subst c38
                have H1 : (lw_FeeFills.j5 kj33 l0 l1 t437 t438 x9_31 y444) = some r := by rw [if_neg (show ¬ (false = true) by decide)] at H; exact H
                clear H; have H := H1
                clear H1; have H' := Aside0.mk H
                clear H; go_wp2
                repeat (go_quiet (fail); try go_wp2)
                go_meet
                case rel => exact ⟨_, (x9_31), (by first | rfl | (simp; done) | (simp [*]; done)), H', ⟨by have := HJ2.out; have := HJ10.out; have := HJ23.out; have := HJ31.out; have := HJ33.out; first | omega | exact Nat.le_refl _⟩, ⟨by (with_reducible repeat (first | apply Kd.R_alloc | apply Kd.R_drewN | apply Kd.R_drew)); exact HO_7.out⟩, ⟨by (with_reducible repeat (first | apply Kd.R_alloc | apply Kd.R_drewN | apply Kd.R_drew)); exact HO_10.out⟩, ⟨by repeat (first | (with_reducible first | exact HB.out | apply below_alloc | apply pw_below_drewN | apply below_drew1) | exact HB.out)⟩⟩
              case rest =>
               clear HC37; try clear c1
               try clear c2
               try clear p2
               try clear c3
               try clear c4
               try clear c4b0
               try clear c4b1
               try clear c5
               try clear c8
               try clear c9
               try clear c20
               try clear c22
               try clear c28
               try clear c28b0
               try clear c28b1
               try clear c33
               try clear c35
               try clear c35b0
               try clear c35b1
               try clear c38
               try clear p2
               obtain ⟨kq, x9_36, rfl, HA, HJ36, HO_7, HO_10, HB⟩ := hcut
               cases kq with
               | zero => exact absurd HA.out (by simp [lw_FeeFills.j5])
               | succ kj36 =>
                have H := HA.out
                clear HA; simp only [lw_FeeFills.j5] at H
                have HC39 := Aside0.mk H
                clear H; go_upto_if 62 with (fail)
                repeat (go_quiet (fail); go_upto_if 62 with (fail))
                go_cut [9, 10] (fun v9 v10 wc => ∃ (kq : Nat) (x9_38 : Int) (x10_38 : List (S44)), v9 = .int .i64 x9_38 ∧ Aside0 (lw_FeeFills.j6 kq t437 t438 x9_38 x10_38 = some r) ∧ Aside0 (kq ≤ kj36) ∧ Aside0 (Kd.R k44 44 wc w.heap.size (fun k_ => some k_ ≠ (v10 : Value).ownBlock) v439 t437) ∧ Aside0 (Kd.R k44 44 wc w.heap.size (fun k_ => some k_ ≠ (v439 : Value).ownBlock) v10 x10_38) ∧ Aside0 (Below w.heap.size w wc))
                case first =>
                 have H := HC39.out
                 clear HC39
                 by_cases c40 : x9_36 = 0
                 ·rw [if_pos c40] at H
                  have c40b0 : (x9_36 == 0) = true := beq_iff_eq.mpr c40
                  have c40b1 : (x9_36 != 0) = false := bne_eq_false_iff_eq.mpr c40
                  clear c40
                  (first | rw [c40b0] | (simp only [i64_w, i32_w]; rw [c40b0]) | skip)
                  replace H := Option.bind_eq_some_iff.mp H
                  obtain ⟨⟨t451, t452⟩, A410, H⟩ := H
                  replace H : (if t452 = true then (lw_FeeFills.j6 kj36 t437 t438 x9_36 t451) else (lw_FeeFills.j6 kj36 t437 t438 9 t451)) = some r := H
                  have A41 := Aside0.mk A410
                  clear A410
                  by_cases c42 : t452 = true
                  ·subst c42
                   have H1 : (lw_FeeFills.j6 kj36 t437 t438 x9_36 t451) = some r := by rw [if_pos rfl] at H; exact H
                   clear H; have H := H1
                   clear H1; have H' := Aside0.mk H
                   clear H; go_wp2_with (first | (go_at_call 41; (with_reducible refine (rf_Fill.calls kj36 _ _ l0 _ _ l1 t451 true _ ?side1 ?side2 ?side3 ?side4 A41.out).mono ?_); (case side1 => repeat (first | exact (Kd.C_below HR0.out HB.out) | (with_reducible refine Kd.C_alloc ?_ _) | (with_reducible refine Kd.C_drewN ?_ _) | (with_reducible refine Kd.C_drew ?_))); (case side2 => exact HC0.out); (case side3 => repeat (first | exact (Kd.C_below HR1.out HB.out) | (with_reducible refine Kd.C_alloc ?_ _) | (with_reducible refine Kd.C_drewN ?_ _) | (with_reducible refine Kd.C_drew ?_))); (case side4 => exact HC1.out); rintro e w43 ⟨v453, rfl, ho0, hb⟩; have n0_ := Aside0.mk (Kd.R_elder' (by (with_reducible repeat (first | apply Kd.R_alloc | apply Kd.R_drewN | apply Kd.R_drew)); exact HO_7.out) (Kd.R_base ho0) hb); have n1_ := Aside0.mk (Kd.R_elder' (by (with_reducible repeat (first | apply Kd.R_alloc | apply Kd.R_drewN | apply Kd.R_drew)); exact HO_10.out) (Kd.R_base ho0) hb); have n2_ := Aside0.mk (Kd.R_lower (Kd.R_new' (Kd.R_new' ho0 (Kd.R_lt (by (with_reducible repeat (first | apply Kd.R_alloc | apply Kd.R_drewN | apply Kd.R_drew)); exact HO_7.out))) (Kd.R_lt (by (with_reducible repeat (first | apply Kd.R_alloc | apply Kd.R_drewN | apply Kd.R_drew)); exact HO_10.out))) (below_size (by repeat (first | (with_reducible first | exact HB.out | apply below_alloc | apply pw_below_drewN | apply below_drew1) | exact HB.out)))); have n3_ := Aside0.mk (below_step (by repeat (first | (with_reducible first | exact HB.out | apply below_alloc | apply pw_below_drewN | apply below_drew1) | exact HB.out)) hb); clear HO_7; clear HO_10; clear HB; have HO_7 := n0_; have HO_10 := n1_; have HO454 := n2_; have HB := n3_; clear n0_ n1_ n2_ n3_; (try clear hb); (try clear hb2); (try clear hk); (try clear hi); (try clear ho0)))
                   repeat (go_quiet (first | (go_at_call 41; (with_reducible refine (rf_Fill.calls kj36 _ _ l0 _ _ l1 t451 true _ ?side1 ?side2 ?side3 ?side4 A41.out).mono ?_); (case side1 => repeat (first | exact (Kd.C_below HR0.out HB.out) | (with_reducible refine Kd.C_alloc ?_ _) | (with_reducible refine Kd.C_drewN ?_ _) | (with_reducible refine Kd.C_drew ?_))); (case side2 => exact HC0.out); (case side3 => repeat (first | exact (Kd.C_below HR1.out HB.out) | (with_reducible refine Kd.C_alloc ?_ _) | (with_reducible refine Kd.C_drewN ?_ _) | (with_reducible refine Kd.C_drew ?_))); (case side4 => exact HC1.out); rintro e w43 ⟨v453, rfl, ho0, hb⟩; have n0_ := Aside0.mk (Kd.R_elder' (by (with_reducible repeat (first | apply Kd.R_alloc | apply Kd.R_drewN | apply Kd.R_drew)); exact HO_7.out) (Kd.R_base ho0) hb); have n1_ := Aside0.mk (Kd.R_elder' (by (with_reducible repeat (first | apply Kd.R_alloc | apply Kd.R_drewN | apply Kd.R_drew)); exact HO_10.out) (Kd.R_base ho0) hb); have n2_ := Aside0.mk (Kd.R_lower (Kd.R_new' (Kd.R_new' ho0 (Kd.R_lt (by (with_reducible repeat (first | apply Kd.R_alloc | apply Kd.R_drewN | apply Kd.R_drew)); exact HO_7.out))) (Kd.R_lt (by (with_reducible repeat (first | apply Kd.R_alloc | apply Kd.R_drewN | apply Kd.R_drew)); exact HO_10.out))) (below_size (by repeat (first | (with_reducible first | exact HB.out | apply below_alloc | apply pw_below_drewN | apply below_drew1) | exact HB.out)))); have n3_ := Aside0.mk (below_step (by repeat (first | (with_reducible first | exact HB.out | apply below_alloc | apply pw_below_drewN | apply below_drew1) | exact HB.out)) hb); clear HO_7; clear HO_10; clear HB; have HO_7 := n0_; have HO_10 := n1_; have HO454 := n2_; have HB := n3_; clear n0_ n1_ n2_ n3_; (try clear hb); (try clear hb2); (try clear hk); (try clear hi); (try clear ho0))); try go_wp2_with (first | (go_at_call 41; (with_reducible refine (rf_Fill.calls kj36 _ _ l0 _ _ l1 t451 true _ ?side1 ?side2 ?side3 ?side4 A41.out).mono ?_); (case side1 => repeat (first | exact (Kd.C_below HR0.out HB.out) | (with_reducible refine Kd.C_alloc ?_ _) | (with_reducible refine Kd.C_drewN ?_ _) | (with_reducible refine Kd.C_drew ?_))); (case side2 => exact HC0.out); (case side3 => repeat (first | exact (Kd.C_below HR1.out HB.out) | (with_reducible refine Kd.C_alloc ?_ _) | (with_reducible refine Kd.C_drewN ?_ _) | (with_reducible refine Kd.C_drew ?_))); (case side4 => exact HC1.out); rintro e w43 ⟨v453, rfl, ho0, hb⟩; have n0_ := Aside0.mk (Kd.R_elder' (by (with_reducible repeat (first | apply Kd.R_alloc | apply Kd.R_drewN | apply Kd.R_drew)); exact HO_7.out) (Kd.R_base ho0) hb); have n1_ := Aside0.mk (Kd.R_elder' (by (with_reducible repeat (first | apply Kd.R_alloc | apply Kd.R_drewN | apply Kd.R_drew)); exact HO_10.out) (Kd.R_base ho0) hb); have n2_ := Aside0.mk (Kd.R_lower (Kd.R_new' (Kd.R_new' ho0 (Kd.R_lt (by (with_reducible repeat (first | apply Kd.R_alloc | apply Kd.R_drewN | apply Kd.R_drew)); exact HO_7.out))) (Kd.R_lt (by (with_reducible repeat (first | apply Kd.R_alloc | apply Kd.R_drewN | apply Kd.R_drew)); exact HO_10.out))) (below_size (by repeat (first | (with_reducible first | exact HB.out | apply below_alloc | apply pw_below_drewN | apply below_drew1) | exact HB.out)))); have n3_ := Aside0.mk (below_step (by repeat (first | (with_reducible first | exact HB.out | apply below_alloc | apply pw_below_drewN | apply below_drew1) | exact HB.out)) hb); clear HO_7; clear HO_10; clear HB; have HO_7 := n0_; have HO_10 := n1_; have HO454 := n2_; have HB := n3_; clear n0_ n1_ n2_ n3_; (try clear hb); (try clear hb2); (try clear hk); (try clear hi); (try clear ho0))))
                   go_meet
                   case rel => exact ⟨_, (x9_36), (t451), (by first | rfl | (simp; done) | (simp [*]; done)), H', ⟨by have := HJ2.out; have := HJ10.out; have := HJ23.out; have := HJ31.out; have := HJ33.out; have := HJ36.out; first | omega | exact Nat.le_refl _⟩, ⟨by (with_reducible repeat (first | apply Kd.R_alloc | apply Kd.R_drewN | apply Kd.R_drew)); exact Kd.R_mono HO_7.out (fun _ hk => hk.2)⟩, ⟨by (with_reducible repeat (first | apply Kd.R_alloc | apply Kd.R_drewN | apply Kd.R_drew)); exact Kd.R_mono HO454.out (fun _ hk => hk.1.2)⟩, ⟨by repeat (first | (with_reducible first | exact HB.out | apply below_alloc | apply pw_below_drewN | apply below_drew1) | exact HB.out)⟩⟩
                  ·replace c42 := Bool.eq_false_iff.mpr c42
                   subst c42
                   have H1 : (lw_FeeFills.j6 kj36 t437 t438 9 t451) = some r := by rw [if_neg (show ¬ (false = true) by decide)] at H; exact H
                   clear H; have H := H1
                   clear H1; have H' := Aside0.mk H
                   clear H; go_wp2_with (first | (go_at_call 41; (with_reducible refine (rf_Fill.calls kj36 _ _ l0 _ _ l1 t451 false _ ?side1 ?side2 ?side3 ?side4 A41.out).mono ?_); (case side1 => repeat (first | exact (Kd.C_below HR0.out HB.out) | (with_reducible refine Kd.C_alloc ?_ _) | (with_reducible refine Kd.C_drewN ?_ _) | (with_reducible refine Kd.C_drew ?_))); (case side2 => exact HC0.out); (case side3 => repeat (first | exact (Kd.C_below HR1.out HB.out) | (with_reducible refine Kd.C_alloc ?_ _) | (with_reducible refine Kd.C_drewN ?_ _) | (with_reducible refine Kd.C_drew ?_))); (case side4 => exact HC1.out); rintro e w44 ⟨v453, rfl, ho0, hb⟩; have n0_ := Aside0.mk (Kd.R_elder' (by (with_reducible repeat (first | apply Kd.R_alloc | apply Kd.R_drewN | apply Kd.R_drew)); exact HO_7.out) (Kd.R_base ho0) hb); have n1_ := Aside0.mk (Kd.R_elder' (by (with_reducible repeat (first | apply Kd.R_alloc | apply Kd.R_drewN | apply Kd.R_drew)); exact HO_10.out) (Kd.R_base ho0) hb); have n2_ := Aside0.mk (Kd.R_lower (Kd.R_new' (Kd.R_new' ho0 (Kd.R_lt (by (with_reducible repeat (first | apply Kd.R_alloc | apply Kd.R_drewN | apply Kd.R_drew)); exact HO_7.out))) (Kd.R_lt (by (with_reducible repeat (first | apply Kd.R_alloc | apply Kd.R_drewN | apply Kd.R_drew)); exact HO_10.out))) (below_size (by repeat (first | (with_reducible first | exact HB.out | apply below_alloc | apply pw_below_drewN | apply below_drew1) | exact HB.out)))); have n3_ := Aside0.mk (below_step (by repeat (first | (with_reducible first | exact HB.out | apply below_alloc | apply pw_below_drewN | apply below_drew1) | exact HB.out)) hb); clear HO_7; clear HO_10; clear HB; have HO_7 := n0_; have HO_10 := n1_; have HO454 := n2_; have HB := n3_; clear n0_ n1_ n2_ n3_; (try clear hb); (try clear hb2); (try clear hk); (try clear hi); (try clear ho0)))
                   repeat (go_quiet (first | (go_at_call 41; (with_reducible refine (rf_Fill.calls kj36 _ _ l0 _ _ l1 t451 false _ ?side1 ?side2 ?side3 ?side4 A41.out).mono ?_); (case side1 => repeat (first | exact (Kd.C_below HR0.out HB.out) | (with_reducible refine Kd.C_alloc ?_ _) | (with_reducible refine Kd.C_drewN ?_ _) | (with_reducible refine Kd.C_drew ?_))); (case side2 => exact HC0.out); (case side3 => repeat (first | exact (Kd.C_below HR1.out HB.out) | (with_reducible refine Kd.C_alloc ?_ _) | (with_reducible refine Kd.C_drewN ?_ _) | (with_reducible refine Kd.C_drew ?_))); (case side4 => exact HC1.out); rintro e w44 ⟨v453, rfl, ho0, hb⟩; have n0_ := Aside0.mk (Kd.R_elder' (by (with_reducible repeat (first | apply Kd.R_alloc | apply Kd.R_drewN | apply Kd.R_drew)); exact HO_7.out) (Kd.R_base ho0) hb); have n1_ := Aside0.mk (Kd.R_elder' (by (with_reducible repeat (first | apply Kd.R_alloc | apply Kd.R_drewN | apply Kd.R_drew)); exact HO_10.out) (Kd.R_base ho0) hb); have n2_ := Aside0.mk (Kd.R_lower (Kd.R_new' (Kd.R_new' ho0 (Kd.R_lt (by (with_reducible repeat (first | apply Kd.R_alloc | apply Kd.R_drewN | apply Kd.R_drew)); exact HO_7.out))) (Kd.R_lt (by (with_reducible repeat (first | apply Kd.R_alloc | apply Kd.R_drewN | apply Kd.R_drew)); exact HO_10.out))) (below_size (by repeat (first | (with_reducible first | exact HB.out | apply below_alloc | apply pw_below_drewN | apply below_drew1) | exact HB.out)))); have n3_ := Aside0.mk (below_step (by repeat (first | (with_reducible first | exact HB.out | apply below_alloc | apply pw_below_drewN | apply below_drew1) | exact HB.out)) hb); clear HO_7; clear HO_10; clear HB; have HO_7 := n0_; have HO_10 := n1_; have HO454 := n2_; have HB := n3_; clear n0_ n1_ n2_ n3_; (try clear hb); (try clear hb2); (try clear hk); (try clear hi); (try clear ho0))); try go_wp2_with (first | (go_at_call 41; (with_reducible refine (rf_Fill.calls kj36 _ _ l0 _ _ l1 t451 false _ ?side1 ?side2 ?side3 ?side4 A41.out).mono ?_); (case side1 => repeat (first | exact (Kd.C_below HR0.out HB.out) | (with_reducible refine Kd.C_alloc ?_ _) | (with_reducible refine Kd.C_drewN ?_ _) | (with_reducible refine Kd.C_drew ?_))); (case side2 => exact HC0.out); (case side3 => repeat (first | exact (Kd.C_below HR1.out HB.out) | (with_reducible refine Kd.C_alloc ?_ _) | (with_reducible refine Kd.C_drewN ?_ _) | (with_reducible refine Kd.C_drew ?_))); (case side4 => exact HC1.out); rintro e w44 ⟨v453, rfl, ho0, hb⟩; have n0_ := Aside0.mk (Kd.R_elder' (by (with_reducible repeat (first | apply Kd.R_alloc | apply Kd.R_drewN | apply Kd.R_drew)); exact HO_7.out) (Kd.R_base ho0) hb); have n1_ := Aside0.mk (Kd.R_elder' (by (with_reducible repeat (first | apply Kd.R_alloc | apply Kd.R_drewN | apply Kd.R_drew)); exact HO_10.out) (Kd.R_base ho0) hb); have n2_ := Aside0.mk (Kd.R_lower (Kd.R_new' (Kd.R_new' ho0 (Kd.R_lt (by (with_reducible repeat (first | apply Kd.R_alloc | apply Kd.R_drewN | apply Kd.R_drew)); exact HO_7.out))) (Kd.R_lt (by (with_reducible repeat (first | apply Kd.R_alloc | apply Kd.R_drewN | apply Kd.R_drew)); exact HO_10.out))) (below_size (by repeat (first | (with_reducible first | exact HB.out | apply below_alloc | apply pw_below_drewN | apply below_drew1) | exact HB.out)))); have n3_ := Aside0.mk (below_step (by repeat (first | (with_reducible first | exact HB.out | apply below_alloc | apply pw_below_drewN | apply below_drew1) | exact HB.out)) hb); clear HO_7; clear HO_10; clear HB; have HO_7 := n0_; have HO_10 := n1_; have HO454 := n2_; have HB := n3_; clear n0_ n1_ n2_ n3_; (try clear hb); (try clear hb2); (try clear hk); (try clear hi); (try clear ho0))))
                   go_meet
                   case rel => exact ⟨_, (9), (t451), (by first | rfl | (simp; done) | (simp [*]; done)), H', ⟨by have := HJ2.out; have := HJ10.out; have := HJ23.out; have := HJ31.out; have := HJ33.out; have := HJ36.out; first | omega | exact Nat.le_refl _⟩, ⟨by (with_reducible repeat (first | apply Kd.R_alloc | apply Kd.R_drewN | apply Kd.R_drew)); exact Kd.R_mono HO_7.out (fun _ hk => hk.2)⟩, ⟨by (with_reducible repeat (first | apply Kd.R_alloc | apply Kd.R_drewN | apply Kd.R_drew)); exact Kd.R_mono HO454.out (fun _ hk => hk.1.2)⟩, ⟨by repeat (first | (with_reducible first | exact HB.out | apply below_alloc | apply pw_below_drewN | apply below_drew1) | exact HB.out)⟩⟩
                 ·rw [if_neg c40] at H
                  have c40b0 : (x9_36 == 0) = false := beq_eq_false_iff_ne.mpr c40
                  have c40b1 : (x9_36 != 0) = true := bne_iff_ne.mpr c40
                  (first | rw [c40b0] | (simp only [i64_w, i32_w]; rw [c40b0]) | skip)
                  have H' := Aside0.mk H
                  clear H; go_wp2
                  repeat (go_quiet (fail); try go_wp2)
                  go_meet
                  case rel => exact ⟨_, (x9_36), (y444), (by first | rfl | (simp; done) | (simp [*]; done)), H', ⟨by have := HJ2.out; have := HJ10.out; have := HJ23.out; have := HJ31.out; have := HJ33.out; have := HJ36.out; first | omega | exact Nat.le_refl _⟩, ⟨by (with_reducible repeat (first | apply Kd.R_alloc | apply Kd.R_drewN | apply Kd.R_drew)); exact HO_7.out⟩, ⟨by (with_reducible repeat (first | apply Kd.R_alloc | apply Kd.R_drewN | apply Kd.R_drew)); exact HO_10.out⟩, ⟨by repeat (first | (with_reducible first | exact HB.out | apply below_alloc | apply pw_below_drewN | apply below_drew1) | exact HB.out)⟩⟩
                case rest =>
                 clear HC39; try clear c1
                 try clear c2
                 try clear p2
                 try clear c3
                 try clear c4
                 try clear c4b0
                 try clear c4b1
                 try clear c5
                 try clear c8
                 try clear c9
                 try clear c20
                 try clear c22
                 try clear c28
                 try clear c28b0
                 try clear c28b1
                 try clear c33
                 try clear c35
                 try clear c35b0
                 try clear c35b1
                 try clear c38
                 try clear c40
                 try clear c40b0
                 try clear c40b1
                 try clear c42
                 try clear p2
                 obtain ⟨kq, x9_38, x10_38, rfl, HA, HJ38, HO_7, HO_10, HB⟩ := hcut
                 cases kq with
                 | zero => exact absurd HA.out (by simp [lw_FeeFills.j6])
                 | succ kj38 =>
                  have H := HA.out
                  clear HA; simp only [lw_FeeFills.j6] at H
                  by_cases c45 : x9_38 = 0
                  ·rw [if_pos c45] at H
                   have c45b0 : (x9_38 == 0) = true := beq_iff_eq.mpr c45
                   have c45b1 : (x9_38 != 0) = false := bne_eq_false_iff_eq.mpr c45
                   clear c45; have HC46 := Aside0.mk H
                   clear H; go_upto_region 18 with (fail)
                   repeat (go_quiet (fail); go_upto_region 18 with (fail))
                   go_cut [92] (fun v92 wc => ∃ (kq : Nat) (x92_45 : Bool), v92 = .bool x92_45 ∧ Aside0 (lw_FeeFills.j7 kq t437 x10_38 x92_45 = some r) ∧ Aside0 (kq ≤ kj38) ∧ Aside0 (Kd.R k44 44 wc w.heap.size (fun k_ => some k_ ≠ (u10 : Value).ownBlock) v439 t437) ∧ Aside0 (Kd.R k44 44 wc w.heap.size (fun k_ => some k_ ≠ (v439 : Value).ownBlock) u10 x10_38) ∧ Aside0 (Below w.heap.size w wc))
                   case first =>
                    have H := HC46.out
                    clear HC46
                    by_cases c47 : t438 = 0
                    ·rw [if_pos c47] at H
                     have c47b0 : (t438 == 0) = true := beq_iff_eq.mpr c47
                     have c47b1 : (t438 != 0) = false := bne_eq_false_iff_eq.mpr c47
                     clear c47
                     (first | rw [c47b0] | (simp only [i64_w, i32_w]; rw [c47b0]) | skip)
                     have H' := Aside0.mk H
                     clear H; obtain ⟨Ao48, co48, eo48⟩ := Kd.R_slice HO_7.out
                     subst eo48
                     obtain ⟨Ao49, co49, eo49⟩ := Kd.R_slice HO_10.out
                     subst eo49
                     go_wp2
                     repeat (go_quiet (fail); try go_wp2)
                     go_meet
                     case rel => exact ⟨_, (((t437.length : Int) != (x10_38.length : Int))), (by first | rfl | (simp; done) | (simp [*]; done)), H', ⟨by have := HJ2.out; have := HJ10.out; have := HJ23.out; have := HJ31.out; have := HJ33.out; have := HJ36.out; have := HJ38.out; first | omega | exact Nat.le_refl _⟩, ⟨by (with_reducible repeat (first | apply Kd.R_alloc | apply Kd.R_drewN | apply Kd.R_drew)); exact HO_7.out⟩, ⟨by (with_reducible repeat (first | apply Kd.R_alloc | apply Kd.R_drewN | apply Kd.R_drew)); exact HO_10.out⟩, ⟨by repeat (first | (with_reducible first | exact HB.out | apply below_alloc | apply pw_below_drewN | apply below_drew1) | exact HB.out)⟩⟩
                    ·rw [if_neg c47] at H
                     have c47b0 : (t438 == 0) = false := beq_eq_false_iff_ne.mpr c47
                     have c47b1 : (t438 != 0) = true := bne_iff_ne.mpr c47
                     (first | rw [c47b0] | (simp only [i64_w, i32_w]; rw [c47b0]) | skip)
                     have H' := Aside0.mk H
                     clear H; go_wp2
                     repeat (go_quiet (fail); try go_wp2)
                     go_meet
                     case rel => exact ⟨_, (true), (by first | rfl | (simp; done) | (simp [*]; done)), H', ⟨by have := HJ2.out; have := HJ10.out; have := HJ23.out; have := HJ31.out; have := HJ33.out; have := HJ36.out; have := HJ38.out; first | omega | exact Nat.le_refl _⟩, ⟨by (with_reducible repeat (first | apply Kd.R_alloc | apply Kd.R_drewN | apply Kd.R_drew)); exact HO_7.out⟩, ⟨by (with_reducible repeat (first | apply Kd.R_alloc | apply Kd.R_drewN | apply Kd.R_drew)); exact HO_10.out⟩, ⟨by repeat (first | (with_reducible first | exact HB.out | apply below_alloc | apply pw_below_drewN | apply below_drew1) | exact HB.out)⟩⟩
                   case rest =>
                    clear HC46; try clear c1
                    try clear c2
                    try clear p2
                    try clear c3
                    try clear c4
                    try clear c4b0
                    try clear c4b1
                    try clear c5
                    try clear c8
                    try clear c9
                    try clear c20
                    try clear c22
                    try clear c28
                    try clear c28b0
                    try clear c28b1
                    try clear c33
                    try clear c35
                    try clear c35b0
                    try clear c35b1
                    try clear c38
                    try clear c40
                    try clear c40b0
                    try clear c40b1
                    try clear c42
                    try clear c45
                    try clear c45b0
                    try clear c45b1
                    try clear c47
                    try clear c47b0
                    try clear c47b1
                    try clear p2
                    obtain ⟨kq, x92_45, rfl, HA, HJ45, HO_7, HO_10, HB⟩ := hcut
                    cases kq with
                    | zero => exact absurd HA.out (by simp [lw_FeeFills.j7])
                    | succ kj45 =>
                     have H := HA.out
                     clear HA; simp only [lw_FeeFills.j7] at H
                     by_cases c50 : x92_45 = true
                     ·subst c50
                      have H1 : (some false) = some r := by rw [if_pos rfl] at H; exact H
                      clear H; have H := H1
                      clear H1; obtain rfl := Option.some.inj H
                      go_wp2
                      repeat (go_quiet (fail); try go_wp2)
                      go_ret
                      exact ⟨by first | rfl | (simp [errW_none, errW_some] <;> rfl) | (simp [*, errW_none, errW_some] <;> rfl), by repeat (first | (with_reducible first | exact HB.out | apply below_alloc | apply pw_below_drewN | apply below_drew1) | exact HB.out)⟩
                     ·replace c50 := Bool.eq_false_iff.mpr c50
                      subst c50
                      have H1 : (lw_FeeFills.l0 kj45 t437 x10_38 0) = some r := by rw [if_neg (show ¬ (false = true) by decide)] at H; exact H
                      clear H; have H := H1
                      clear H1; have H' := Aside0.mk H
                      clear H; go_wp2
                      repeat (go_quiet (fail); try go_wp2)
                      go_loopg [12] kj45 (fun kq v12 w' => ∃ (x12_9 : Int), v12 = .int .i64 x12_9 ∧ Aside0 (lw_FeeFills.l0 kq t437 x10_38 x12_9 = some r) ∧ Aside0 (kq ≤ kj45) ∧ Aside0 (Kd.R k44 44 w' w.heap.size (fun k_ => some k_ ≠ (u10 : Value).ownBlock) v439 t437) ∧ Aside0 (Kd.R k44 44 w' w.heap.size (fun k_ => some k_ ≠ (v439 : Value).ownBlock) u10 x10_38) ∧ Aside0 (Below w.heap.size w w'))
                      case atStart => exact ⟨(0), (by first | rfl | (simp; done) | (simp [*]; done)), H', ⟨Nat.le_refl _⟩, ⟨by (with_reducible repeat (first | apply Kd.R_alloc | apply Kd.R_drewN | apply Kd.R_drew)); exact HO_7.out⟩, ⟨by (with_reducible repeat (first | apply Kd.R_alloc | apply Kd.R_drewN | apply Kd.R_drew)); exact HO_10.out⟩, ⟨by repeat (first | (with_reducible first | exact HB.out | apply below_alloc | apply pw_below_drewN | apply below_drew1) | exact HB.out)⟩⟩
                      case round =>
                       clear H'; try clear c1
                       try clear c2
                       try clear p2
                       try clear c3
                       try clear c4
                       try clear c4b0
                       try clear c4b1
                       try clear c5
                       try clear c8
                       try clear c9
                       try clear c20
                       try clear c22
                       try clear c28
                       try clear c28b0
                       try clear c28b1
                       try clear c33
                       try clear c35
                       try clear c35b0
                       try clear c35b1
                       try clear c38
                       try clear c40
                       try clear c40b0
                       try clear c40b1
                       try clear c42
                       try clear c45
                       try clear c45b0
                       try clear c45b1
                       try clear c47
                       try clear c47b0
                       try clear c47b1
                       try clear c50
                       try clear p2
                       obtain ⟨x12_9, rfl, HA, HK9, HO_7, HO_10, HB⟩ := hrel
                       cases gk with
                       | zero => exact absurd HA.out (by simp [lw_FeeFills.l0])
                       | succ k9 =>
                        have H := HA.out
                        clear HA; simp only [lw_FeeFills.l0] at H
                        by_cases c51 : x12_9 < (x10_38.length : Int)
                        ·rw [if_pos c51] at H
                         have c51b0 : decide (x12_9 < (x10_38.length : Int)) = true := decide_eq_true c51
                         clear c51
                         by_cases c52 : 0 ≤ x12_9
                         ·rw [if_pos c52] at H
                          have c52b0 : decide (0 ≤ x12_9) = true := decide_eq_true c52
                          clear c52
                          by_cases c53 : x12_9 < (t437.length : Int)
                          ·rw [if_pos c53] at H
                           have c53b0 : decide (x12_9 < (t437.length : Int)) = true := decide_eq_true c53
                           clear c53
                           by_cases c54 : (!(((rd_T44 t437 x12_9).f0) == ((rd_T44 x10_38 x12_9).f0)) || (!(((rd_T44 t437 x12_9).f1) == ((rd_T44 x10_38 x12_9).f1)))) = true
                           ·rw [if_pos c54] at H
                            have c54b0 : (!(((rd_T44 t437 x12_9).f0) == ((rd_T44 x10_38 x12_9).f0)) || (!(((rd_T44 t437 x12_9).f1) == ((rd_T44 x10_38 x12_9).f1)))) = true := c54
                            clear c54; obtain rfl := Option.some.inj H
                            obtain ⟨Ao55, co55, eo55⟩ := Kd.R_slice HO_10.out
                            subst eo55
                            obtain ⟨Ao56, co56, eo56⟩ := Kd.R_slice HO_7.out
                            subst eo56
                            have p456 : 0 ≤ (x12_9 : Int) := of_decide_eq_true (by first | (with_reducible assumption) | assumption)
                            have q456 : x12_9 < (t437.length : Int) := of_decide_eq_true (by first | (with_reducible assumption) | assumption)
                            obtain ⟨ad456, e456, hx456_0, hx456_1⟩ := at_T44 (Kd.R_reads' HO_7.out).2.2 x12_9 p456 q456
                            cases e456
                            replace p456 := eq_true p456
                            replace q456 := eq_true q456
                            have p457 : 0 ≤ (x12_9 : Int) := of_decide_eq_true (by first | (with_reducible assumption) | assumption)
                            have q457 : x12_9 < (x10_38.length : Int) := of_decide_eq_true (by first | (with_reducible assumption) | assumption)
                            obtain ⟨ad457, e457, hx457_0, hx457_1⟩ := at_T44 (Kd.R_reads' HO_10.out).2.2 x12_9 p457 q457
                            cases e457
                            replace p457 := eq_true p457
                            replace q457 := eq_true q457
                            go_wp2
                            repeat (go_quiet (fail); try go_wp2)
                            go_ret
                            exact ⟨by first | rfl | (simp [errW_none, errW_some] <;> rfl) | (simp [*, errW_none, errW_some] <;> rfl), by repeat (first | (with_reducible first | exact HB.out | apply below_alloc | apply pw_below_drewN | apply below_drew1) | exact HB.out)⟩
                           ·rw [if_neg c54] at H
                            have c54b0 : (!(((rd_T44 t437 x12_9).f0) == ((rd_T44 x10_38 x12_9).f0)) || (!(((rd_T44 t437 x12_9).f1) == ((rd_T44 x10_38 x12_9).f1)))) = false := by simpa using c54
                            clear c54; have H' := Aside0.mk H
                            clear H; obtain ⟨Ao57, co57, eo57⟩ := Kd.R_slice HO_10.out
                            subst eo57
                            obtain ⟨Ao58, co58, eo58⟩ := Kd.R_slice HO_7.out
                            subst eo58
                            have p456 : 0 ≤ (x12_9 : Int) := of_decide_eq_true (by first | (with_reducible assumption) | assumption)
                            have q456 : x12_9 < (t437.length : Int) := of_decide_eq_true (by first | (with_reducible assumption) | assumption)
                            obtain ⟨ad456, e456, hx456_0, hx456_1⟩ := at_T44 (Kd.R_reads' HO_7.out).2.2 x12_9 p456 q456
                            cases e456
                            replace p456 := eq_true p456
                            replace q456 := eq_true q456
                            have p457 : 0 ≤ (x12_9 : Int) := of_decide_eq_true (by first | (with_reducible assumption) | assumption)
                            have q457 : x12_9 < (x10_38.length : Int) := of_decide_eq_true (by first | (with_reducible assumption) | assumption)
                            obtain ⟨ad457, e457, hx457_0, hx457_1⟩ := at_T44 (Kd.R_reads' HO_10.out).2.2 x12_9 p457 q457
                            cases e457
                            replace p457 := eq_true p457
                            replace q457 := eq_true q457
                            go_wp2
                            repeat (go_quiet (fail); try go_wp2)
                            go_roundg k9
                            case measure => have := HJ2.out; have := HJ10.out; have := HJ23.out; have := HJ31.out; have := HJ33.out; have := HJ36.out; have := HJ38.out; have := HJ45.out; have := HK9.out; omega
                            case rel => exact ⟨(wrap64 (x12_9 + 1)), (by first | rfl | (simp; done) | (simp [*]; done)), H', ⟨by have := HJ2.out; have := HJ10.out; have := HJ23.out; have := HJ31.out; have := HJ33.out; have := HJ36.out; have := HJ38.out; have := HJ45.out; have := HK9.out; omega⟩, ⟨by (with_reducible repeat (first | apply Kd.R_alloc | apply Kd.R_drewN | apply Kd.R_drew)); exact HO_7.out⟩, ⟨by (with_reducible repeat (first | apply Kd.R_alloc | apply Kd.R_drewN | apply Kd.R_drew)); exact HO_10.out⟩, ⟨by repeat (first | (with_reducible first | exact HB.out | apply below_alloc | apply pw_below_drewN | apply below_drew1) | exact HB.out)⟩⟩
                          ·rw [if_neg c53] at H
                           exact absurd H (by simp)
                         ·rw [if_neg c52] at H
                          exact absurd H (by simp)
                        ·rw [if_neg c51] at H
                         have c51b0 : decide (x12_9 < (x10_38.length : Int)) = false := decide_eq_false c51
                         clear c51
                         replace H := Option.bind_eq_some_iff.mp H
                         obtain ⟨t458, A590, H⟩ := H
                         replace H : (some t458) = some r := H
                         have A59 := Aside0.mk A590
                         clear A590; obtain rfl := Option.some.inj H
                         obtain ⟨Ao60, co60, eo60⟩ := Kd.R_slice HO_10.out
                         subst eo60
                         go_wp2_with (first | (go_at_call 22; (with_reducible refine (lw_known.calls  t458 _ A59.out).mono ?_); rintro e w61 ⟨rfl, hb⟩; have n0_ := Aside0.mk (Kd.R_below (by (with_reducible repeat (first | apply Kd.R_alloc | apply Kd.R_drewN | apply Kd.R_drew)); exact HO_7.out) hb); have n1_ := Aside0.mk (Kd.R_below (by (with_reducible repeat (first | apply Kd.R_alloc | apply Kd.R_drewN | apply Kd.R_drew)); exact HO_10.out) hb); have n2_ := Aside0.mk (below_step (by repeat (first | (with_reducible first | exact HB.out | apply below_alloc | apply pw_below_drewN | apply below_drew1) | exact HB.out)) hb); clear HO_7; clear HO_10; clear HB; have HO_7 := n0_; have HO_10 := n1_; have HB := n2_; clear n0_ n1_ n2_; (try clear hb); (try clear hb2); (try clear hk); (try clear hi)))
                         repeat (go_quiet (first | (go_at_call 22; (with_reducible refine (lw_known.calls  t458 _ A59.out).mono ?_); rintro e w61 ⟨rfl, hb⟩; have n0_ := Aside0.mk (Kd.R_below (by (with_reducible repeat (first | apply Kd.R_alloc | apply Kd.R_drewN | apply Kd.R_drew)); exact HO_7.out) hb); have n1_ := Aside0.mk (Kd.R_below (by (with_reducible repeat (first | apply Kd.R_alloc | apply Kd.R_drewN | apply Kd.R_drew)); exact HO_10.out) hb); have n2_ := Aside0.mk (below_step (by repeat (first | (with_reducible first | exact HB.out | apply below_alloc | apply pw_below_drewN | apply below_drew1) | exact HB.out)) hb); clear HO_7; clear HO_10; clear HB; have HO_7 := n0_; have HO_10 := n1_; have HB := n2_; clear n0_ n1_ n2_; (try clear hb); (try clear hb2); (try clear hk); (try clear hi))); try go_wp2_with (first | (go_at_call 22; (with_reducible refine (lw_known.calls  t458 _ A59.out).mono ?_); rintro e w61 ⟨rfl, hb⟩; have n0_ := Aside0.mk (Kd.R_below (by (with_reducible repeat (first | apply Kd.R_alloc | apply Kd.R_drewN | apply Kd.R_drew)); exact HO_7.out) hb); have n1_ := Aside0.mk (Kd.R_below (by (with_reducible repeat (first | apply Kd.R_alloc | apply Kd.R_drewN | apply Kd.R_drew)); exact HO_10.out) hb); have n2_ := Aside0.mk (below_step (by repeat (first | (with_reducible first | exact HB.out | apply below_alloc | apply pw_below_drewN | apply below_drew1) | exact HB.out)) hb); clear HO_7; clear HO_10; clear HB; have HO_7 := n0_; have HO_10 := n1_; have HB := n2_; clear n0_ n1_ n2_; (try clear hb); (try clear hb2); (try clear hk); (try clear hi))))
                         go_ret
                         exact ⟨by first | rfl | (simp [errW_none, errW_some] <;> rfl) | (simp [*, errW_none, errW_some] <;> rfl), by repeat (first | (with_reducible first | exact HB.out | apply below_alloc | apply pw_below_drewN | apply below_drew1) | exact HB.out)⟩
                  ·rw [if_neg c45] at H
                   have c45b0 : (x9_38 == 0) = false := beq_eq_false_iff_ne.mpr c45
                   have c45b1 : (x9_38 != 0) = true := bne_iff_ne.mpr c45
                   by_cases c62 : t438 = x9_38
                   ·rw [if_pos c62] at H
                    have c62b0 : (t438 == x9_38) = true := beq_iff_eq.mpr c62
                    have c62b1 : (t438 != x9_38) = false := bne_eq_false_iff_eq.mpr c62
                    clear c62
                    by_cases c63 : (t437.length : Int) = 0
                    ·rw [if_pos c63] at H
                     have c63b0 : ((t437.length : Int) == 0) = true := beq_iff_eq.mpr c63
                     have c63b1 : ((t437.length : Int) != 0) = false := bne_eq_false_iff_eq.mpr c63
                     clear c63
                     replace H := Option.bind_eq_some_iff.mp H
                     obtain ⟨t455, A640, H⟩ := H
                     replace H : (some t455) = some r := H
                     have A64 := Aside0.mk A640
                     clear A640; obtain rfl := Option.some.inj H
                     obtain ⟨Ao65, co65, eo65⟩ := Kd.R_slice HO_7.out
                     subst eo65
                     go_wp2_with (first | (go_at_call 22; (with_reducible refine (lw_known.calls  t455 _ A64.out).mono ?_); rintro e w66 ⟨rfl, hb⟩; have n0_ := Aside0.mk (Kd.R_below (by (with_reducible repeat (first | apply Kd.R_alloc | apply Kd.R_drewN | apply Kd.R_drew)); exact HO_7.out) hb); have n1_ := Aside0.mk (Kd.R_below (by (with_reducible repeat (first | apply Kd.R_alloc | apply Kd.R_drewN | apply Kd.R_drew)); exact HO_10.out) hb); have n2_ := Aside0.mk (below_step (by repeat (first | (with_reducible first | exact HB.out | apply below_alloc | apply pw_below_drewN | apply below_drew1) | exact HB.out)) hb); clear HO_7; clear HO_10; clear HB; have HO_7 := n0_; have HO_10 := n1_; have HB := n2_; clear n0_ n1_ n2_; (try clear hb); (try clear hb2); (try clear hk); (try clear hi)))
                     repeat (go_quiet (first | (go_at_call 22; (with_reducible refine (lw_known.calls  t455 _ A64.out).mono ?_); rintro e w66 ⟨rfl, hb⟩; have n0_ := Aside0.mk (Kd.R_below (by (with_reducible repeat (first | apply Kd.R_alloc | apply Kd.R_drewN | apply Kd.R_drew)); exact HO_7.out) hb); have n1_ := Aside0.mk (Kd.R_below (by (with_reducible repeat (first | apply Kd.R_alloc | apply Kd.R_drewN | apply Kd.R_drew)); exact HO_10.out) hb); have n2_ := Aside0.mk (below_step (by repeat (first | (with_reducible first | exact HB.out | apply below_alloc | apply pw_below_drewN | apply below_drew1) | exact HB.out)) hb); clear HO_7; clear HO_10; clear HB; have HO_7 := n0_; have HO_10 := n1_; have HB := n2_; clear n0_ n1_ n2_; (try clear hb); (try clear hb2); (try clear hk); (try clear hi))); try go_wp2_with (first | (go_at_call 22; (with_reducible refine (lw_known.calls  t455 _ A64.out).mono ?_); rintro e w66 ⟨rfl, hb⟩; have n0_ := Aside0.mk (Kd.R_below (by (with_reducible repeat (first | apply Kd.R_alloc | apply Kd.R_drewN | apply Kd.R_drew)); exact HO_7.out) hb); have n1_ := Aside0.mk (Kd.R_below (by (with_reducible repeat (first | apply Kd.R_alloc | apply Kd.R_drewN | apply Kd.R_drew)); exact HO_10.out) hb); have n2_ := Aside0.mk (below_step (by repeat (first | (with_reducible first | exact HB.out | apply below_alloc | apply pw_below_drewN | apply below_drew1) | exact HB.out)) hb); clear HO_7; clear HO_10; clear HB; have HO_7 := n0_; have HO_10 := n1_; have HB := n2_; clear n0_ n1_ n2_; (try clear hb); (try clear hb2); (try clear hk); (try clear hi))))
                     go_ret
                     exact ⟨by first | rfl | (simp [errW_none, errW_some] <;> rfl) | (simp [*, errW_none, errW_some] <;> rfl), by repeat (first | (with_reducible first | exact HB.out | apply below_alloc | apply pw_below_drewN | apply below_drew1) | exact HB.out)⟩
                    ·rw [if_neg c63] at H
                     have c63b0 : ((t437.length : Int) == 0) = false := beq_eq_false_iff_ne.mpr c63
                     have c63b1 : ((t437.length : Int) != 0) = true := bne_iff_ne.mpr c63
                     have c63b2 : ¬ (t437 = []) := fun h_ => c63 (by rw [h_]; rfl)
                     obtain rfl := Option.some.inj H
                     obtain ⟨Ao67, co67, eo67⟩ := Kd.R_slice HO_7.out
                     subst eo67
                     go_wp2
                     repeat (go_quiet (fail); try go_wp2)
                     go_ret
                     exact ⟨by first | rfl | (simp [errW_none, errW_some] <;> rfl) | (simp [*, errW_none, errW_some] <;> rfl), by repeat (first | (with_reducible first | exact HB.out | apply below_alloc | apply pw_below_drewN | apply below_drew1) | exact HB.out)⟩
                   ·rw [if_neg c62] at H
                    have c62b0 : (t438 == x9_38) = false := beq_eq_false_iff_ne.mpr c62
                    have c62b1 : (t438 != x9_38) = true := bne_iff_ne.mpr c62
                    obtain rfl := Option.some.inj H
                    go_wp2
                    repeat (go_quiet (fail); try go_wp2)
                    go_ret
                    exact ⟨by first | rfl | (simp [errW_none, errW_some] <;> rfl) | (simp [*, errW_none, errW_some] <;> rfl), by repeat (first | (with_reducible first | exact HB.out | apply below_alloc | apply pw_below_drewN | apply below_drew1) | exact HB.out)⟩
    ·rw [if_neg c9] at H
     exact absurd H (by simp)
end Go.Proofs.Ytdlekcdedahbhaa.Q
namespace Go.Proofs.Ytdlekcdedahbhaa.Rw
open Go.RowKit Go.Proofs.YtdlekcdedahbhaaW.PrintWords
set_option linter.unusedVariables false
set_option linter.unusedSimpArgs false
theorem add_two (a : Addr) (x y : Nat) : (a.add x).add y = a.add (x + y) := by
 unfold Addr.add
 by_cases h1 : x = 0
 ·subst h1; simp
 ·by_cases h2 : y = 0
  ·subst h2; simp
  ·have h3 : ¬ x + y = 0 := by omega
   simp [h1, h2, Nat.add_assoc]
structure Opens {α : Type} (P : Program) (t : TypeId) (d : Kd α) (good : α → Prop) : Prop where
 size : d.sz = P.cellsOf t
 read : ∀ {H : Type} {enc : TypeId × Value → H} {w : World} {base : Nat} {sp : Nat → Bool} {held : Bool} {fuel : Nat} {cs : List Value} {x : DataW H × List MemPlace}, DataW.trod enc P w base sp held fuel t cs = some x → ∃ y : α, d.K w y cs ∧ good y
theorem Opens.int {P : Program} {t : TypeId} {k : IntKind} (ht : P.underlying t = some (.int k)) (hc : 1 = P.cellsOf t) : Opens P t (Kd.int k) (fun n => (Lit.int k n).wf = true) := ⟨hc, fun h => by
 obtain ⟨n, rfl, rfl, hw⟩ := DataW.trod_int ht h
 exact ⟨n, rfl, hw⟩⟩
theorem Opens.slice {α : Type} {P : Program} {t e : TypeId} {d : Kd α} {good : α → Prop} (ht : P.underlying t = some (.slice e)) (hc : 1 = P.cellsOf t) (h : Opens P e d good) : Opens P t (Kd.slice e d) (fun l => ∀ x ∈ l, good x) := ⟨hc, fun {H enc w base sp held fuel cs x} hx => by
 rcases DataW.trod_slice ht hx with ⟨rfl, _⟩ | ⟨a, len, cap, elems, rest, n, _, rfl, _, hb, hl, hm, hlen, hel, _, _⟩
 ·exact ⟨[], ⟨none, 0, rfl, Nat.le_refl _, Kd.C_nil _ _⟩, fun x hx => by cases hx⟩
 ·have key : ∀ m, m ≤ len → ∃ l : List α, l.length = m ∧ ∀ i z, l[i]? = some z → good z ∧ ∃ c, c.length = d.sz ∧ d.K w z c ∧ ∀ j u, c[j]? = some u → w.cell? (a.add (i * d.sz + j)) = some u := by
   intro m
   induction m with
   | zero => intro _; exact ⟨[], rfl, fun i z hz => by simp at hz⟩
   | succ m ih =>
    intro hle
    obtain ⟨l, hll, hl2⟩ := ih (by omega)
    have h1 := hel m (by omega)
    rw [List.getElem?_eq_getElem (by omega), Option.bind_eq_some_iff] at h1
    obtain ⟨c, hc1, hc2⟩ := h1
    obtain ⟨z, hz, hg⟩ := h.read hc2
    obtain ⟨_, hcl, hcc⟩ := World.cells?_some hc1
    refine ⟨l ++ [z], by simp [hll], fun i z' hz' => ?_⟩
    rcases Nat.lt_or_ge i l.length with hlt | hge
    ·rw [List.getElem?_append_left hlt] at hz'
     exact hl2 i z' hz'
    ·rw [List.getElem?_append_right hge] at hz'
     have e : i = m := by
      rcases Nat.eq_zero_or_pos (i - l.length) with e | e
      ·omega
      ·rw [List.getElem?_eq_none (by simp; omega)] at hz'; cases hz'
     subst e
     rw [show i - l.length = 0 by omega] at hz'
     simp only [List.getElem?_cons_zero, Option.some.injEq] at hz'
     subst hz'
     refine ⟨hg, c, by rw [hcl, h.size], hz, fun j u hu => ?_⟩
     have hj : j < P.cellsOf e := by rw [← hcl]; exact (List.getElem?_eq_some_iff.1 hu).1
     have := hcc j hj
     rw [hu] at this
     rw [h.size, ← this, add_two]
  obtain ⟨l, hll, hl2⟩ := key len (Nat.le_refl _)
  refine ⟨l, ⟨some a, cap, by rw [hll], by omega, rfl, by unfold maxLen at hm; omega, fun _ => ⟨a, rfl, fun j p hj => ?_⟩⟩, fun x hx => ?_⟩
  ·obtain ⟨_, c, h1, h2, h3⟩ := hl2 j p hj
   exact ⟨c, h1, h2, h3⟩
  ·obtain ⟨i, hi⟩ := List.getElem?_of_mem hx
   exact (hl2 i x hi).1⟩
structure FOpens {α : Type} (P : Program) (fs : List Field) (off : Nat) (d : Kd α) (good : α → Prop) : Prop where
 read : ∀ {H : Type} {enc : TypeId × Value → H} {w : World} {base : Nat} {sp : Nat → Bool} {held : Bool} {fuel : Nat} {cs : List Value},
 (∀ (i : Nat) (f : Field), fs[i]? = some f → ∃ y, DataW.trod enc P w base sp held fuel f.type ((cs.drop f.offset).take (P.cellsOf f.type)) = some y) → cs.length = off + d.sz → ∃ y : α, d.K w y (cs.drop off) ∧ good y
theorem FOpens.one {α : Type} {P : Program} {f : Field} {off : Nat} {d : Kd α} {good : α → Prop} (h : Opens P f.type d good) (ho : f.offset = off) : FOpens P [f] off d good := ⟨fun {H enc w base sp held fuel cs} hf hl => by
 obtain ⟨y, hy⟩ := hf 0 f rfl
 rw [ho, ← h.size, List.take_of_length_le (by rw [List.length_drop]; omega)] at hy
 exact h.read hy⟩
theorem FOpens.cons {α β : Type} {P : Program} {f : Field} {fs : List Field} {off : Nat} {d1 : Kd α} {d2 : Kd β} {g1 : α → Prop} {g2 : β → Prop} (h1 : Opens P f.type d1 g1) (ho : f.offset = off) (h2 : FOpens P fs (off + d1.sz) d2 g2) : FOpens P (f :: fs) off (Kd.pair d1 d2) (fun x => g1 x.1 ∧ g2 x.2) := ⟨fun {H enc w base sp held fuel cs} hf hl => by
 have hsz : (Kd.pair d1 d2).sz = d1.sz + d2.sz := rfl
 obtain ⟨y1, hy1⟩ := hf 0 f rfl
 rw [ho, ← h1.size] at hy1
 obtain ⟨x1, hk1, hg1⟩ := h1.read hy1
 obtain ⟨x2, hk2, hg2⟩ := h2.read (cs := cs) (fun i g hg => hf (i + 1) g (by simpa using hg)) (by omega)
 refine ⟨(x1, x2), ⟨_, _, ?_, hk1, hk2⟩, hg1, hg2⟩
 rw [← List.drop_drop, List.take_append_drop]⟩
theorem Opens.struct {α : Type} {P : Program} {t : TypeId} {fs : Array Field} {d : Kd α} {good : α → Prop} (ht : P.underlying t = some (.struct fs)) (hs : d.sz = P.cellsOf t) (h : FOpens P fs.toList 0 d good) : Opens P t d good := ⟨hs, fun {H enc w base sp held fuel cs x} hx => by
 obtain ⟨xs, n, _, _, hcl, hxl, hf⟩ := DataW.trod_struct ht hx
 have := h.read (enc := enc) (w := w) (base := base) (sp := sp) (held := held) (fuel := n) (cs := cs) (fun i f hi => by
  rw [Array.getElem?_toList] at hi
  have hlt := (Array.getElem?_eq_some_iff.1 hi).1
  exact ⟨xs[i]'(by omega), by rw [hf i f hi, List.getElem?_eq_getElem]⟩) (by omega)
 simpa using this⟩
theorem Opens.iso {α β : Type} {P : Program} {t : TypeId} {d : Kd α} {good : α → Prop} (f : β → α) (g : α → β) (hfg : ∀ x, f (g x) = x) (h : Opens P t d good) : Opens P t (Kd.iso d f) (fun y => good (f y)) := ⟨h.size, fun hx => by
 obtain ⟨y, hk, hg⟩ := h.read hx
 exact ⟨g y, by show d.K _ (f (g y)) _; rw [hfg]; exact hk, by rw [hfg]; exact hg⟩⟩
end Go.Proofs.Ytdlekcdedahbhaa.Rw
namespace Go.Proofs.Ytdlekcdedahbhaa.Q
open Go.RowKit Go.Proofs.YtdlekcdedahbhaaW.PrintWords Go.Proofs.YtdlekcdedahbhaaW.PrintLast Go.Proofs.YtdlekcdedahbhaaW.PrintMore
attribute [local go_sem] max2_int min2_int max_two min_two max_three min_three max_four min_four   -- for this text's walks alone
set_option linter.unusedVariables false
set_option linter.unusedSimpArgs false
end Go.Proofs.Ytdlekcdedahbhaa.Q
namespace Go.Proofs.Ytdlekcdedahbhaa.Q
open Go.RowKit Go.Proofs.YtdlekcdedahbhaaW.PrintWords Go.Proofs.YtdlekcdedahbhaaW.PrintLast Go.Proofs.YtdlekcdedahbhaaW.PrintMore
attribute [local go_sem] max2_int min2_int max_two min_two max_three min_three max_four min_four   -- for this text's walks alone
set_option linter.unusedVariables false
set_option linter.unusedSimpArgs false
end Go.Proofs.Ytdlekcdedahbhaa.Q
namespace Go.Proofs.Ytdlekcdedahbhaa.Q
open Go.RowKit Go.Proofs.YtdlekcdedahbhaaW.PrintWords
set_option linter.unusedVariables false
set_option linter.unusedSimpArgs false
theorem Ev.up {α : Type} {g : Nat → Option α} {r : α} (h : Ev (fun k => g (k + 1)) r) : Ev g r := by
 obtain ⟨K, hK⟩ := h
 refine ⟨K + 1, fun k hk => ?_⟩
 obtain ⟨m, rfl⟩ : ∃ m, k = m + 1 := ⟨k - 1, by omega⟩
 exact hK m (by omega)
theorem wr {x : Int} (h : -9223372036854775808 ≤ x ∧ x ≤ 9223372036854775807) : wrap64 x = x := by unfold wrap64; omega
theorem wi (i : Nat) (h : i ≤ 100000) : wrap64 ((i : Int) + 1) = ((i + 1 : Nat) : Int) := by rw [wr (by omega)]; omega
theorem rdI (l : List Int) (i : Nat) (h : i < l.length) : rd l (i : Int) = l[i] := by simp [rd, h]
theorem rdE (l : List S101) (i : Nat) (h : i < l.length) : rd_T101 l (i : Int) = l[i] := by simp [rd_T101, h]
theorem drop_dec {α : Type} [DecidableEq α] (a b : List α) (i : Nat) (ha : i < a.length) (hb : i < b.length) : decide (a.drop i = b.drop i) = (decide (a[i] = b[i]) && decide (a.drop (i + 1) = b.drop (i + 1))) := by
 rw [List.drop_eq_getElem_cons ha, List.drop_eq_getElem_cons hb, Bool.eq_iff_iff]
 simp only [decide_eq_true_eq, Bool.and_eq_true, List.cons.injEq]
theorem In_f (a b c : Int) : rf_In.f a b c = some (inB b c [a]) := by
 have e : inB b c [a] = (decide (b ≤ a) && decide (a ≤ c)) := by
  rw [Bool.eq_iff_iff, inB_iff]
  simp
 rw [e]
 unfold rf_In.f
 split <;> simp_all <;> omega
theorem known_f : lw_known.f = some true := rfl
theorem inB_or (b c : Int) (l : List Int) : inB b c l = l.all (fun a => inB b c [a]) := by
 rw [Bool.eq_iff_iff, inB_iff, List.all_eq_true]
 constructor
 ·intro h x hx
  rw [inB_iff]
  intro n hn
  simp only [List.mem_singleton] at hn
  subst hn
  exact h n hx
 ·intro h n hn
  have := h n hn
  rw [inB_iff] at this
  exact this n (by simp)
theorem Ints_l0 (a b : List Int) (hl : a.length ≤ 1000) (hab : a.length = b.length) : ∀ (d i : Nat), i + d = a.length → Ev (fun k => rf_Ints.l0 k a b (i : Int)) (decide (a.drop i = b.drop i))
 | 0, i, h => by
  refine Ev.up ?_
  simp only [rf_Ints.l0, if_neg (show ¬ (i : Int) < (a.length : Int) by omega)]
  rw [List.drop_eq_nil_of_le (by omega), List.drop_eq_nil_of_le (by omega)]
  simpa using Ev.now true
 | d + 1, i, h => by
  refine Ev.up ?_
  simp only [rf_Ints.l0, if_pos (show (i : Int) < (a.length : Int) by omega), if_pos (show (0 : Int) ≤ (i : Int) by omega), if_pos (show (i : Int) < (b.length : Int) by omega), wi i (by omega), rdI a i (by omega), rdI b i (by omega)]
  rw [drop_dec a b i (by omega) (by omega)]
  by_cases hq : a[i] = b[i]
  ·rw [decide_eq_true hq, Bool.true_and]
   simp only [if_pos hq]
   exact Ints_l0 a b hl hab d (i + 1) (by omega)
  ·rw [decide_eq_false hq, Bool.false_and]
   simp only [if_neg hq]
   exact Ev.now false
theorem Ints_f (a b : List Int) (hl : a.length ≤ 1000) : Ev (fun k => rf_Ints.f k a b) (decide (a = b)) := by
 unfold rf_Ints.f
 by_cases h : a.length = b.length
 ·simp only [if_pos (show (a.length : Int) = (b.length : Int) by omega)]
  simpa using Ints_l0 a b hl h a.length 0 (by omega)
 ·simp only [if_neg (show ¬ (a.length : Int) = (b.length : Int) by omega)]
  have : ¬ a = b := fun e => h (by rw [e])
  simpa [this] using Ev.now false
theorem Copy_f (l : List S101) (h : l.length ≤ 1000) : rf_Copy.f l = some l := by
 simp only [rf_Copy.f, Option.bind_some, List.length_nil, Nat.zero_add, List.nil_append]
 rw [if_pos (by omega)]
theorem Same_l0 (a : List S101) (hl : a.length ≤ 1000) : ∀ (d i : Nat), i + d = a.length → Ev (fun k => rf_Same.l0 k a a (i : Int)) true
 | 0, i, h => by
  refine Ev.up ?_
  simp only [rf_Same.l0, if_neg (show ¬ (i : Int) < (a.length : Int) by omega)]
  exact Ev.now true
 | d + 1, i, h => by
  refine Ev.up ?_
  simp only [rf_Same.l0, if_pos (show (i : Int) < (a.length : Int) by omega), if_pos (show (0 : Int) ≤ (i : Int) by omega), wi i (by omega), beq_self_eq_true, Bool.not_true, Bool.or_self, Bool.false_eq_true, if_false]
  exact Same_l0 a hl d (i + 1) (by omega)
theorem Same_f (a : List S101) (hl : a.length ≤ 1000) : Ev (fun k => rf_Same.f k a a) true := by
 unfold rf_Same.f
 simp only [if_true]
 exact Same_l0 a hl a.length 0 (by omega)
theorem toEnt_drop (l : List S101) (i : Nat) (h : i < l.length) : (toEnt l).drop i = ⟨(l[i]).f0, (l[i]).f1, (l[i]).f2⟩ :: (toEnt l).drop (i + 1) := by
 rw [List.drop_eq_getElem_cons (by rw [toEnt_len]; exact h)]
 simp [toEnt]
theorem Ledger_l1 (l : List S101) (r : Bool) (hl : l.length ≤ 1000) : ∀ (d i : Nat), i + d = l.length → Ev (fun k => rf_Ledger.l1 k l r (i : Int)) (if (r && ((toEnt l).drop i).any fun x => x.a == -1) = true then 9 else 0)
 | 0, i, h => by
  refine Ev.up ?_
  simp only [rf_Ledger.l1, if_neg (show ¬ (i : Int) < (l.length : Int) by omega)]
  rw [List.drop_eq_nil_of_le (by rw [toEnt_len]; omega)]
  simpa using Ev.now (0 : Int)
 | d + 1, i, h => by
  have ih := Ledger_l1 l r hl d (i + 1) (by omega)
  refine Ev.up ?_
  simp only [rf_Ledger.l1, if_pos (show (i : Int) < (l.length : Int) by omega), if_pos (show (0 : Int) ≤ (i : Int) by omega), wi i (by omega), rdE l i (by omega)]
  rw [toEnt_drop l i (by omega), List.any_cons]
  cases r
  ·simpa using ih
  ·by_cases hq : l[i].f2 = -1
   ·simpa [hq] using Ev.now (9 : Int)
   ·have hq2 : (l[i].f2 == -1) = false := by simpa using hq
    simpa [hq, hq2] using ih
theorem Ledger_l0 (l : List S101) (r : Bool) (hl : l.length ≤ 1000) : ∀ (d i : Nat), i + d = l.length → Ev (fun k => rf_Ledger.l0 k l r (i : Int)) (if (((toEnt l).drop i).any fun x => !entB x) = true then 2 else if (r && (toEnt l).any fun x => x.a == -1) = true then 9 else 0)
 | 0, i, h => by
  refine Ev.up ?_
  simp only [rf_Ledger.l0, if_neg (show ¬ (i : Int) < (l.length : Int) by omega)]
  rw [List.drop_eq_nil_of_le (by rw [toEnt_len]; omega)]
  simpa using Ledger_l1 l r hl l.length 0 (by omega)
 | d + 1, i, h => by
  have ih := Ledger_l0 l r hl d (i + 1) (by omega)
  refine Ev.up ?_
  simp only [rf_Ledger.l0, if_pos (show (i : Int) < (l.length : Int) by omega), if_pos (show (0 : Int) ≤ (i : Int) by omega), wi i (by omega), rdE l i (by omega), In_f, Option.bind_some]
  rw [toEnt_drop l i (by omega), List.any_cons]
  have hb : entB ⟨l[i].f0, l[i].f1, l[i].f2⟩ = (inB 0 5 [l[i].f0] && inB 0 5 [l[i].f1] && decide (l[i].f0 ≠ l[i].f1) && inB (-1) 100 [l[i].f2]) := by
   unfold entB
   rw [inB_or 0 5 [_, _]]
   simp [List.all_cons]
  rw [hb]
  by_cases hq : l[i].f0 = l[i].f1
  ·simp only [if_pos hq]
   cases inB 0 5 [l[i].f0] <;> cases inB 0 5 [l[i].f1] <;> simpa [hq] using Ev.now (2 : Int)
  ·simp only [if_neg hq]
   cases inB 0 5 [l[i].f0] <;> cases inB 0 5 [l[i].f1] <;> cases inB (-1) 100 [l[i].f2] <;> first | (simpa [hq] using Ev.now (2 : Int)) | (simpa [hq] using ih)
theorem Ledger_f (l : List S101) (r : Bool) (hl : l.length ≤ 1000) : Ev (fun k => rf_Ledger.f k l r) (if r then readE (toEnt l) else chkE (toEnt l)) := by
 have h := Ledger_l0 l r hl l.length 0 (by omega)
 unfold rf_Ledger.f
 by_cases h1 : l.length > 12
 ·simp only [if_pos (show (l.length : Int) > 12 by omega)]
  have h2 : chkE (toEnt l) = 5 := by unfold chkE; rw [if_pos (by rw [toEnt_len]; exact h1)]
  have h3 : readE (toEnt l) = 5 := by unfold readE; rw [h2]; rfl
  rw [h2, h3]
  cases r <;> exact Ev.now 5
 ·simp only [if_neg (show ¬ (l.length : Int) > 12 by omega)]
  have h2 : chkE (toEnt l) = if ((toEnt l).any fun x => !entB x) = true then 2 else 0 := by unfold chkE; rw [if_neg (by rw [toEnt_len]; exact h1)]
  rw [List.drop_zero] at h
  have e : (if r = true then readE (toEnt l) else chkE (toEnt l)) = (if ((toEnt l).any fun x => !entB x) = true then 2 else if (r && (toEnt l).any fun x => x.a == -1) = true then 9 else 0) := by
   unfold readE
   rw [h2]
   cases ((toEnt l).any fun x => !entB x) <;> cases r <;> simp
  rw [e]
  exact h
end Go.Proofs.Ytdlekcdedahbhaa.Q
namespace Go.Proofs.Ytdlekcdedahbhaa.Q
open Go.RowKit Go.Proofs.YtdlekcdedahbhaaW.PrintWords
set_option linter.unusedVariables false
set_option linter.unusedSimpArgs false
theorem balB_iff (b : List Int) : balB b = true ↔ b.length = 6 ∧ ∀ x ∈ b, -100000 ≤ x ∧ x ≤ 100000 := by
 unfold balB
 rw [Bool.and_eq_true, decide_eq_true_eq, inB_iff]
theorem accL_balA (b : List Int) (h : balB b = true) : accL (balA b) = b := by
 have h6 := ((balB_iff b).1 h).1
 unfold balA
 rw [if_pos h]
 match b, h6 with
 | [a0, a1, a2, a3, a4, a5], _ => rfl
theorem accL_inj (a c : Acc) : accL a = accL c ↔ a = c := by
 cases a
 cases c
 simp [accL]
theorem accL_eq (a : Acc) (b : List Int) (h : balB b = true) : accL a = b ↔ a = balA b := by
 rw [← accL_inj, accL_balA b h]
theorem Valid_l0 (b : List Int) (hl : b.length ≤ 1000) : ∀ (d i : Nat), i + d = b.length → Ev (fun k => rf_Valid.l0 k b (i : Int)) (decide (b.length = 6) && inB (-100000) 100000 (b.drop i))
 | 0, i, h => by
  refine Ev.up ?_
  simp only [rf_Valid.l0, if_neg (show ¬ (i : Int) < (b.length : Int) by omega)]
  rw [List.drop_eq_nil_of_le (by omega)]
  have e : (((b.length : Nat) : Int) == 6) = (decide (b.length = 6) && inB (-100000) 100000 []) := by
   rw [show inB (-100000) 100000 [] = true by rfl, Bool.and_true, Bool.eq_iff_iff, beq_iff_eq, decide_eq_true_eq]
   omega
  rw [e]
  exact Ev.now _
 | d + 1, i, h => by
  have ih := Valid_l0 b hl d (i + 1) (by omega)
  refine Ev.up ?_
  simp only [rf_Valid.l0, if_pos (show (i : Int) < (b.length : Int) by omega), if_pos (show (0 : Int) ≤ (i : Int) by omega), wi i (by omega), rdI b i (by omega), In_f, Option.bind_some]
  have e : inB (-100000) 100000 (b.drop i) = (inB (-100000) 100000 [b[i]] && inB (-100000) 100000 (b.drop (i + 1))) := by
   rw [List.drop_eq_getElem_cons (show i < b.length by omega), inB_or (-100000) 100000 (_ :: _), List.all_cons, ← inB_or]
  rw [e]
  cases hq : inB (-100000) 100000 [b[i]]
  ·simpa using Ev.now false
  ·simpa using ih
theorem Valid_f (b : List Int) (hl : b.length ≤ 1000) : Ev (fun k => rf_Valid.f k b) (balB b) := by
 have := Valid_l0 b hl b.length 0 (by omega)
 rw [List.drop_zero] at this
 exact this
end Go.Proofs.Ytdlekcdedahbhaa.Q
namespace Go.Proofs.Ytdlekcdedahbhaa.Q
open Go.RowKit Go.Proofs.YtdlekcdedahbhaaW.PrintWords Go.Proofs.YtdlekcdedahbhaaW.PrintLast Go.Proofs.YtdlekcdedahbhaaW.PrintMore
attribute [local go_sem] max2_int min2_int max_two min_two max_three min_three max_four min_four   -- for this text's walks alone
set_option linter.unusedVariables false
set_option linter.unusedSimpArgs false
end Go.Proofs.Ytdlekcdedahbhaa.Q
namespace Go.Proofs.Ytdlekcdedahbhaa.Q
open Go.RowKit Go.Proofs.YtdlekcdedahbhaaW.PrintWords Go.Proofs.YtdlekcdedahbhaaW.PrintLast Go.Proofs.YtdlekcdedahbhaaW.PrintMore
attribute [local go_sem] max2_int min2_int max_two min_two max_three min_three max_four min_four   -- for this text's walks alone
set_option linter.unusedVariables false
set_option linter.unusedSimpArgs false
end Go.Proofs.Ytdlekcdedahbhaa.Q
namespace Go.Proofs.Ytdlekcdedahbhaa.Q
open Go.RowKit Go.Proofs.YtdlekcdedahbhaaW.PrintWords Go.Proofs.YtdlekcdedahbhaaW.PrintLast Go.Proofs.YtdlekcdedahbhaaW.PrintMore
attribute [local go_sem] max2_int min2_int max_two min_two max_three min_three max_four min_four   -- for this text's walks alone
set_option linter.unusedVariables false
set_option linter.unusedSimpArgs false
end Go.Proofs.Ytdlekcdedahbhaa.Q
namespace Go.Proofs.Ytdlekcdedahbhaa.Q
open Go.RowKit Go.Proofs.YtdlekcdedahbhaaW.PrintWords Go.Proofs.YtdlekcdedahbhaaW.PrintLast Go.Proofs.YtdlekcdedahbhaaW.PrintMore
attribute [local go_sem] max2_int min2_int max_two min_two max_three min_three max_four min_four   -- for this text's walks alone
set_option linter.unusedVariables false
set_option linter.unusedSimpArgs false
theorem eqA70 (d : Nat) (w : World) (x0 y0 : Int) (x1 y1 : Int) (x2 y2 : Int) :
  (Op.equalIn (d + 2) 70 (.agg #[.int .i64 x0, .int .i64 x1, .int .i64 x2]) (.agg #[.int .i64 y0, .int .i64 y1, .int .i64 y2])).run Try.prog w = .ok (x0 == y0 && (x1 == y1 && (x2 == y2))) w := by
 refine eqA_of Try.underlying70 (by kernel_rfl) ?_
 refine eqf_cons (by rfl) (by go_simp; rfl) (by go_simp; rfl) (by go_simp) ?_
 refine eqf_cons (by rfl) (by go_simp; rfl) (by go_simp; rfl) (by go_simp) ?_
 exact eqf_last (by rfl) (by go_simp; rfl) (by go_simp; rfl) (by go_simp)
end Go.Proofs.Ytdlekcdedahbhaa.Q
namespace Go.Proofs.Ytdlekcdedahbhaa.Q
open Go.RowKit Go.Proofs.YtdlekcdedahbhaaW.PrintWords Go.Proofs.YtdlekcdedahbhaaW.PrintLast Go.Proofs.YtdlekcdedahbhaaW.PrintMore
attribute [local go_sem] max2_int min2_int max_two min_two max_three min_three max_four min_four   -- for this text's walks alone
set_option linter.unusedVariables false
set_option linter.unusedSimpArgs false
attribute [local go_sem high] eqA70
end Go.Proofs.Ytdlekcdedahbhaa.Q
namespace Go.Proofs.Ytdlekcdedahbhaa.Q
open Go.RowKit Go.Proofs.YtdlekcdedahbhaaW.PrintWords
set_option linter.unusedVariables false
set_option linter.unusedSimpArgs false
def dlt (x : Ent) (i : Int) : Int := (if x.f = i then -x.a else 0) + (if x.t = i then x.a else 0)
theorem get_after (a : Acc) (x : Ent) (i : Int) (h : i = 0 ∨ i = 1 ∨ i = 2 ∨ i = 3 ∨ i = 4 ∨ i = 5) : (afterA a x).get i = a.get i + dlt x i := by
 unfold afterA Acc.add dlt
 rcases h with rfl | rfl | rfl | rfl | rfl | rfl <;> simp [Acc.get, Int.add_assoc]
def sp (i : Int) (ps : List Chg) : List S70 := ps.map fun p => ⟨i, p.1.k, p.1.m⟩
theorem toEnt_rd2 (l : List S101) (i : Nat) (h : i < l.length) : rdEnt (toEnt l) i = ⟨(rd_T101 l (i : Int)).f0, (rd_T101 l (i : Int)).f1, (rd_T101 l (i : Int)).f2⟩ := by
 simp [rdEnt, toEnt, rd_T101, h]
theorem rd_at (l : List S101) (i : Nat) (h : i < l.length) : (rd_T101 l (i : Int)).f0 = (rdEnt (toEnt l) i).f ∧ (rd_T101 l (i : Int)).f1 = (rdEnt (toEnt l) i).t ∧ (rd_T101 l (i : Int)).f2 = (rdEnt (toEnt l) i).a := by
 rw [toEnt_rd2 l i h]
 exact ⟨rfl, rfl, rfl⟩
end Go.Proofs.Ytdlekcdedahbhaa.Q
namespace Go.Proofs.Ytdlekcdedahbhaa.Q
open Go.RowKit Go.Proofs.YtdlekcdedahbhaaW.PrintWords Go.Proofs.YtdlekcdedahbhaaW.PrintLast Go.Proofs.YtdlekcdedahbhaaW.PrintMore
attribute [local go_sem] max2_int min2_int max_two min_two max_three min_three max_four min_four   -- for this text's walks alone
set_option linter.unusedVariables false
set_option linter.unusedSimpArgs false
end Go.Proofs.Ytdlekcdedahbhaa.Q
namespace Go.Proofs.Ytdlekcdedahbhaa.Q
open Go.RowKit Go.Proofs.YtdlekcdedahbhaaW.PrintWords Go.Proofs.YtdlekcdedahbhaaW.PrintLast Go.Proofs.YtdlekcdedahbhaaW.PrintMore
attribute [local go_sem] max2_int min2_int max_two min_two max_three min_three max_four min_four   -- for this text's walks alone
set_option linter.unusedVariables false
set_option linter.unusedSimpArgs false
end Go.Proofs.Ytdlekcdedahbhaa.Q
namespace Go.Proofs.Ytdlekcdedahbhaa.Q
open Go.RowKit Go.Proofs.YtdlekcdedahbhaaW.PrintWords Go.Proofs.YtdlekcdedahbhaaW.PrintLast Go.Proofs.YtdlekcdedahbhaaW.PrintMore
attribute [local go_sem] max2_int min2_int max_two min_two max_three min_three max_four min_four   -- for this text's walks alone
set_option linter.unusedVariables false
set_option linter.unusedSimpArgs false
theorem eqA25 (d : Nat) (w : World) (x0 y0 : Int) (x1 y1 : Int) (x2 y2 : Int) :
  (Op.equalIn (d + 2) 25 (.agg #[.int .i64 x0, .int .i64 x1, .int .i64 x2]) (.agg #[.int .i64 y0, .int .i64 y1, .int .i64 y2])).run Try.prog w = .ok (x0 == y0 && (x1 == y1 && (x2 == y2))) w := by
 refine eqA_of Try.underlying25 (by kernel_rfl) ?_
 refine eqf_cons (by rfl) (by go_simp; rfl) (by go_simp; rfl) (by go_simp) ?_
 refine eqf_cons (by rfl) (by go_simp; rfl) (by go_simp; rfl) (by go_simp) ?_
 exact eqf_last (by rfl) (by go_simp; rfl) (by go_simp; rfl) (by go_simp)
end Go.Proofs.Ytdlekcdedahbhaa.Q
namespace Go.Proofs.Ytdlekcdedahbhaa.Q
open Go.RowKit Go.Proofs.YtdlekcdedahbhaaW.PrintWords Go.Proofs.YtdlekcdedahbhaaW.PrintLast Go.Proofs.YtdlekcdedahbhaaW.PrintMore
attribute [local go_sem] max2_int min2_int max_two min_two max_three min_three max_four min_four   -- for this text's walks alone
set_option linter.unusedVariables false
set_option linter.unusedSimpArgs false
attribute [local go_sem high] eqA25 eqA44
end Go.Proofs.Ytdlekcdedahbhaa.Q
namespace Go.Proofs.Ytdlekcdedahbhaa.Q
open Go.RowKit Go.Proofs.YtdlekcdedahbhaaW.PrintWords Go.Proofs.YtdlekcdedahbhaaW.PrintMore
set_option linter.unusedVariables false
set_option linter.unusedSimpArgs false
def Ext (V : Int → Prop) (x : Sp) : Prop := (V x.lo ∧ V x.hi) ∧ ∀ v, V v → x.lo ≤ v ∧ v ≤ x.hi
theorem Ext.uniq {V : Int → Prop} {x y : Sp} (h : Ext V x) (k : Ext V y) : x = y := by
 have a := h.2 _ k.1.1
 have b := h.2 _ k.1.2
 have c := k.2 _ h.1.1
 have d := k.2 _ h.1.2
 obtain ⟨x1, x2⟩ := x
 obtain ⟨y1, y2⟩ := y
 simp only at a b c d
 rw [show x1 = y1 by omega, show x2 = y2 by omega]
theorem Ext.congr {V W : Int → Prop} {x : Sp} (h : Ext V x) (e : ∀ v, W v ↔ V v) : Ext W x := ⟨⟨(e _).2 h.1.1, (e _).2 h.1.2⟩, fun v hv => h.2 v ((e v).1 hv)⟩
theorem Ext.join {V W U : Int → Prop} {x y : Sp} (h : Ext V x) (k : Ext W y) (e : ∀ v, U v ↔ V v ∨ W v) : Ext U ⟨min x.lo y.lo, max x.hi y.hi⟩ := by
 refine ⟨⟨(e _).2 ?_, (e _).2 ?_⟩, fun v hv => ?_⟩
 ·rcases Int.le_total x.lo y.lo with q | q
  ·simp only [Int.min_eq_left q]; exact Or.inl h.1.1
  ·simp only [Int.min_eq_right q]; exact Or.inr k.1.1
 ·rcases Int.le_total x.hi y.hi with q | q
  ·simp only [Int.max_eq_right q]; exact Or.inr k.1.2
  ·simp only [Int.max_eq_left q]; exact Or.inl h.1.2
 ·simp only
  rcases (e v).1 hv with q | q
  ·have := h.2 v q; omega
  ·have := k.2 v q; omega
def Ext3 (Q : Nat → Nat → Nat → Prop) (s : List Sp) : Prop := ∃ x y z, s = [x, y, z] ∧ Ext (fun v => ∃ c h p : Nat, Q c h p ∧ v = c) x ∧ Ext (fun v => ∃ c h p : Nat, Q c h p ∧ v = h) y ∧ Ext (fun v => ∃ c h p : Nat, Q c h p ∧ v = p) z
theorem Ext3.uniq {Q s r} (h : Ext3 Q s) (k : Ext3 Q r) : s = r := by
 obtain ⟨x, y, z, rfl, h1, h2, h3⟩ := h
 obtain ⟨x', y', z', rfl, k1, k2, k3⟩ := k
 rw [h1.uniq k1, h2.uniq k2, h3.uniq k3]
theorem Ext3.congr {Q R : Nat → Nat → Nat → Prop} {s} (h : Ext3 Q s) (e : ∀ c h p, R c h p ↔ Q c h p) : Ext3 R s := by
 have : R = Q := by funext c h p; exact propext (e c h p)
 rw [this]
 exact h
def St (nl : List Sp) (Q : Nat → Nat → Nat → Prop) (m : Int) (s : List Sp) : Prop := (m = 0 ∧ s = nl ∧ ∀ c h p, ¬ Q c h p) ∨ (0 < m ∧ Ext3 Q s)
theorem St.congr {nl Q R m s} (h : St nl Q m s) (e : ∀ c h p, R c h p ↔ Q c h p) : St nl R m s := by
 have : R = Q := by funext c h p; exact propext (e c h p)
 rw [this]
 exact h
theorem mxm (a b : Int) : mx a b = max a b := by unfold mx; split <;> omega
theorem mnm (a b : Int) : mn a b = min a b := by unfold mn; split <;> omega
theorem ofSp_len (s : List Sp) : (ofSp s).length = s.length := by simp [ofSp]
end Go.Proofs.Ytdlekcdedahbhaa.Q
namespace Go.Proofs.Ytdlekcdedahbhaa.Q
open Go.RowKit Go.Proofs.YtdlekcdedahbhaaW.PrintWords
set_option linter.unusedVariables false
set_option linter.unusedSimpArgs false
def runA : Acc → List Ent → List Int → Acc
 | now, x :: xs, n :: ys => runA (afterA now ⟨x.f, x.t, n⟩) xs ys
 | now, _, _ => now
theorem last_get (now : Acc) (x : Ent) (n : Int) (hx : (0 ≤ x.f ∧ x.f ≤ 5) ∧ (0 ≤ x.t ∧ x.t ≤ 5) ∧ x.f ≠ x.t) : (afterA now ⟨x.f, x.t, n⟩).get x.t = now.get x.t + n := by
 obtain ⟨h1, h2, h3⟩ := hx
 have ht : x.t = 0 ∨ x.t = 1 ∨ x.t = 2 ∨ x.t = 3 ∨ x.t = 4 ∨ x.t = 5 := by omega
 rw [get_after now _ x.t ht]
 unfold dlt
 simp [h3]
theorem ways_mem (want : Acc) : ∀ (xs : List Ent) (now : Acc) (y : List Int), (∀ x ∈ xs, (0 ≤ x.f ∧ x.f ≤ 5) ∧ (0 ≤ x.t ∧ x.t ≤ 5) ∧ x.f ≠ x.t) → (y ∈ waysL want xs now ↔ y.length = xs.length ∧ (∀ n ∈ y, 0 ≤ n ∧ n ≤ 100) ∧ runA now xs y = want)
 | [], now, y, hx => by
  unfold waysL
  constructor
  ·intro h
   split at h
   ·rename_i hw
    rw [List.mem_singleton] at h
    subst h
    exact ⟨rfl, (fun n hn => by cases hn), by simpa [runA] using hw⟩
   ·cases h
  ·rintro ⟨h1, h2, h3⟩
   have : y = [] := List.length_eq_zero_iff.1 h1
   subst this
   rw [if_pos (by simpa [runA] using h3)]
   simp
 | x :: xs, now, y, hx => by
  have hx0 := hx x (List.mem_cons_self ..)
  have ih := fun now y => ways_mem want xs now y (fun z hz => hx z (List.mem_cons_of_mem _ hz))
  have hlast : xs.length = 0 → ∀ n, runA now (x :: xs) [n] = want → n = want.get x.t - now.get x.t := fun h n hr => by
   have : xs = [] := List.length_eq_zero_iff.1 h
   subst this
   simp only [runA] at hr
   rw [← hr, last_get now x n hx0]
   omega
  have hlo : 0 ≤ wayLo want now x xs := by unfold wayLo; omega
  have hhi : wayHi want now x xs ≤ 100 := by unfold wayHi; omega
  rw [waysL, List.mem_flatMap]
  constructor
  ·rintro ⟨j, hj, h⟩
   obtain ⟨z, hz, rfl⟩ := List.mem_map.1 h
   obtain ⟨h1, h2, h3⟩ := (ih _ _).1 hz
   have hj2 := List.mem_range.1 hj
   unfold wayN at hj2
   refine ⟨by simp [h1], fun n hn => ?_, h3⟩
   rcases List.mem_cons.1 hn with rfl | hn
   ·omega
   ·exact h2 n hn
  ·rintro ⟨h1, h2, h3⟩
   obtain ⟨n, z, rfl⟩ : ∃ n z, y = n :: z := by
    cases y with
    | nil => simp at h1
    | cons n z => exact ⟨n, z, rfl⟩
   have hn := h2 n (List.mem_cons_self ..)
   have hz : z.length = xs.length := by simpa using h1
   have hb : wayLo want now x xs ≤ n ∧ n ≤ wayHi want now x xs := by
    unfold wayLo wayHi
    by_cases c : xs.length = 0
    ·have hz0 : z = [] := List.length_eq_zero_iff.1 (by omega)
     subst hz0
     have := hlast c n h3
     rw [if_pos c]
     omega
    ·rw [if_neg c, if_neg c]
     omega
   refine ⟨(n - wayLo want now x xs).toNat, List.mem_range.2 (by unfold wayN; omega), List.mem_map.2 ⟨z, ?_, ?_⟩⟩
   ·rw [show wayLo want now x xs + ((n - wayLo want now x xs).toNat : Int) = n by omega]
    exact (ih _ _).2 ⟨hz, fun k hk => h2 k (List.mem_cons_of_mem _ hk), h3⟩
   ·rw [show wayLo want now x xs + ((n - wayLo want now x xs).toNat : Int) = n by omega]
def ExtL (ys : List Int → Prop) (k : Nat) (s : List Sp) : Prop := s.length = k ∧ ∀ i : Nat, i < k → Ext (fun v => ∃ y, ys y ∧ v = rd y (i : Int)) (rdS s i)
theorem ExtL.uniq {ys k s r} (h : ExtL ys k s) (g : ExtL ys k r) : s = r := by
 refine List.ext_getElem (by rw [h.1, g.1]) fun i h1 h2 => ?_
 have a := h.2 i (by rw [← h.1]; exact h1)
 have b := g.2 i (by rw [← h.1]; exact h1)
 have e := a.uniq b
 simpa [rdS, h1, h2] using e
theorem joinAt_get (s : List Sp) (y : List Int) (hl : s.length = y.length) : ∀ k, k ≤ y.length → (joinAt s y k).length = s.length ∧ ∀ i : Nat, i < y.length → rdS (joinAt s y k) i = if i < k then ⟨min (rdS s i).lo (rd y (i : Int)), max (rdS s i).hi (rd y (i : Int))⟩ else rdS s i
 | 0, _ => ⟨rfl, fun i hi => by simp [joinAt]⟩
 | k + 1, hk => by
  obtain ⟨h1, h2⟩ := joinAt_get s y hl k (by omega)
  have h3 := h2 k (by omega)
  rw [if_neg (Nat.lt_irrefl k)] at h3
  refine ⟨by rw [joinAt, List.length_set]; exact h1, fun i hi => ?_⟩
  have hk1 : k < (joinAt s y k).length := by omega
  have hi1 : i < (joinAt s y k).length := by omega
  rw [joinAt, h3]
  by_cases c : i = k
  ·subst c
   rw [if_pos (by omega)]
   simp [rdS, hk1]
  ·have e : rdS ((joinAt s y k).set k ⟨min (rdS s k).lo (rd y (k : Int)), max (rdS s k).hi (rd y (k : Int))⟩) i = rdS (joinAt s y k) i := by
    simp [rdS, List.getD_eq_getElem?_getD, List.getElem?_set, show ¬ k = i from fun h => c h.symm]
   rw [e, h2 i hi]
   by_cases c2 : i < k
   ·rw [if_pos c2, if_pos (by omega)]
   ·rw [if_neg c2, if_neg (by omega)]
theorem extL_join {ys : List Int → Prop} {k : Nat} {s : List Sp} {y : List Int} (h : ExtL ys k s) (hy : y.length = k) (zs : List Int → Prop) (e : ∀ z, zs z ↔ ys z ∨ z = y) : ExtL zs k (joinAll s y) := by
 obtain ⟨h1, h2⟩ := h
 obtain ⟨j1, j2⟩ := joinAt_get s y (by omega) y.length (by omega)
 refine ⟨by unfold joinAll; omega, fun i hi => ?_⟩
 unfold joinAll
 rw [j2 i (by omega), if_pos (by omega)]
 refine (h2 i hi).join (W := fun v => v = rd y (i : Int)) (y := ⟨rd y (i : Int), rd y (i : Int)⟩) ⟨⟨rfl, rfl⟩, fun v hv => by simp only [hv]; omega⟩ fun v => ?_
 constructor
 ·rintro ⟨z, hz, rfl⟩
  rcases (e z).1 hz with q | rfl
  ·exact Or.inl ⟨z, q, rfl⟩
  ·exact Or.inr rfl
 ·rintro (⟨z, q, rfl⟩ | rfl)
  ·exact ⟨z, (e z).2 (Or.inl q), rfl⟩
  ·exact ⟨y, (e y).2 (Or.inr rfl), rfl⟩
theorem initAt_get (y : List Int) : ∀ k, k ≤ y.length → (initAt y k).length = y.length ∧ ∀ i : Nat, i < k → rdS (initAt y k) i = ⟨rd y (i : Int), rd y (i : Int)⟩
 | 0, _ => ⟨by simp [initAt], fun i hi => by omega⟩
 | k + 1, hk => by
  obtain ⟨h1, h2⟩ := initAt_get y k (by omega)
  refine ⟨by rw [initAt, List.length_set]; exact h1, fun i hi => ?_⟩
  have hk1 : k < (initAt y k).length := by omega
  rw [initAt]
  by_cases c : i = k
  ·subst c
   simp [rdS, hk1]
  ·have e : rdS ((initAt y k).set k ⟨rd y (k : Int), rd y (k : Int)⟩) i = rdS (initAt y k) i := by
    simp [rdS, List.getD_eq_getElem?_getD, List.getElem?_set, show ¬ k = i from fun h => c h.symm]
   rw [e, h2 i (by omega)]
theorem extL_one (y : List Int) (k : Nat) (hy : y.length = k) : ExtL (fun z => z = y) k (initAll y) := by
 obtain ⟨h1, h2⟩ := initAt_get y y.length (by omega)
 refine ⟨by unfold initAll; omega, fun i hi => ?_⟩
 unfold initAll
 rw [h2 i (by omega)]
 refine ⟨⟨⟨y, rfl, rfl⟩, ⟨y, rfl, rfl⟩⟩, fun v hv => ?_⟩
 obtain ⟨z, rfl, rfl⟩ := hv
 simp only
 omega
theorem extL_fold (k : Nat) : ∀ (L : List (List Int)) (ys : List Int → Prop) (s : List Sp), (∀ y ∈ L, y.length = k) → ExtL ys k s → ExtL (fun z => ys z ∨ z ∈ L) k (L.foldl joinAll s)
 | [], ys, s, hL, h => by simpa using h
 | y :: L, ys, s, hL, h => by
  have h1 := extL_join h (hL y (List.mem_cons_self ..)) (fun z => ys z ∨ z = y) (fun z => Iff.rfl)
  have h2 := extL_fold k L _ _ (fun z hz => hL z (List.mem_cons_of_mem _ hz)) h1
  have e : (fun z => (ys z ∨ z = y) ∨ z ∈ L) = fun z => ys z ∨ z ∈ y :: L := by
   funext z
   rw [List.mem_cons, or_assoc]
  rw [e] at h2
  exact h2
theorem fill_ext (k : Nat) (L : List (List Int)) (h0 : L ≠ []) (hL : ∀ y ∈ L, y.length = k) : ExtL (fun z => z ∈ L) k (fillTo L) := by
 cases L with
 | nil => exact absurd rfl h0
 | cons y L =>
  have hy := hL y (List.mem_cons_self ..)
  have h1 := extL_join (extL_one y k hy) hy (fun z => z = y) (fun z => by simp)
  have h2 := extL_fold k L _ _ (fun z hz => hL z (List.mem_cons_of_mem _ hz)) h1
  have e : (fun z => z = y ∨ z ∈ L) = fun z => z ∈ y :: L := by
   funext z
   rw [List.mem_cons]
  rw [e] at h2
  exact h2
def StF (ys : List Int → Prop) (k : Nat) (found : Bool) (s : List Sp) : Prop := (found = false ∧ s = List.replicate k ⟨101, -1⟩ ∧ ∀ y, ¬ ys y) ∨ (found = true ∧ (∃ y, ys y) ∧ ExtL ys k s)
theorem stF_join {ys : List Int → Prop} {k : Nat} {f : Bool} {s : List Sp} {y : List Int} (h : StF ys k f s) (hy : y.length = k) (hb : ∀ n ∈ y, 0 ≤ n ∧ n ≤ 100) (zs : List Int → Prop) (e : ∀ z, zs z ↔ ys z ∨ z = y) : StF zs k true (joinAll s y) := by
 refine Or.inr ⟨rfl, ⟨y, (e y).2 (Or.inr rfl)⟩, ?_⟩
 rcases h with ⟨h1, h2, h3⟩ | ⟨h1, h2, h3⟩
 ·obtain ⟨j1, j2⟩ := joinAt_get s y (by rw [h2, List.length_replicate, hy]) y.length (by omega)
  refine ⟨by unfold joinAll; rw [j1, h2, List.length_replicate], fun i hi => ?_⟩
  unfold joinAll
  have hm : 0 ≤ rd y (i : Int) ∧ rd y (i : Int) ≤ 100 := by
   have e : rd y (i : Int) = y[i]'(by omega) := rdI y i (by omega)
   rw [e]
   exact hb _ (List.getElem_mem _)
  have hr : rdS s i = ⟨101, -1⟩ := by
   rw [h2]
   simp [rdS, hi]
  rw [j2 i (by omega), if_pos (by omega), hr]
  simp only
  rw [show min 101 (rd y (i : Int)) = rd y (i : Int) by omega, show max (-1) (rd y (i : Int)) = rd y (i : Int) by omega]
  refine ⟨⟨⟨y, (e y).2 (Or.inr rfl), rfl⟩, ⟨y, (e y).2 (Or.inr rfl), rfl⟩⟩, fun v hv => ?_⟩
  obtain ⟨z, hz, rfl⟩ := hv
  obtain rfl : z = y := ((e z).1 hz).resolve_left (h3 z)
  simp only
  omega
 ·exact extL_join h3 hy zs e
theorem StF.congr {ys zs : List Int → Prop} {k : Nat} {f : Bool} {s : List Sp} (h : StF ys k f s) (e : ∀ z, zs z ↔ ys z) : StF zs k f s := by
 have : zs = ys := by funext z; exact propext (e z)
 rw [this]
 exact h
theorem fill_both (k : Nat) (L : List (List Int)) (hL : ∀ y ∈ L, y.length = k) (f : Bool) (s : List Sp) (h : StF (fun z => z ∈ L) k f s) : f = decide (L ≠ []) ∧ (L ≠ [] → s = fillTo L) := by
 rcases h with ⟨h1, h2, h3⟩ | ⟨h1, ⟨y, h2⟩, h3⟩
 ·have : L = [] := List.eq_nil_iff_forall_not_mem.2 h3
  exact ⟨by rw [h1, this]; simp, fun h => absurd this h⟩
 ·have h0 : L ≠ [] := fun h => by rw [h] at h2; cases h2
  exact ⟨by rw [h1]; simp [h0], fun _ => h3.uniq (fill_ext k L h0 hL)⟩
def dig : Nat → Nat → List Int
 | 0, _ => []
 | k + 1, c => ((c % 101 : Nat) : Int) :: dig k (c / 101)
theorem dig_len : ∀ k c, (dig k c).length = k
 | 0, _ => rfl
 | k + 1, c => by rw [dig, List.length_cons, dig_len k]
theorem dig_bd : ∀ k c, ∀ n ∈ dig k c, 0 ≤ n ∧ n ≤ 100
 | 0, _, n, h => by cases h
 | k + 1, c, n, h => by
  rw [dig] at h
  rcases List.mem_cons.1 h with rfl | h
  ·omega
  ·exact dig_bd k _ n h
theorem dig_onto : ∀ (k : Nat) (z : List Int), z.length = k → (∀ n ∈ z, 0 ≤ n ∧ n ≤ 100) → ∃ c, c < 101 ^ k ∧ dig k c = z
 | 0, z, h, _ => ⟨0, by simp, by rw [List.length_eq_zero_iff.1 h]; rfl⟩
 | k + 1, z, h, hb => by
  obtain ⟨n, z', rfl⟩ : ∃ n z', z = n :: z' := by
   cases z with
   | nil => simp at h
   | cons n z' => exact ⟨n, z', rfl⟩
  obtain ⟨c, hc, hd⟩ := dig_onto k z' (by simpa using h) (fun m hm => hb m (List.mem_cons_of_mem _ hm))
  have hn := hb n (List.mem_cons_self ..)
  refine ⟨n.toNat + 101 * c, by rw [Nat.pow_succ]; omega, ?_⟩
  rw [dig, show (n.toNat + 101 * c) % 101 = n.toNat by omega, show (n.toNat + 101 * c) / 101 = c by omega, hd, Int.toNat_of_nonneg hn.1]
theorem runA_snoc : ∀ (xs : List Ent) (x : Ent) (z : List Int) (n : Int) (now : Acc), z.length = xs.length → runA now (xs ++ [x]) (z ++ [n]) = afterA (runA now xs z) ⟨x.f, x.t, n⟩
 | [], x, z, n, now, h => by
  rw [List.length_eq_zero_iff.1 h]
  rfl
 | y :: xs, x, [], n, now, h => by simp at h
 | y :: xs, x, m :: z, n, now, h => by
  simp only [List.cons_append, runA]
  exact runA_snoc xs x z n _ (by simpa using h)
def lastN (now want : Acc) (xs : List Ent) (x : Ent) (c : Nat) : Int := want.get x.t - (runA now xs (dig xs.length c)).get x.t
def okC (now want : Acc) (xs : List Ent) (x : Ent) (c : Nat) : Prop := (0 ≤ lastN now want xs x c ∧ lastN now want xs x c ≤ 100) ∧ afterA (runA now xs (dig xs.length c)) ⟨x.f, x.t, lastN now want xs x c⟩ = want
def wayC (now want : Acc) (xs : List Ent) (x : Ent) (c : Nat) : List Int := dig xs.length c ++ [lastN now want xs x c]
def YC (now want : Acc) (xs : List Ent) (x : Ent) (c0 : Nat) (z : List Int) : Prop := ∃ c, c < c0 ∧ okC now want xs x c ∧ z = wayC now want xs x c
theorem YC_all (now want : Acc) (xs : List Ent) (x : Ent) (hx : ∀ y ∈ xs ++ [x], (0 ≤ y.f ∧ y.f ≤ 5) ∧ (0 ≤ y.t ∧ y.t ≤ 5) ∧ y.f ≠ y.t) (z : List Int) : YC now want xs x (101 ^ xs.length) z ↔ z ∈ waysL want (xs ++ [x]) now := by
 rw [ways_mem want (xs ++ [x]) now z hx]
 constructor
 ·rintro ⟨c, hc, ⟨h1, h2⟩, rfl⟩
  unfold wayC
  refine ⟨by simp [dig_len], fun n hn => ?_, ?_⟩
  ·rcases List.mem_append.1 hn with hn | hn
   ·exact dig_bd _ _ n hn
   ·rw [List.mem_singleton.1 hn]; exact h1
  ·rw [runA_snoc xs x _ _ now (dig_len _ _)]
   exact h2
 ·rintro ⟨h1, h2, h3⟩
  obtain ⟨z', n, rfl⟩ : ∃ z' n, z = z' ++ [n] := by
   rcases List.eq_nil_or_concat z with rfl | ⟨z', n, h⟩
   ·simp at h1
   ·exact ⟨z', n, by simpa using h⟩
  have hl : z'.length = xs.length := by simpa using h1
  rw [runA_snoc xs x z' n now hl] at h3
  obtain ⟨c, hc, hd⟩ := dig_onto xs.length z' hl (fun m hm => h2 m (List.mem_append_left _ hm))
  have hn : lastN now want xs x c = n := by
   unfold lastN
   rw [hd, ← h3, last_get _ x n (hx x (by simp))]
   omega
  refine ⟨c, hc, ⟨?_, ?_⟩, ?_⟩
  ·rw [hn]; exact h2 n (by simp)
  ·rw [hn, hd]; exact h3
  ·unfold wayC
   rw [hn, hd]
theorem YC_yes (now want : Acc) (xs : List Ent) (x : Ent) (c : Nat) (h : okC now want xs x c) (z : List Int) : YC now want xs x (c + 1) z ↔ YC now want xs x c z ∨ z = wayC now want xs x c := by
 constructor
 ·rintro ⟨d, h1, h2, rfl⟩
  by_cases e : d = c
  ·rw [e]; exact Or.inr rfl
  ·exact Or.inl ⟨d, by omega, h2, rfl⟩
 ·rintro (⟨d, h1, h2, rfl⟩ | rfl)
  ·exact ⟨d, by omega, h2, rfl⟩
  ·exact ⟨c, by omega, h, rfl⟩
theorem YC_no (now want : Acc) (xs : List Ent) (x : Ent) (c : Nat) (h : ¬ okC now want xs x c) (z : List Int) : YC now want xs x (c + 1) z ↔ YC now want xs x c z := by
 constructor
 ·rintro ⟨d, h1, h2, rfl⟩
  by_cases e : d = c
  ·rw [e] at h2; exact absurd h2 h
  ·exact ⟨d, by omega, h2, rfl⟩
 ·rintro ⟨d, h1, h2, rfl⟩
  exact ⟨d, by omega, h2, rfl⟩
theorem accL_get (a : Acc) (i : Nat) (h : i < 6) : rd (accL a) (i : Int) = a.get i := by
 obtain rfl | rfl | rfl | rfl | rfl | rfl : i = 0 ∨ i = 1 ∨ i = 2 ∨ i = 3 ∨ i = 4 ∨ i = 5 := by omega
 all_goals rfl
theorem accL_set (a : Acc) (f t n : Int) (hf : 0 ≤ f ∧ f ≤ 5) (ht : 0 ≤ t ∧ t ≤ 5) (hne : f ≠ t) : ((accL a).set f.toNat (rd (accL a) f - n)).set t.toNat (rd ((accL a).set f.toNat (rd (accL a) f - n)) t + n) = accL (afterA a ⟨f, t, n⟩) := by
 cases a
 have h1 : f = 0 ∨ f = 1 ∨ f = 2 ∨ f = 3 ∨ f = 4 ∨ f = 5 := by omega
 have h2 : t = 0 ∨ t = 1 ∨ t = 2 ∨ t = 3 ∨ t = 4 ∨ t = 5 := by omega
 rcases h1 with rfl | rfl | rfl | rfl | rfl | rfl <;> rcases h2 with rfl | rfl | rfl | rfl | rfl | rfl <;> first | exact absurd rfl hne | (simp [accL, afterA, Acc.add, rd, Int.sub_eq_add_neg]; done)
theorem readL_bal (l : List Ent) (h : l.all entB = true) : balR l = allA (readL l) := by
 have key : ∀ (l : List Ent) (a : Acc), l.all entB = true → l.foldl (fun a x => if 0 < x.a then afterA a x else a) a = (readL l).foldl afterA a := by
  intro l
  induction l with
  | nil => intros; rfl
  | cons x l ih =>
   intro a h2
   simp only [List.all_cons, Bool.and_eq_true] at h2
   have hx := (entB_iff x).1 h2.1
   rw [List.foldl_cons, ih _ h2.2]
   unfold readL
   by_cases h3 : 0 < x.a
   ·have e : (!(x.a == -1)) = true := by simp; omega
    rw [if_pos h3, List.filter_cons, if_pos e, List.foldl_cons]
   ·rw [if_neg h3]
    by_cases h4 : x.a = -1
    ·have e : ¬ (!(x.a == -1)) = true := by simp [h4]
     rw [List.filter_cons, if_neg e]
    ·have e : (!(x.a == -1)) = true := by simpa using h4
     have e2 : afterA a x = a := by
      have h0 : x.a = 0 := by omega
      cases a
      simp [afterA, Acc.add, h0]
     rw [List.filter_cons, if_pos e, List.foldl_cons, e2]
 exact key l z_Acc h
def idxTo (l : List Ent) : Nat → List Int
 | 0 => []
 | k + 1 => if (rdEnt l k).a = -1 then idxTo l k ++ [(k : Int)] else idxTo l k
theorem idx_len (l : List Ent) : ∀ k, (idxTo l k).length ≤ k
 | 0 => by simp [idxTo]
 | k + 1 => by
  have := idx_len l k
  rw [idxTo]
  split
  ·rw [List.length_append, List.length_singleton]; omega
  ·omega
theorem idx_of (l : List Ent) : ∀ k, k ≤ l.length → (idxTo l k).length = (blotsL (l.take k)).length ∧ ∀ i : Nat, i < (idxTo l k).length → ∃ j : Nat, j < k ∧ rd (idxTo l k) (i : Int) = (j : Int) ∧ rdEnt (blotsL (l.take k)) i = rdEnt l j
 | 0, _ => by simp [idxTo, blotsL]
 | k + 1, h => by
  obtain ⟨h1, h2⟩ := idx_of l k (by omega)
  rw [idxTo, blotsL_take l k (by omega)]
  split
  ·refine ⟨by simp [h1], fun i hi => ?_⟩
   rw [List.length_append, List.length_singleton] at hi
   by_cases c : i < (idxTo l k).length
   ·obtain ⟨j, h3, h4, h5⟩ := h2 i c
    refine ⟨j, by omega, ?_, ?_⟩
    ·rw [← h4]
     simp [rd, List.getD_eq_getElem?_getD, List.getElem?_append_left c]
    ·rw [← h5]
     simp [rdEnt, List.getD_eq_getElem?_getD, List.getElem?_append_left (show i < (blotsL (l.take k)).length by omega)]
   ·obtain rfl : i = (idxTo l k).length := by omega
    refine ⟨k, by omega, ?_, ?_⟩
    ·simp [rd]
    ·rw [h1]
     simp [rdEnt]
  ·refine ⟨h1, fun i hi => ?_⟩
   obtain ⟨j, h3, h4, h5⟩ := h2 i hi
   exact ⟨j, by omega, h4, h5⟩
theorem Blots_l0 (x0 : List S101) (hl : x0.length ≤ 1000) : ∀ (d i : Nat), i + d = x0.length → Ev (fun k => rf_Blots.l0 k x0 (idxTo (toEnt x0) i) (i : Int)) (idxTo (toEnt x0) x0.length)
 | 0, i, h => by
  refine Ev.up ?_
  simp only [rf_Blots.l0, if_neg (show ¬ (i : Int) < (x0.length : Int) by omega)]
  rw [show i = x0.length by omega]
  exact Ev.now _
 | d + 1, i, h => by
  have ih := Blots_l0 x0 hl d (i + 1) (by omega)
  have e := (rd_at x0 i (by omega)).2.2
  have hb := idx_len (toEnt x0) i
  rw [idxTo] at ih
  refine Ev.up ?_
  simp only [rf_Blots.l0, if_pos (show (i : Int) < (x0.length : Int) by omega), if_pos (show (0 : Int) ≤ (i : Int) by omega), e, wi i (by omega), if_pos (show (idxTo (toEnt x0) i).length < 17592186044416 by omega)]
  by_cases c : (rdEnt (toEnt x0) i).a = -1
  ·simp only [if_pos c] at ih ⊢
   exact ih
  ·simp only [if_neg c] at ih ⊢
   exact ih
theorem Blots_f (x0 : List S101) (hl : x0.length ≤ 1000) : Ev (fun k => rf_Blots.f k x0) (idxTo (toEnt x0) x0.length) := Blots_l0 x0 hl x0.length 0 (by omega)
structure Fl (x0 : List S101) (x1 bs : List Int) (xs : List Ent) (x : Ent) : Prop where
 n : x0.length ≤ 12
 all : (toEnt x0).all entB = true
 b : balB x1 = true
 nb : bs.length = xs.length + 1
 n2 : xs.length ≤ 2
 at_ : ∀ i : Nat, i < bs.length → ∃ j : Nat, j < x0.length ∧ rd bs (i : Int) = (j : Int) ∧ (rd_T101 x0 (j : Int)).f0 = (rdEnt (xs ++ [x]) i).f ∧ (rd_T101 x0 (j : Int)).f1 = (rdEnt (xs ++ [x]) i).t
 ok : ∀ y ∈ xs ++ [x], (0 ≤ y.f ∧ y.f ≤ 5) ∧ (0 ≤ y.t ∧ y.t ≤ 5) ∧ y.f ≠ y.t
theorem Fill_l4 (x0 : List S101) (x1 bs : List Int) (x10 : List Int) (x11 x12 : Int) (c : Nat) (y : List Int) (s : List Sp) (hl : s.length = y.length) (hy : y.length ≤ 3) (hc : c ≤ 1000000) (R : List S44 × Bool) (hR : Ev (fun k => rf_Fill.l2 k x0 x1 bs (ofSp (joinAll s y)) true x10 x11 x12 ((c + 1 : Nat) : Int)) R) :
  ∀ (d i : Nat), i + d = y.length → Ev (fun k => rf_Fill.l4 k x0 x1 bs (ofSp (joinAt s y i)) true x10 x11 x12 (c : Int) y (i : Int)) R
 | 0, i, h => by
  refine Ev.up ?_
  simp only [rf_Fill.l4, if_neg (show ¬ (i : Int) < (y.length : Int) by omega)]
  rw [wr (by omega), show (c : Int) + 1 = ((c + 1 : Nat) : Int) by omega, show i = y.length by omega]
  exact hR
 | d + 1, i, h => by
  have ih := Fill_l4 x0 x1 bs x10 x11 x12 c y s hl hy hc R hR d (i + 1) (by omega)
  have hj := (joinAt_get s y hl i (by omega)).1
  have hr : rd_T44 (ofSp (joinAt s y i)) (i : Int) = ⟨(rdS (joinAt s y i) i).lo, (rdS (joinAt s y i) i).hi⟩ := by
   simp [rd_T44, ofSp, rdS, hj, hl, show i < y.length by omega]
  have e : ofSp (joinAt s y (i + 1)) = (ofSp (joinAt s y i)).set i ⟨mn (rdS (joinAt s y i) i).lo (rd y (i : Int)), mx (rdS (joinAt s y i) i).hi (rd y (i : Int))⟩ := by
   rw [joinAt, mxm, mnm]
   simp [ofSp, List.map_set]
  rw [e] at ih
  refine Ev.up ?_
  simp only [rf_Fill.l4, if_pos (show (i : Int) < (y.length : Int) by omega), if_pos (show (0 : Int) ≤ (i : Int) by omega), ofSp_len, hj, if_pos (show (i : Int) < (s.length : Int) by omega), hr, Int.toNat_natCast, wi i (by omega)]
  exact ih
theorem set_wrap (a : Acc) (B : Int) (hB : AccB B a) (h0 : 0 ≤ B ∧ B ≤ 10000000) (f t n : Int) (hf : 0 ≤ f ∧ f ≤ 5) (ht : 0 ≤ t ∧ t ≤ 5) (hne : f ≠ t) (hn : -10000000 ≤ n ∧ n ≤ 10000000) :
  (accL a).set f.toNat (wrap64 (rd (accL a) f - n)) = (accL a).set f.toNat (rd (accL a) f - n) ∧ wrap64 (rd ((accL a).set f.toNat (rd (accL a) f - n)) t + n) = rd ((accL a).set f.toNat (rd (accL a) f - n)) t + n := by
 have h1 := hB.get h0.1 f
 have h2 := hB.get h0.1 t
 have e1 : rd (accL a) f = a.get f := by
  have := accL_get a f.toNat (by omega)
  rwa [Int.toNat_of_nonneg hf.1] at this
 have e2 : rd (accL a) t = a.get t := by
  have := accL_get a t.toNat (by omega)
  rwa [Int.toNat_of_nonneg ht.1] at this
 have e3 : rd ((accL a).set f.toNat (rd (accL a) f - n)) t = rd (accL a) t := by
  simp [rd, List.getD_eq_getElem?_getD, List.getElem?_set, show ¬ f.toNat = t.toNat by omega]
 refine ⟨by rw [wr (by omega)], wr (by omega)⟩
theorem Fill_l3 (x0 : List S101) (x1 bs : List Int) (xs : List Ent) (x : Ent) (F : Fl x0 x1 bs xs x) (x10 : List Int) (x12 : Int) (now : Acc) (c : Nat) (hc : c ≤ 1000000) (f : Bool) (s : List Sp) (hs : s.length = xs.length + 1) (R : List S44 × Bool)
  (hN : ¬ okC now (balA x1) xs x c → Ev (fun k => rf_Fill.l2 k x0 x1 bs (ofSp s) f x10 (xs.length : Int) x12 ((c + 1 : Nat) : Int)) R)
  (hY : okC now (balA x1) xs x c → Ev (fun k => rf_Fill.l2 k x0 x1 bs (ofSp (joinAll s (wayC now (balA x1) xs x c))) true x10 (xs.length : Int) x12 ((c + 1 : Nat) : Int)) R) :
  ∀ (d i : Nat) (a : Acc) (ds : List Int) (c' : Nat), i + d = xs.length → AccB (10000 + 200 * (i : Int)) a → c' ≤ 1000000 → ds.length = i → runA a (xs.drop i) (dig d c') = runA now xs (dig xs.length c) → ds ++ dig d c' = dig xs.length c → Ev (fun k => rf_Fill.l3 k x0 x1 bs (ofSp s) f x10 (xs.length : Int) x12 (c : Int) (accL a) ds (c' : Int) (i : Int)) R
 | 0, i, a, ds, c', h, hB, hc', hds, hrun, hdig => by
  have n2 := F.n2; have nb := F.nb
  obtain ⟨j, hj, ej, e0, e1⟩ := F.at_ xs.length (by omega)
  have hlast : rdEnt (xs ++ [x]) xs.length = x := by simp [rdEnt]
  rw [hlast] at e0 e1
  obtain ⟨ok1, ok2, ok3⟩ := F.ok x (by simp)
  obtain ⟨b6, bb⟩ := (balB_iff x1).1 F.b
  have hi : i = xs.length := by omega
  rw [dig, List.append_nil] at hdig
  rw [List.drop_eq_nil_of_le (by omega)] at hrun
  have ha : a = runA now xs (dig xs.length c) := by simpa [runA] using hrun
  have la : (accL a).length = 6 := by simp [accL]
  have hw : balA x1 = balA x1 := rfl
  have eb : rd x1 x.t = (balA x1).get x.t := by
   have h1 := accL_get (balA x1) x.t.toNat (by omega)
   rw [accL_balA x1 F.b, Int.toNat_of_nonneg ok2.1] at h1
   exact h1
  have ea : rd (accL a) x.t = a.get x.t := by
   have h1 := accL_get a x.t.toNat (by omega)
   rwa [Int.toNat_of_nonneg ok2.1] at h1
  have hab := hB.get (by omega) x.t
  have hbb := (balA_bd x1 F.b).get (by omega) x.t
  have eN : wrap64 (rd x1 x.t - rd (accL a) x.t) = lastN now (balA x1) xs x c := by
   rw [wr (by omega), eb, ea, ha]
   rfl
  have hNb : -10000000 ≤ lastN now (balA x1) xs x c ∧ lastN now (balA x1) xs x c ≤ 10000000 := by
   rw [← eN, wr (by omega)]
   omega
  obtain ⟨w1, w2⟩ := set_wrap a _ hB (by omega) x.f x.t (lastN now (balA x1) xs x c) ok1 ok2 ok3 hNb
  have hset := accL_set a x.f x.t (lastN now (balA x1) xs x c) ok1 ok2 ok3
  have hI := Ints_f (accL (afterA a ⟨x.f, x.t, lastN now (balA x1) xs x c⟩)) x1 (by simp [accL])
  have hdec : decide (accL (afterA a ⟨x.f, x.t, lastN now (balA x1) xs x c⟩) = x1) = decide (afterA a ⟨x.f, x.t, lastN now (balA x1) xs x c⟩ = balA x1) := by
   rw [Bool.eq_iff_iff, decide_eq_true_eq, decide_eq_true_eq, accL_eq _ x1 F.b]
  rw [hdec] at hI
  have hno : Ev (fun k => rf_Fill.j4 k x0 x1 bs (ofSp s) f x10 (xs.length : Int) x12 (c : Int) ds (lastN now (balA x1) xs x c) true) R ∨ okC now (balA x1) xs x c := by
   by_cases o : okC now (balA x1) xs x c
   ·exact Or.inr o
   ·refine Or.inl (Ev.up ?_)
    simp only [rf_Fill.j4, if_true]
    rw [wr (by omega), show (c : Int) + 1 = ((c + 1 : Nat) : Int) by omega]
    exact hN o
  refine Ev.up ?_
  simp only [rf_Fill.l3, if_neg (show ¬ (i : Int) < (xs.length : Int) by omega), if_pos (show (0 : Int) ≤ (xs.length : Int) by omega), if_pos (show (xs.length : Int) < (bs.length : Int) by omega), ej, if_pos (show (0 : Int) ≤ (j : Int) by omega), if_pos (show (j : Int) < (x0.length : Int) by omega), e0, e1, if_pos ok1.1, if_pos ok2.1, la, b6, if_pos (show x.t < ((6 : Nat) : Int) by omega), if_pos (show x.f < ((6 : Nat) : Int) by omega), Option.bind_some, eN, w1, w2, hset, In_f]
  by_cases q : inB 0 100 [lastN now (balA x1) xs x c] = true
  ·simp only [if_pos q]
   have q2 : 0 ≤ lastN now (balA x1) xs x c ∧ lastN now (balA x1) xs x c ≤ 100 := (inB_iff _ _ _).1 q _ (by simp)
   refine Ev.bind hI ?_
   by_cases r : afterA a ⟨x.f, x.t, lastN now (balA x1) xs x c⟩ = balA x1
   ·have o : okC now (balA x1) xs x c := ⟨q2, by rw [← ha]; exact r⟩
    simp only [decide_eq_true r, Bool.not_true]
    refine Ev.up ?_
    simp only [rf_Fill.j4, Bool.false_eq_true, if_false, if_pos (show ds.length < 17592186044416 by omega)]
    have ey : ds ++ [lastN now (balA x1) xs x c] = wayC now (balA x1) xs x c := by unfold wayC; rw [hdig]
    rw [ey]
    have hyl : (wayC now (balA x1) xs x c).length = xs.length + 1 := by simp [wayC, dig_len]
    have h4 := Fill_l4 x0 x1 bs x10 (xs.length : Int) x12 c (wayC now (balA x1) xs x c) s (by omega) (by omega) hc R (hY o) (wayC now (balA x1) xs x c).length 0 (by omega)
    exact h4
   ·simp only [decide_eq_false r, Bool.not_false]
    exact hno.resolve_right fun o => r (by have := o.2; rw [← ha] at this; exact this)
  ·simp only [if_neg q]
   exact hno.resolve_right fun o => q ((inB_iff _ _ _).2 (by simpa using o.1))
 | d + 1, i, a, ds, c', h, hB, hc', hds, hrun, hdig => by
  have n2 := F.n2; have nb := F.nb
  have hi : i < xs.length := by omega
  obtain ⟨j, hj, ej, e0, e1⟩ := F.at_ i (by omega)
  have hat : rdEnt (xs ++ [x]) i = xs[i] := by simp [rdEnt, hi, List.getD_eq_getElem?_getD, List.getElem?_append_left hi]
  rw [hat] at e0 e1
  obtain ⟨ok1, ok2, ok3⟩ := F.ok xs[i] (List.mem_append_left _ (List.getElem_mem _))
  have la : (accL a).length = 6 := by simp [accL]
  have eM : (c' : Int).tmod 101 = ((c' % 101 : Nat) : Int) := by rw [Int.tmod_eq_emod_of_nonneg (by omega)]; omega
  have eD : wrap64 ((c' : Int).tdiv 101) = ((c' / 101 : Nat) : Int) := by rw [Int.tdiv_eq_ediv_of_nonneg (by omega), wr (by omega)]; omega
  obtain ⟨w1, w2⟩ := set_wrap a _ hB (by omega) xs[i].f xs[i].t ((c' % 101 : Nat) : Int) ok1 ok2 ok3 (by omega)
  have hset := accL_set a xs[i].f xs[i].t ((c' % 101 : Nat) : Int) ok1 ok2 ok3
  rw [List.drop_eq_getElem_cons hi, dig, runA] at hrun
  rw [dig] at hdig
  have hm : -100 ≤ ((c' % 101 : Nat) : Int) ∧ ((c' % 101 : Nat) : Int) ≤ 100 := by
   have := Nat.mod_lt c' (show 0 < 101 by omega)
   omega
  have hB2 : 10000 + 200 * (i : Int) + 100 + 100 ≤ 10000 + 200 * ((i + 1 : Nat) : Int) := by omega
  have ih := Fill_l3 x0 x1 bs xs x F x10 x12 now c hc f s hs R hN hY d (i + 1) (afterA a ⟨xs[i].f, xs[i].t, ((c' % 101 : Nat) : Int)⟩) (ds ++ [((c' % 101 : Nat) : Int)]) (c' / 101) (by omega) ((hB.after (m := 100) ⟨xs[i].f, xs[i].t, ((c' % 101 : Nat) : Int)⟩ hm).mono hB2) (Nat.le_trans (Nat.div_le_self _ _) hc') (by rw [List.length_append, List.length_singleton, hds]) hrun (by rw [List.append_assoc]; exact hdig)
  refine Ev.up ?_
  simp only [rf_Fill.l3, if_pos (show (i : Int) < (xs.length : Int) by omega), if_pos (show (0 : Int) ≤ (i : Int) by omega), if_pos (show (i : Int) < (bs.length : Int) by omega), ej, if_pos (show (0 : Int) ≤ (j : Int) by omega), if_pos (show (j : Int) < (x0.length : Int) by omega), e0, e1, if_pos ok1.1, if_pos ok2.1, la, if_pos (show xs[i].f < ((6 : Nat) : Int) by omega), if_pos (show xs[i].t < ((6 : Nat) : Int) by omega), Option.bind_some, eM, eD, w1, w2, hset, wi i (by omega), if_pos (show ds.length < 17592186044416 by omega)]
  exact ih
theorem stF_len {ys k f s} (h : StF ys k f s) : s.length = k := by
 rcases h with ⟨_, h, _⟩ | ⟨_, _, h⟩
 ·rw [h, List.length_replicate]
 ·exact h.1
theorem Fill_l2 (x0 : List S101) (x1 bs : List Int) (xs : List Ent) (x : Ent) (F : Fl x0 x1 bs xs x) (now : Acc) (hB : AccB 10000 now) (N : Nat) (hN : N ≤ 1000000) (R : List S44 × Bool)
  (hR : ∀ f s, StF (YC now (balA x1) xs x N) (xs.length + 1) f s → R = (ofSp s, f)) :
  ∀ (d c : Nat) (f : Bool) (s : List Sp), c + d = N → StF (YC now (balA x1) xs x c) (xs.length + 1) f s → Ev (fun k => rf_Fill.l2 k x0 x1 bs (ofSp s) f (accL now) (xs.length : Int) (N : Int) (c : Int)) R
 | 0, c, f, s, h, hS => by
  refine Ev.up ?_
  simp only [rf_Fill.l2, if_neg (show ¬ (c : Int) < (N : Int) by omega)]
  rw [show c = N by omega] at hS
  rw [hR f s hS]
  exact Ev.now _
 | d + 1, c, f, s, h, hS => by
  have n2 := F.n2
  have la : (accL now).length = 6 := by simp [accL]
  refine Ev.up ?_
  simp only [rf_Fill.l2, if_pos (show (c : Int) < (N : Int) by omega), Option.bind_some, List.length_nil, Nat.zero_add, List.nil_append, la, if_pos (show (6 : Nat) < 17592186044416 by omega)]
  exact Fill_l3 x0 x1 bs xs x F (accL now) (N : Int) now c (by omega) f s (stF_len hS) R
   (fun o => Fill_l2 x0 x1 bs xs x F now hB N hN R hR d (c + 1) f s (by omega) (hS.congr (YC_no now _ xs x c o)))
   (fun o => Fill_l2 x0 x1 bs xs x F now hB N hN R hR d (c + 1) true _ (by omega) (stF_join hS (by simp [wayC, dig_len]) (fun n hn => by
    unfold wayC at hn
    rcases List.mem_append.1 hn with hn | hn
    ·exact dig_bd _ _ n hn
    ·rw [List.mem_singleton.1 hn]; exact o.1) _ (YC_yes now _ xs x c o)))
   xs.length 0 now [] c (by omega) (hB.mono (by omega)) (by omega) rfl rfl rfl
theorem Fill_l1 (x0 : List S101) (x1 bs : List Int) (sp : List S44) (x10 : List Int) (n : Nat) (hn : n ≤ 2) (R : List S44 × Bool) (hR : Ev (fun k => rf_Fill.l2 k x0 x1 bs sp false x10 (n : Int) ((101 ^ n : Nat) : Int) 0) R) :
  ∀ (d i : Nat), i + d = n → Ev (fun k => rf_Fill.l1 k x0 x1 bs sp false x10 (n : Int) ((101 ^ i : Nat) : Int) (i : Int)) R
 | 0, i, h => by
  refine Ev.up ?_
  simp only [rf_Fill.l1, if_neg (show ¬ (i : Int) < (n : Int) by omega)]
  rw [show i = n by omega]
  exact hR
 | d + 1, i, h => by
  have ih := Fill_l1 x0 x1 bs sp x10 n hn R hR d (i + 1) (by omega)
  have e : wrap64 (((101 ^ i : Nat) : Int) * 101) = ((101 ^ (i + 1) : Nat) : Int) := by
   have hp : 101 ^ i ≤ 101 := by
    have := Nat.pow_le_pow_right (n := 101) (by omega) (show i ≤ 1 by omega)
    omega
   rw [Nat.pow_succ]
   generalize 101 ^ i = p at hp ⊢
   rw [wr (by omega)]
   omega
  refine Ev.up ?_
  simp only [rf_Fill.l1, if_pos (show (i : Int) < (n : Int) by omega), e, wi i (by omega)]
  exact ih
theorem Fill_l0 (x0 : List S101) (x1 bs : List Int) (hb : bs.length ≤ 12) (R : List S44 × Bool) (hR : Ev (fun k => rf_Fill.l0 k x0 x1 bs (ofSp (List.replicate bs.length ⟨101, -1⟩)) false (bs.length : Int)) R) :
  ∀ (d i : Nat), i + d = bs.length → Ev (fun k => rf_Fill.l0 k x0 x1 bs (ofSp (List.replicate i ⟨101, -1⟩)) false (i : Int)) R
 | 0, i, h => by
  rw [show i = bs.length by omega]
  exact hR
 | d + 1, i, h => by
  have ih := Fill_l0 x0 x1 bs hb R hR d (i + 1) (by omega)
  have e : ofSp (List.replicate (i + 1) ⟨101, -1⟩) = ofSp (List.replicate i ⟨101, -1⟩) ++ [⟨101, -1⟩] := by
   rw [List.replicate_succ']
   simp [ofSp]
  rw [e] at ih
  refine Ev.up ?_
  simp only [rf_Fill.l0, if_pos (show (i : Int) < (bs.length : Int) by omega), ofSp_len, List.length_replicate, if_pos (show i < 8796093022208 by omega), wi i (by omega)]
  exact ih
theorem Fill_f (x0 : List S101) (x1 : List Int) (hn : x0.length ≤ 12) (hall : (toEnt x0).all entB = true) (hb : balB x1 = true) (h3 : (blotsL (toEnt x0)).length ≤ 3) :
  ∃ s, Ev (fun k => rf_Fill.f k x0 x1) (ofSp s, decide (fillW (toEnt x0) x1 ≠ [])) ∧ (fillW (toEnt x0) x1 ≠ [] → s = fillTo (fillW (toEnt x0) x1)) := by
 have hE := toEnt_len x0
 obtain ⟨i1, i2⟩ := idx_of (toEnt x0) x0.length (by omega)
 rw [List.take_of_length_le (by omega)] at i1 i2
 have hBal : rf_Balances.f x0 = some (accL (allA (readL (toEnt x0)))) := by
  unfold rf_Balances.f
  rw [if_pos ⟨hall, by omega⟩, readL_bal _ hall]
 have hAB : AccB 10000 (allA (readL (toEnt x0))) := by
  have := balR_bd (toEnt x0) hall (toEnt x0).length (by omega)
  rw [List.take_of_length_le (by omega), readL_bal _ hall] at this
  exact this.mono (by omega)
 rcases List.eq_nil_or_concat (blotsL (toEnt x0)) with hnil | ⟨xs, x, hcat⟩
 ·have hbs : idxTo (toEnt x0) x0.length = [] := List.length_eq_zero_iff.1 (by rw [i1, hnil]; rfl)
  have hW : fillW (toEnt x0) x1 = if allA (readL (toEnt x0)) = balA x1 then [[]] else [] := by unfold fillW; rw [hnil, waysL]
  have hI := Ints_f (accL (allA (readL (toEnt x0)))) x1 (by simp [accL])
  have hdec : decide (accL (allA (readL (toEnt x0))) = x1) = decide (fillW (toEnt x0) x1 ≠ []) := by
   rw [Bool.eq_iff_iff, decide_eq_true_eq, decide_eq_true_eq, accL_eq _ x1 hb, hW]
   split <;> simp_all
  rw [hdec] at hI
  refine ⟨[], ?_, fun h => ?_⟩
  ·refine Ev.bind (Blots_f x0 (by omega)) ?_
   rw [hbs]
   refine Ev.up ?_
   simp only [rf_Fill.l0, List.length_nil, if_neg (show ¬ (0 : Int) < ((0 : Nat) : Int) by omega), if_pos (show ((0 : Nat) : Int) = 0 by omega), hBal, Option.bind_some]
   refine Ev.bind hI ?_
   exact Ev.now _
  ·rw [hW] at h ⊢
   split
   ·rfl
   ·rename_i h2
    rw [if_neg h2] at h
    exact absurd rfl h
 ·have hcat2 : blotsL (toEnt x0) = xs ++ [x] := by simpa using hcat
  rw [hcat2] at i1 i2 h3
  rw [List.length_append, List.length_singleton] at i1 h3
  have hmem : ∀ y ∈ xs ++ [x], (0 ≤ y.f ∧ y.f ≤ 5) ∧ (0 ≤ y.t ∧ y.t ≤ 5) ∧ y.f ≠ y.t := fun y hy => by
   rw [← hcat2] at hy
   have := (entB_iff y).1 (List.all_eq_true.1 hall y (List.mem_filter.1 hy).1)
   omega
  have F : Fl x0 x1 (idxTo (toEnt x0) x0.length) xs x := ⟨hn, hall, hb, i1, by omega, fun i hi => by
   obtain ⟨j, a1, a2, a3⟩ := i2 i hi
   obtain ⟨e0, e1, e2⟩ := rd_at x0 j a1
   exact ⟨j, a1, a2, by rw [a3]; exact e0, by rw [a3]; exact e1⟩, hmem⟩
  have hWY : ∀ z, YC (allA (readL (toEnt x0))) (balA x1) xs x (101 ^ xs.length) z ↔ z ∈ fillW (toEnt x0) x1 := fun z => by
   rw [YC_all _ _ xs x hmem z]
   unfold fillW
   rw [hcat2]
  have hWl : ∀ y ∈ fillW (toEnt x0) x1, y.length = xs.length + 1 := fun y hy => by
   have := (ways_mem _ _ _ y hmem).1 (by unfold fillW at hy; rw [hcat2] at hy; exact hy)
   rw [this.1, List.length_append, List.length_singleton]
  refine ⟨if fillW (toEnt x0) x1 = [] then List.replicate (xs.length + 1) ⟨101, -1⟩ else fillTo (fillW (toEnt x0) x1), ?_, fun h => by rw [if_neg h]⟩
  have hN : 101 ^ xs.length ≤ 1000000 := by
   have := Nat.pow_le_pow_right (n := 101) (by omega) (show xs.length ≤ 2 by omega)
   omega
  have h2 := Fill_l2 x0 x1 _ xs x F _ hAB (101 ^ xs.length) hN (ofSp (if fillW (toEnt x0) x1 = [] then List.replicate (xs.length + 1) ⟨101, -1⟩ else fillTo (fillW (toEnt x0) x1)), decide (fillW (toEnt x0) x1 ≠ [])) (fun f s hS => by
   have hS2 := hS.congr (zs := fun z => z ∈ fillW (toEnt x0) x1) fun z => (hWY z).symm
   obtain ⟨e1, e2⟩ := fill_both _ _ hWl f s hS2
   by_cases c : fillW (toEnt x0) x1 = []
   ·rw [if_pos c, e1]
    rcases hS2 with ⟨_, q, _⟩ | ⟨_, ⟨y, q⟩, _⟩
    ·rw [q]
    ·rw [c] at q; cases q
   ·rw [if_neg c, e1, e2 c]) (101 ^ xs.length) 0 false (List.replicate (xs.length + 1) ⟨101, -1⟩) (by omega) (Or.inl ⟨rfl, rfl, fun y ⟨c, hc, _⟩ => by omega⟩)
  have h1 := Fill_l1 x0 x1 (idxTo (toEnt x0) x0.length) _ _ xs.length (by omega) _ h2 xs.length 0 (by omega)
  refine Ev.bind (Blots_f x0 (by omega)) ?_
  have h0 := Fill_l0 x0 x1 (idxTo (toEnt x0) x0.length) (by omega) _ (Ev.up (by
   simp only [rf_Fill.l0, if_neg (show ¬ ((idxTo (toEnt x0) x0.length).length : Int) < ((idxTo (toEnt x0) x0.length).length : Int) by omega), if_neg (show ¬ ((idxTo (toEnt x0) x0.length).length : Int) = 0 by omega), hBal, Option.bind_some]
   rw [wr (by omega), show ((idxTo (toEnt x0) x0.length).length : Int) - 1 = (xs.length : Int) by omega, i1]
   exact h1)) (idxTo (toEnt x0) x0.length).length 0 (by omega)
  exact h0
theorem fill_len (l : List Ent) (b : List Int) (hall : l.all entB = true) (h : fillW l b ≠ []) : (fillTo (fillW l b)).length ≤ l.length := by
 have hm : ∀ y ∈ blotsL l, (0 ≤ y.f ∧ y.f ≤ 5) ∧ (0 ≤ y.t ∧ y.t ≤ 5) ∧ y.f ≠ y.t := fun y hy => by
  have := (entB_iff y).1 (List.all_eq_true.1 hall y (List.mem_filter.1 hy).1)
  omega
 have h1 := (fill_ext (blotsL l).length (fillW l b) h (fun y hy => ((ways_mem _ _ _ y hm).1 hy).1)).1
 rw [h1]
 exact List.length_filter_le _ _
theorem FeeFills_l0 (s : List S44) (hs : s.length ≤ 1000) : ∀ (d i : Nat), i + d = s.length → Ev (fun k => lw_FeeFills.l0 k s s (i : Int)) true
 | 0, i, h => by
  refine Ev.up ?_
  simp only [lw_FeeFills.l0, if_neg (show ¬ (i : Int) < (s.length : Int) by omega), known_f, Option.bind_some]
  exact Ev.now true
 | d + 1, i, h => by
  refine Ev.up ?_
  simp only [lw_FeeFills.l0, if_pos (show (i : Int) < (s.length : Int) by omega), if_pos (show (0 : Int) ≤ (i : Int) by omega), wi i (by omega), beq_self_eq_true, Bool.not_true, Bool.or_self, Bool.false_eq_true, if_false]
  exact FeeFills_l0 s hs d (i + 1) (by omega)
theorem FeeFills_e6 (e : Int) (he : e ≠ 0) (out : List S44) : Ev (fun k => lw_FeeFills.j6 k [] e e out) true := by
 refine Ev.up ?_
 simp only [lw_FeeFills.j6, if_neg he, if_true, List.length_nil, known_f, Option.bind_some]
 simpa using Ev.now true
theorem FeeFills_e5 (l : List S101) (b : List Int) (e : Int) (he : e ≠ 0) (out : List S44) : Ev (fun k => lw_FeeFills.j5 k l b [] e e out) true := by
 refine Ev.up ?_
 simp only [lw_FeeFills.j5, if_neg he]
 exact FeeFills_e6 e he out
theorem FeeFills_e3 (l : List S101) (b : List Int) (e : Int) (he : e ≠ 0) (out : List S44) : Ev (fun k => lw_FeeFills.j3 k l b [] e e out) true := by
 refine Ev.up ?_
 simp only [lw_FeeFills.j3, if_neg he]
 refine Ev.up ?_
 simp only [lw_FeeFills.j4, Bool.false_eq_true, if_false]
 exact FeeFills_e5 l b e he out
theorem FeeFills_ev (l : List S101) (b : List Int) : Ev (fun k => lw_FeeFills.f k l b) true := by
 unfold lw_FeeFills.f
 by_cases c0 : l.length > 40
 ·simp only [if_pos (show (l.length : Int) > 40 by omega)]
  refine Ev.up ?_
  simp only [lw_FeeFills.j0, if_true, known_f, Option.bind_some]
  exact Ev.now true
 simp only [if_neg (show ¬ (l.length : Int) > 40 by omega)]
 refine Ev.up ?_
 by_cases c1 : b.length > 20
 ·simp only [lw_FeeFills.j0, decide_eq_true (show (b.length : Int) > 20 by omega), if_true, known_f, Option.bind_some]
  exact Ev.now true
 simp only [lw_FeeFills.j0, decide_eq_false (show ¬ (b.length : Int) > 20 by omega), Bool.false_eq_true, if_false, Option.bind_some, List.length_nil, Nat.zero_add, List.nil_append, if_pos (show b.length < 17592186044416 by omega), Copy_f l (by omega), fee_Fill.f]
 refine Ev.bind (Same_f l (by omega)) ?_
 simp only [if_true]
 have hI := Ints_f b b (by omega)
 rw [decide_eq_true rfl] at hI
 refine Ev.bind hI ?_
 refine Ev.up ?_
 simp only [lw_FeeFills.j1, Bool.not_true, Bool.false_eq_true, if_false, Option.bind_some]
 have hL := Ledger_f l false (by omega)
 simp only [Bool.false_eq_true, if_false] at hL
 refine Ev.bind hL ?_
 by_cases h1 : chkE (toEnt l) = 0
 ·have h4 := chk_of _ h1
  have hE := toEnt_len l
  obtain ⟨i1, _⟩ := idx_of (toEnt l) l.length (by omega)
  rw [List.take_of_length_le (by omega)] at i1
  simp only [h1, if_true]
  refine Ev.bind (Blots_f l (by omega)) ?_
  refine Ev.up ?_
  by_cases h2 : (blotsL (toEnt l)).length > 3
  ·have e1 : fillE (toEnt l) b = 8 := by unfold fillE; rw [if_pos h1, if_pos h2]
   have e2 : ofSp (fillS (toEnt l) b) = [] := by unfold fillS; rw [e1]; rfl
   simp only [lw_FeeFills.j2, decide_eq_true (show ((idxTo (toEnt l) l.length).length : Int) > 3 by omega), if_true, e1, e2]
   exact FeeFills_e3 l b 8 (by omega) []
  ·simp only [lw_FeeFills.j2, decide_eq_false (show ¬ ((idxTo (toEnt l) l.length).length : Int) > 3 by omega), Bool.false_eq_true, if_false]
   refine Ev.up ?_
   simp only [lw_FeeFills.j3, if_true]
   refine Ev.bind (Valid_f b (by omega)) ?_
   refine Ev.up ?_
   by_cases h3 : balB b = true
   ·simp only [lw_FeeFills.j4, h3, Bool.not_true, Bool.false_eq_true, if_false]
    obtain ⟨s, f1, f2⟩ := Fill_f l b (by omega) h4.2 h3 (by omega)
    refine Ev.up ?_
    simp only [lw_FeeFills.j5, if_true]
    refine Ev.bind f1 ?_
    by_cases h5 : fillW (toEnt l) b = []
    ·have e1 : fillE (toEnt l) b = 9 := by unfold fillE; rw [if_pos h1, if_neg h2, if_pos h3, if_pos h5]
     have e2 : ofSp (fillS (toEnt l) b) = [] := by unfold fillS; rw [e1]; rfl
     simp only [decide_eq_false (show ¬ fillW (toEnt l) b ≠ [] from fun h => h h5), Bool.false_eq_true, if_false, e1, e2]
     exact FeeFills_e6 9 (by omega) _
    ·have e1 : fillE (toEnt l) b = 0 := by unfold fillE; rw [if_pos h1, if_neg h2, if_pos h3, if_neg h5]
     have e2 : fillS (toEnt l) b = s := by unfold fillS; rw [if_pos e1, f2 h5]
     have hl : s.length ≤ 1000 := by
      have hm := fill_len (toEnt l) b h4.2 h5
      rw [f2 h5]
      omega
     simp only [decide_eq_true (show fillW (toEnt l) b ≠ [] from h5), if_true, e1, e2]
     refine Ev.up ?_
     simp only [lw_FeeFills.j6, if_true, bne_self_eq_false]
     refine Ev.up ?_
     simp only [lw_FeeFills.j7, Bool.false_eq_true, if_false]
     exact FeeFills_l0 (ofSp s) (by rw [ofSp_len]; omega) (ofSp s).length 0 (by omega)
   ·have e1 : fillE (toEnt l) b = 4 := by unfold fillE; rw [if_pos h1, if_neg h2, if_neg h3]
    have e2 : ofSp (fillS (toEnt l) b) = [] := by unfold fillS; rw [e1]; rfl
    have h3' : balB b = false := by simpa using h3
    simp only [lw_FeeFills.j4, h3', Bool.not_false, if_true, e1, e2]
    exact FeeFills_e5 l b 4 (by omega) []
 ·have e1 : fillE (toEnt l) b = chkE (toEnt l) := by unfold fillE; rw [if_neg h1]
  have e2 : ofSp (fillS (toEnt l) b) = [] := by unfold fillS; rw [if_neg (by rw [e1]; exact h1)]; rfl
  simp only [if_neg h1, e1, e2]
  refine Ev.up ?_
  simp only [lw_FeeFills.j2, Bool.false_eq_true, if_false]
  exact FeeFills_e3 l b _ h1 []
theorem FeeFills_pure (l0 : List S101) (l1 : List Int) : ∃ k, lw_FeeFills.f k l0 l1 = some true := (FeeFills_ev l0 l1).rounds
end Go.Proofs.Ytdlekcdedahbhaa.Q
