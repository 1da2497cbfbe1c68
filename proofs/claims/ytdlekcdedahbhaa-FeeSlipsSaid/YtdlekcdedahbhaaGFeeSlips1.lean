/- Functions printed by the kit's printer over these walks, and the plain law. No condition. -/
import Derived.Test.YtdlekcdedahbhaaGFeeSlips0
import Derived.Test.YtdlekcdedahbhaaWWords
import Derived.WalkKit
import Derived.ProofKit
import Derived.OpenShut
import Derived.ShutString
import Derived.ChangeOld
import Derived.Below
import Derived.SizedLaws
import Derived.ChangeArms
import Derived.WideShapes
import Derived.Carry
import Derived.Test.YtdlekcdedahbhaaWGuard
import Derived.Test.YtdlekcdedahbhaaWLast
import Derived.Test.YtdlekcdedahbhaaWMore
set_option linter.unusedVariables false
set_option linter.unusedSimpArgs false
namespace Go.Proofs.Ytdlekcdedahbhaa.Q
open Go.RowKit Go.Proofs.YtdlekcdedahbhaaW.PrintWords Go.Proofs.YtdlekcdedahbhaaW.PrintLast Go.Proofs.YtdlekcdedahbhaaW.PrintMore
attribute [local go_sem] max2_int min2_int max_two min_two max_three min_three max_four min_four   -- for this text's walks alone
set_option linter.unusedVariables false
set_option linter.unusedSimpArgs false
attribute [local go_sem high] eqA70
mutual
def lw_FeeSlips.j0 : Nat → List (S101) → List Int → Bool → Option (Bool)
  | 0, _, _, _ => none
  | k + 1, x0, x1, x19 => if x19 = true then ((lw_known.f).bind fun t334 => (some t334)) else ((rf_Copy.f x0).bind fun t335 => ((some (([] : List Int) : List Int)).bind fun y338 => (if y338.length + x1.length < 17592186044416 then ((some (y338 ++ x1 : List Int)).bind fun y341 => ((fee_Slips.f t335 y341).bind fun bt344 => ((rf_Same.f k t335 x0).bind fun t348 => (if t348 = true then ((rf_Ints.f k y341 x1).bind fun t349 => (lw_FeeSlips.j1 k x0 x1 bt344.1 bt344.2 (!t349))) else (lw_FeeSlips.j1 k x0 x1 bt344.1 bt344.2 true))))) else (none))))
def lw_FeeSlips.j1 : Nat → List (S101) → List Int → List (S70) → Int → Bool → Option (Bool)
  | 0, _, _, _, _, _ => none
  | k + 1, x0, x1, x7, x8, x41 => if x41 = true then (some false) else ((rf_Ledger.f k x0 true).bind fun t350 => ((some (([] : List (S70)) : List (S70))).bind fun y351 => (if t350 = 0 then ((rf_Valid.f k x1).bind fun t354 => (lw_FeeSlips.j2 k x0 x1 x7 x8 t350 y351 (!t354))) else (lw_FeeSlips.j2 k x0 x1 x7 x8 t350 y351 false))))
def lw_FeeSlips.j2 : Nat → List (S101) → List Int → List (S70) → Int → Int → List (S70) → Bool → Option (Bool)
  | 0, _, _, _, _, _, _, _ => none
  | k + 1, x0, x1, x7, x8, x9, x10, x51 => if x51 = true then (lw_FeeSlips.j3 k x0 x1 x7 x8 4 x10) else (lw_FeeSlips.j3 k x0 x1 x7 x8 x9 x10)
def lw_FeeSlips.j3 : Nat → List (S101) → List Int → List (S70) → Int → Int → List (S70) → Option (Bool)
  | 0, _, _, _, _, _, _ => none
  | k + 1, x0, x1, x7, x8, x9, x10 => if x9 = 0 then ((rf_Balances.f x0).bind fun t355 => ((rf_Ints.f k t355 x1).bind fun t358 => (lw_FeeSlips.j4 k x0 x1 x7 x8 x9 x10 t358))) else (lw_FeeSlips.j4 k x0 x1 x7 x8 x9 x10 false)
def lw_FeeSlips.j4 : Nat → List (S101) → List Int → List (S70) → Int → Int → List (S70) → Bool → Option (Bool)
  | 0, _, _, _, _, _, _, _ => none
  | k + 1, x0, x1, x7, x8, x9, x10, x59 => if x59 = true then (lw_FeeSlips.j5 k x0 x1 x7 x8 6 x10) else (lw_FeeSlips.j5 k x0 x1 x7 x8 x9 x10)
def lw_FeeSlips.j5 : Nat → List (S101) → List Int → List (S70) → Int → Int → List (S70) → Option (Bool)
  | 0, _, _, _, _, _, _ => none
  | k + 1, x0, x1, x7, x8, x9, x10 => if x9 = 0 then ((rf_Slips.f k x0 x1).bind fun t359 => (if (t359.length : Int) = 0 then (lw_FeeSlips.j6 k x7 x8 7 t359) else (lw_FeeSlips.j6 k x7 x8 x9 t359))) else (lw_FeeSlips.j6 k x7 x8 x9 x10)
def lw_FeeSlips.j6 : Nat → List (S70) → Int → Int → List (S70) → Option (Bool)
  | 0, _, _, _, _ => none
  | k + 1, x7, x8, x9, x10 => if x9 = 0 then (if x8 = 0 then (lw_FeeSlips.j7 k x7 x10 ((x7.length : Int) != (x10.length : Int))) else (lw_FeeSlips.j7 k x7 x10 true)) else (if x8 = x9 then (if (x7.length : Int) = 0 then ((lw_known.f).bind fun t362 => (some t362)) else (some false)) else (some false))
def lw_FeeSlips.j7 : Nat → List (S70) → List (S70) → Bool → Option (Bool)
  | 0, _, _, _ => none
  | k + 1, x7, x10, x89 => if x89 = true then (some false) else (lw_FeeSlips.l0 k x7 x10 0)
def lw_FeeSlips.l0 : Nat → List (S70) → List (S70) → Int → Option (Bool)
  | 0, _, _, _ => none
  | k + 1, x7, x10, x11 => if x11 < (x10.length : Int) then (if 0 ≤ x11 then (if x11 < (x7.length : Int) then (if (!(((rd_T70 x7 x11).f0) == ((rd_T70 x10 x11).f0)) || (!(((rd_T70 x7 x11).f1) == ((rd_T70 x10 x11).f1)) || (!(((rd_T70 x7 x11).f2) == ((rd_T70 x10 x11).f2))))) = true then (some false) else (lw_FeeSlips.l0 k x7 x10 (wrap64 (x11 + 1)))) else (none)) else (none)) else ((lw_known.f).bind fun t365 => (some t365))
end
def lw_FeeSlips.f (k : Nat) (l0 : List (S101)) (l1 : List Int) : Option (Bool) := if (l0.length : Int) > 40 then (lw_FeeSlips.j0 k l0 l1 true) else (lw_FeeSlips.j0 k l0 l1 (decide ((l1.length : Int) > 20)))
set_option maxHeartbeats 8000000 in
set_option maxRecDepth 100000 in
theorem lw_FeeSlips.calls (k : Nat) (A0 : Option Addr) (c0 : Nat) (l0 : List (S101)) (A1 : Option Addr) (c1 : Nat) (l1 : List Int) (r : Bool) (w : World) (hr0 : Kd.C k101 w A0 l0.length l0) (hc0 : l0.length ≤ c0) (hr1 : Kd.C (Kd.int .i64) w A1 l1.length l1) (hc1 : l1.length ≤ c1) (h : lw_FeeSlips.f k l0 l1 = some r) :
    Calls Try.prog 7 #[.slice A0 l0.length c0, .slice A1 l1.length c1] w fun e w' => e = .returned (.bool r) ∧ Below w.heap.size w w' := by
  have hu70 := Try.underlying70
  have HR0 := Aside0.mk hr0
  have HC0 := Aside0.mk hc0
  clear hr0 hc0
  have HR1 := Aside0.mk hr1
  have HC1 := Aside0.mk hc1
  clear hr1 hc1
  have HB := Aside0.mk (Below.refl w.heap.size w)
  have H : (if (l0.length : Int) > 40 then (lw_FeeSlips.j0 k l0 l1 true) else (lw_FeeSlips.j0 k l0 l1 (decide ((l1.length : Int) > 20)))) = some r := h
  clear h
  have HC3 := Aside0.mk H
  clear H
  go_enter Try.func7, Try.ntmps7
  go_upto_region 1 with (fail)
  repeat (go_quiet (fail); go_upto_region 1 with (fail))
  go_cut [19] (fun v19 wc => ∃ (kq : Nat) (x19_2 : Bool), v19 = .bool x19_2 ∧ Aside0 (lw_FeeSlips.j0 kq l0 l1 x19_2 = some r) ∧ Aside0 (kq ≤ k) ∧ Aside0 (Below w.heap.size w wc))
  case first =>
    have H := HC3.out
    clear HC3
    by_cases c4 : (l0.length : Int) > 40
    · rw [if_pos c4] at H
      have c4b0 : decide (40 < (l0.length : Int)) = true := decide_eq_true c4
      have c4b1 : decide (40 < l0.length) = true := decide_eq_true (by omega)
      clear c4
      (first | rw [c4b0] | (simp only [i64_w, i32_w]; rw [c4b0]) | skip)
      have H' := Aside0.mk H
      clear H
      go_wp2
      repeat (go_quiet (fail); try go_wp2)
      go_meet
      case rel => exact ⟨_, (true), (by first | rfl | (simp; done) | (simp [*]; done)), H', ⟨by first | omega | exact Nat.le_refl _⟩, ⟨by repeat (first | (with_reducible first | exact HB.out | apply below_alloc | apply pw_below_drewN | apply below_drew1) | exact HB.out)⟩⟩
    · rw [if_neg c4] at H
      have c4b0 : decide (40 < (l0.length : Int)) = false := decide_eq_false c4
      have c4b1 : decide (40 < l0.length) = false := decide_eq_false (by omega)
      clear c4
      (first | rw [c4b0] | (simp only [i64_w, i32_w]; rw [c4b0]) | skip)
      have H' := Aside0.mk H
      clear H
      go_wp2
      repeat (go_quiet (fail); try go_wp2)
      go_meet
      case rel => exact ⟨_, (decide ((l1.length : Int) > 20)), (by first | rfl | (simp; done) | (simp [*]; done)), H', ⟨by first | omega | exact Nat.le_refl _⟩, ⟨by repeat (first | (with_reducible first | exact HB.out | apply below_alloc | apply pw_below_drewN | apply below_drew1) | exact HB.out)⟩⟩
  case rest =>
    clear HC3
    try clear c1
    try clear p2
    try clear c4
    try clear c4b0
    try clear c4b1
    obtain ⟨kq, x19_2, rfl, HA, HJ2, HB⟩ := hcut
    cases kq with
    | zero => exact absurd HA.out (by simp [lw_FeeSlips.j0])
    | succ kj2 =>
      have H := HA.out
      clear HA
      simp only [lw_FeeSlips.j0] at H
      by_cases c5 : x19_2 = true
      · subst c5
        have H1 : ((lw_known.f).bind fun t334 => (some t334)) = some r := by rw [if_pos rfl] at H; exact H
        clear H
        have H := H1
        clear H1
        replace H := Option.bind_eq_some_iff.mp H
        obtain ⟨t334, A60, H⟩ := H
        replace H : (some t334) = some r := H
        have A6 := Aside0.mk A60
        clear A60
        obtain rfl := Option.some.inj H
        go_wp2_with (first | (go_at_call 22; (with_reducible refine (lw_known.calls  t334 _ A6.out).mono ?_); rintro e w7 ⟨rfl, hb⟩; have n0_ := Aside0.mk (below_step (by repeat (first | (with_reducible first | exact HB.out | apply below_alloc | apply pw_below_drewN | apply below_drew1) | exact HB.out)) hb); clear HB; have HB := n0_; clear n0_; (try clear hb); (try clear hb2); (try clear hk); (try clear hi)))
        repeat (go_quiet (first | (go_at_call 22; (with_reducible refine (lw_known.calls  t334 _ A6.out).mono ?_); rintro e w7 ⟨rfl, hb⟩; have n0_ := Aside0.mk (below_step (by repeat (first | (with_reducible first | exact HB.out | apply below_alloc | apply pw_below_drewN | apply below_drew1) | exact HB.out)) hb); clear HB; have HB := n0_; clear n0_; (try clear hb); (try clear hb2); (try clear hk); (try clear hi))); try go_wp2_with (first | (go_at_call 22; (with_reducible refine (lw_known.calls  t334 _ A6.out).mono ?_); rintro e w7 ⟨rfl, hb⟩; have n0_ := Aside0.mk (below_step (by repeat (first | (with_reducible first | exact HB.out | apply below_alloc | apply pw_below_drewN | apply below_drew1) | exact HB.out)) hb); clear HB; have HB := n0_; clear n0_; (try clear hb); (try clear hb2); (try clear hk); (try clear hi))))
        go_ret
        exact ⟨by first | rfl | (simp [errW_none, errW_some] <;> rfl) | (simp [*, errW_none, errW_some] <;> rfl), by repeat (first | (with_reducible first | exact HB.out | apply below_alloc | apply pw_below_drewN | apply below_drew1) | exact HB.out)⟩
      · replace c5 := Bool.eq_false_iff.mpr c5
        subst c5
        have H1 : ((rf_Copy.f l0).bind fun t335 => ((some (([] : List Int) : List Int)).bind fun y338 => (if y338.length + l1.length < 17592186044416 then ((some (y338 ++ l1 : List Int)).bind fun y341 => ((fee_Slips.f t335 y341).bind fun bt344 => ((rf_Same.f kj2 t335 l0).bind fun t348 => (if t348 = true then ((rf_Ints.f kj2 y341 l1).bind fun t349 => (lw_FeeSlips.j1 kj2 l0 l1 bt344.1 bt344.2 (!t349))) else (lw_FeeSlips.j1 kj2 l0 l1 bt344.1 bt344.2 true))))) else (none)))) = some r := by rw [if_neg (show ¬ (false = true) by decide)] at H; exact H
        clear H
        have H := H1
        clear H1
        replace H := Option.bind_eq_some_iff.mp H
        obtain ⟨t335, A80, H⟩ := H
        replace H : ((some (([] : List Int) : List Int)).bind fun y338 => (if y338.length + l1.length < 17592186044416 then ((some (y338 ++ l1 : List Int)).bind fun y341 => ((fee_Slips.f t335 y341).bind fun bt344 => ((rf_Same.f kj2 t335 l0).bind fun t348 => (if t348 = true then ((rf_Ints.f kj2 y341 l1).bind fun t349 => (lw_FeeSlips.j1 kj2 l0 l1 bt344.1 bt344.2 (!t349))) else (lw_FeeSlips.j1 kj2 l0 l1 bt344.1 bt344.2 true))))) else (none))) = some r := H
        have A8 := Aside0.mk A80
        clear A80
        obtain ⟨y338, hy338⟩ : ∃ y_ : List Int, y_ = (([] : List Int)) := ⟨_, rfl⟩
        replace H : (if y338.length + l1.length < 17592186044416 then ((some (y338 ++ l1 : List Int)).bind fun y341 => ((fee_Slips.f t335 y341).bind fun bt344 => ((rf_Same.f kj2 t335 l0).bind fun t348 => (if t348 = true then ((rf_Ints.f kj2 y341 l1).bind fun t349 => (lw_FeeSlips.j1 kj2 l0 l1 bt344.1 bt344.2 (!t349))) else (lw_FeeSlips.j1 kj2 l0 l1 bt344.1 bt344.2 true))))) else (none)) = some r := by first | (rw [hy338]; with_reducible exact H) | (have H2_ := (Option.bind_some _ _).symm.trans H; rw [hy338]; with_reducible exact H2_) | (have H2_ := (Option.bind_some _ _).symm.trans H; with_reducible exact H2_) | with_reducible exact H | (rw [hy338]; exact H) | exact H
        have Ny338 := Aside0.mk hy338
        clear hy338
        by_cases c9 : y338.length + l1.length < 17592186044416
        · rw [if_pos c9] at H
          have LMc9 := Aside0.mk c9
          clear c9
          obtain ⟨y341, hy341⟩ : ∃ y_ : List Int, y_ = (y338 ++ l1) := ⟨_, rfl⟩
          replace H : ((fee_Slips.f t335 y341).bind fun bt344 => ((rf_Same.f kj2 t335 l0).bind fun t348 => (if t348 = true then ((rf_Ints.f kj2 y341 l1).bind fun t349 => (lw_FeeSlips.j1 kj2 l0 l1 bt344.1 bt344.2 (!t349))) else (lw_FeeSlips.j1 kj2 l0 l1 bt344.1 bt344.2 true)))) = some r := by first | (rw [hy341]; with_reducible exact H) | (have H2_ := (Option.bind_some _ _).symm.trans H; rw [hy341]; with_reducible exact H2_) | (have H2_ := (Option.bind_some _ _).symm.trans H; with_reducible exact H2_) | with_reducible exact H | (rw [hy341]; exact H) | exact H
          have Ny341 := Aside0.mk hy341
          clear hy341
          replace H := Option.bind_eq_some_iff.mp H
          obtain ⟨⟨t344, t345⟩, A100, H⟩ := H
          replace H : ((rf_Same.f kj2 t335 l0).bind fun t348 => (if t348 = true then ((rf_Ints.f kj2 y341 l1).bind fun t349 => (lw_FeeSlips.j1 kj2 l0 l1 t344 t345 (!t349))) else (lw_FeeSlips.j1 kj2 l0 l1 t344 t345 true))) = some r := H
          have A10 := Aside0.mk A100
          clear A100
          have HC11 := Aside0.mk H
          clear H
          go_upto_region 5 with (first | (go_at_call 28; (with_reducible refine (rf_Copy.calls _ _ l0 t335 _ ?side1 ?side2 A8.out).mono ?_); (case side1 => repeat (first | exact (Kd.C_below HR0.out HB.out) | (with_reducible refine Kd.C_alloc ?_ _) | (with_reducible refine Kd.C_drewN ?_ _) | (with_reducible refine Kd.C_drew ?_))); (case side2 => exact HC0.out); rintro e w12 ⟨v336, rfl, ho0, hb⟩; have n0_ := Aside0.mk (Kd.R_lower ho0 (below_size (by repeat (first | (with_reducible first | exact HB.out | apply below_alloc | apply pw_below_drewN | apply below_drew1) | exact HB.out)))); have n1_ := Aside0.mk (below_step (by repeat (first | (with_reducible first | exact HB.out | apply below_alloc | apply pw_below_drewN | apply below_drew1) | exact HB.out)) hb); clear HB; have HO337 := n0_; have HB := n1_; clear n0_ n1_; (try clear hb); (try clear hb2); (try clear hk); (try clear hi); (try clear ho0)) | ((with_reducible refine gate_dst (N := 23) rfl ?_); (try (refine gate_guard (by rfl) ?_; dsimp only)); refine Kd.R_lit (Kd.int .i64) _ 3 ?hg (N := 23) ?hd (xs := ([] : List Int)) (inner := []) (ok := fun _ => True) (okp := fun _ => True) ?hr ?hp (fun _ hk => hk) trivial (Below.refl _ _) (Nat.le_refl _) (by simp) ?_; (case hd => rfl); (case hg => rfl); (case hr => first | (go_simp; done) | (go_simp; rfl)); (case hp => exact (Reps.none _ _)); intro v339 w13 ho14 hb hg_ hnew_; clear hg_ hnew_; (first | rw [← Ny338.out] at ho14 | (simp only [Int.reduceToNat] at ho14; rw [← Ny338.out] at ho14)); have n0_ := Aside0.mk (Kd.R_below (by (with_reducible repeat (first | apply Kd.R_alloc | apply Kd.R_drewN | apply Kd.R_drew)); exact HO337.out) hb); have n1_ := Aside0.mk (Kd.R_lower ho14 (below_size (by repeat (first | (with_reducible first | exact HB.out | apply below_alloc | apply pw_below_drewN | apply below_drew1) | exact HB.out)))); have n2_ := Aside0.mk (below_step (by repeat (first | (with_reducible first | exact HB.out | apply below_alloc | apply pw_below_drewN | apply below_drew1) | exact HB.out)) hb); clear HO337; clear HB; have HO337 := n0_; have HO340 := n1_; have HB := n2_; clear n0_ n1_ n2_; clear hb ho14) | ((with_reducible refine gate_builtin (b := .append) (xs := #[.tmp 23, .tmp 24]) rfl ?_); (try (refine gate_guard (by rfl) ?_; dsimp only)); at_builtin; refine Kd.R_append_rows (Kd.int .i64) (w0 := w) w.heap.size rfl (.tmp 23) (.tmp 24) 35 3 (.int .i64 0) 8 rfl Try.underlying35 info3 rfl (by decide) (by omega) v339 y338 l1 _ _ _ (fun _ => True) (fun _ => False) rfl rfl ?aO ?aR (fun _ _ h => h) (fun _ h => h.elim) ?aF ?aB ?aS ?aL ?_; (case aR => repeat (first | exact (Kd.C_below HR1.out HB.out) | (with_reducible refine Kd.C_alloc ?_ _) | (with_reducible refine Kd.C_drewN ?_ _) | (with_reducible refine Kd.C_drew ?_))); (case aB => exact (by repeat (first | (with_reducible first | exact HB.out | apply below_alloc | apply pw_below_drewN | apply below_drew1) | exact HB.out))); (case aF => exact (fun _ _ => trivial)); (case aO => exact (by (with_reducible repeat (first | apply Kd.R_alloc | apply Kd.R_drewN | apply Kd.R_drew)); exact HO340.out)); (case aS => exact (below_size (by repeat (first | (with_reducible first | exact HB.out | apply below_alloc | apply pw_below_drewN | apply below_drew1) | exact HB.out)))); (case aL => have := LMc9.out; omega); intro v342 w15 ho hb hg hat; rw [← Ny341.out] at ho; have n0_ := Aside0.mk (Kd.R_over' (by (with_reducible repeat (first | apply Kd.R_alloc | apply Kd.R_drewN | apply Kd.R_drew)); exact HO337.out) (Kd.R_typed (by (with_reducible repeat (first | apply Kd.R_alloc | apply Kd.R_drewN | apply Kd.R_drew)); exact HO340.out)) (by decide) hg); have n1_ := Aside0.mk (hb); have n2_ := Aside0.mk (ho); clear HO337; clear HB; clear HO340; have HO337 := n0_; have HB := n1_; have HO343 := n2_; clear n0_ n1_ n2_; clear ho hb hg hat; obtain ⟨Ao16, co16, eo16⟩ := Kd.R_slice HO337.out; subst eo16; obtain ⟨Ao17, co17, eo17⟩ := Kd.R_slice HO343.out; subst eo17) | (go_at_call 36; (with_reducible refine (fee_Slips.calls _ _ t335 _ _ y341 t344 t345 _ ?side1 ?side2 ?side3 ?side4 A10.out).mono ?_); (case side1 => repeat (first | exact (Kd.R_reads' HO337.out).2.2 | (with_reducible refine Kd.C_alloc ?_ _) | (with_reducible refine Kd.C_drewN ?_ _) | (with_reducible refine Kd.C_drew ?_))); (case side2 => exact (Kd.R_reads' HO337.out).2.1); (case side3 => repeat (first | exact (Kd.R_reads' HO343.out).2.2 | (with_reducible refine Kd.C_alloc ?_ _) | (with_reducible refine Kd.C_drewN ?_ _) | (with_reducible refine Kd.C_drew ?_))); (case side4 => exact (Kd.R_reads' HO343.out).2.1); rintro e w18 ⟨v346, rfl, ho0, hb⟩; have n0_ := Aside0.mk (Kd.R_below (by (with_reducible repeat (first | apply Kd.R_alloc | apply Kd.R_drewN | apply Kd.R_drew)); exact HO337.out) hb); have n1_ := Aside0.mk (Kd.R_below (by (with_reducible repeat (first | apply Kd.R_alloc | apply Kd.R_drewN | apply Kd.R_drew)); exact HO343.out) hb); have n2_ := Aside0.mk (Kd.R_lower ho0 (below_size (by repeat (first | (with_reducible first | exact HB.out | apply below_alloc | apply pw_below_drewN | apply below_drew1) | exact HB.out)))); have n3_ := Aside0.mk (below_step (by repeat (first | (with_reducible first | exact HB.out | apply below_alloc | apply pw_below_drewN | apply below_drew1) | exact HB.out)) hb); clear HO337; clear HO343; clear HB; have HO337 := n0_; have HO343 := n1_; have HO347 := n2_; have HB := n3_; clear n0_ n1_ n2_ n3_; (try clear hb); (try clear hb2); (try clear hk); (try clear hi); (try clear ho0)))
          repeat (go_quiet (first | (go_at_call 28; (with_reducible refine (rf_Copy.calls _ _ l0 t335 _ ?side1 ?side2 A8.out).mono ?_); (case side1 => repeat (first | exact (Kd.C_below HR0.out HB.out) | (with_reducible refine Kd.C_alloc ?_ _) | (with_reducible refine Kd.C_drewN ?_ _) | (with_reducible refine Kd.C_drew ?_))); (case side2 => exact HC0.out); rintro e w12 ⟨v336, rfl, ho0, hb⟩; have n0_ := Aside0.mk (Kd.R_lower ho0 (below_size (by repeat (first | (with_reducible first | exact HB.out | apply below_alloc | apply pw_below_drewN | apply below_drew1) | exact HB.out)))); have n1_ := Aside0.mk (below_step (by repeat (first | (with_reducible first | exact HB.out | apply below_alloc | apply pw_below_drewN | apply below_drew1) | exact HB.out)) hb); clear HB; have HO337 := n0_; have HB := n1_; clear n0_ n1_; (try clear hb); (try clear hb2); (try clear hk); (try clear hi); (try clear ho0)) | ((with_reducible refine gate_dst (N := 23) rfl ?_); (try (refine gate_guard (by rfl) ?_; dsimp only)); refine Kd.R_lit (Kd.int .i64) _ 3 ?hg (N := 23) ?hd (xs := ([] : List Int)) (inner := []) (ok := fun _ => True) (okp := fun _ => True) ?hr ?hp (fun _ hk => hk) trivial (Below.refl _ _) (Nat.le_refl _) (by simp) ?_; (case hd => rfl); (case hg => rfl); (case hr => first | (go_simp; done) | (go_simp; rfl)); (case hp => exact (Reps.none _ _)); intro v339 w13 ho14 hb hg_ hnew_; clear hg_ hnew_; (first | rw [← Ny338.out] at ho14 | (simp only [Int.reduceToNat] at ho14; rw [← Ny338.out] at ho14)); have n0_ := Aside0.mk (Kd.R_below (by (with_reducible repeat (first | apply Kd.R_alloc | apply Kd.R_drewN | apply Kd.R_drew)); exact HO337.out) hb); have n1_ := Aside0.mk (Kd.R_lower ho14 (below_size (by repeat (first | (with_reducible first | exact HB.out | apply below_alloc | apply pw_below_drewN | apply below_drew1) | exact HB.out)))); have n2_ := Aside0.mk (below_step (by repeat (first | (with_reducible first | exact HB.out | apply below_alloc | apply pw_below_drewN | apply below_drew1) | exact HB.out)) hb); clear HO337; clear HB; have HO337 := n0_; have HO340 := n1_; have HB := n2_; clear n0_ n1_ n2_; clear hb ho14) | ((with_reducible refine gate_builtin (b := .append) (xs := #[.tmp 23, .tmp 24]) rfl ?_); (try (refine gate_guard (by rfl) ?_; dsimp only)); at_builtin; refine Kd.R_append_rows (Kd.int .i64) (w0 := w) w.heap.size rfl (.tmp 23) (.tmp 24) 35 3 (.int .i64 0) 8 rfl Try.underlying35 info3 rfl (by decide) (by omega) v339 y338 l1 _ _ _ (fun _ => True) (fun _ => False) rfl rfl ?aO ?aR (fun _ _ h => h) (fun _ h => h.elim) ?aF ?aB ?aS ?aL ?_; (case aR => repeat (first | exact (Kd.C_below HR1.out HB.out) | (with_reducible refine Kd.C_alloc ?_ _) | (with_reducible refine Kd.C_drewN ?_ _) | (with_reducible refine Kd.C_drew ?_))); (case aB => exact (by repeat (first | (with_reducible first | exact HB.out | apply below_alloc | apply pw_below_drewN | apply below_drew1) | exact HB.out))); (case aF => exact (fun _ _ => trivial)); (case aO => exact (by (with_reducible repeat (first | apply Kd.R_alloc | apply Kd.R_drewN | apply Kd.R_drew)); exact HO340.out)); (case aS => exact (below_size (by repeat (first | (with_reducible first | exact HB.out | apply below_alloc | apply pw_below_drewN | apply below_drew1) | exact HB.out)))); (case aL => have := LMc9.out; omega); intro v342 w15 ho hb hg hat; rw [← Ny341.out] at ho; have n0_ := Aside0.mk (Kd.R_over' (by (with_reducible repeat (first | apply Kd.R_alloc | apply Kd.R_drewN | apply Kd.R_drew)); exact HO337.out) (Kd.R_typed (by (with_reducible repeat (first | apply Kd.R_alloc | apply Kd.R_drewN | apply Kd.R_drew)); exact HO340.out)) (by decide) hg); have n1_ := Aside0.mk (hb); have n2_ := Aside0.mk (ho); clear HO337; clear HB; clear HO340; have HO337 := n0_; have HB := n1_; have HO343 := n2_; clear n0_ n1_ n2_; clear ho hb hg hat; obtain ⟨Ao16, co16, eo16⟩ := Kd.R_slice HO337.out; subst eo16; obtain ⟨Ao17, co17, eo17⟩ := Kd.R_slice HO343.out; subst eo17) | (go_at_call 36; (with_reducible refine (fee_Slips.calls _ _ t335 _ _ y341 t344 t345 _ ?side1 ?side2 ?side3 ?side4 A10.out).mono ?_); (case side1 => repeat (first | exact (Kd.R_reads' HO337.out).2.2 | (with_reducible refine Kd.C_alloc ?_ _) | (with_reducible refine Kd.C_drewN ?_ _) | (with_reducible refine Kd.C_drew ?_))); (case side2 => exact (Kd.R_reads' HO337.out).2.1); (case side3 => repeat (first | exact (Kd.R_reads' HO343.out).2.2 | (with_reducible refine Kd.C_alloc ?_ _) | (with_reducible refine Kd.C_drewN ?_ _) | (with_reducible refine Kd.C_drew ?_))); (case side4 => exact (Kd.R_reads' HO343.out).2.1); rintro e w18 ⟨v346, rfl, ho0, hb⟩; have n0_ := Aside0.mk (Kd.R_below (by (with_reducible repeat (first | apply Kd.R_alloc | apply Kd.R_drewN | apply Kd.R_drew)); exact HO337.out) hb); have n1_ := Aside0.mk (Kd.R_below (by (with_reducible repeat (first | apply Kd.R_alloc | apply Kd.R_drewN | apply Kd.R_drew)); exact HO343.out) hb); have n2_ := Aside0.mk (Kd.R_lower ho0 (below_size (by repeat (first | (with_reducible first | exact HB.out | apply below_alloc | apply pw_below_drewN | apply below_drew1) | exact HB.out)))); have n3_ := Aside0.mk (below_step (by repeat (first | (with_reducible first | exact HB.out | apply below_alloc | apply pw_below_drewN | apply below_drew1) | exact HB.out)) hb); clear HO337; clear HO343; clear HB; have HO337 := n0_; have HO343 := n1_; have HO347 := n2_; have HB := n3_; clear n0_ n1_ n2_ n3_; (try clear hb); (try clear hb2); (try clear hk); (try clear hi); (try clear ho0))); go_upto_region 5 with (first | (go_at_call 28; (with_reducible refine (rf_Copy.calls _ _ l0 t335 _ ?side1 ?side2 A8.out).mono ?_); (case side1 => repeat (first | exact (Kd.C_below HR0.out HB.out) | (with_reducible refine Kd.C_alloc ?_ _) | (with_reducible refine Kd.C_drewN ?_ _) | (with_reducible refine Kd.C_drew ?_))); (case side2 => exact HC0.out); rintro e w12 ⟨v336, rfl, ho0, hb⟩; have n0_ := Aside0.mk (Kd.R_lower ho0 (below_size (by repeat (first | (with_reducible first | exact HB.out | apply below_alloc | apply pw_below_drewN | apply below_drew1) | exact HB.out)))); have n1_ := Aside0.mk (below_step (by repeat (first | (with_reducible first | exact HB.out | apply below_alloc | apply pw_below_drewN | apply below_drew1) | exact HB.out)) hb); clear HB; have HO337 := n0_; have HB := n1_; clear n0_ n1_; (try clear hb); (try clear hb2); (try clear hk); (try clear hi); (try clear ho0)) | ((with_reducible refine gate_dst (N := 23) rfl ?_); (try (refine gate_guard (by rfl) ?_; dsimp only)); refine Kd.R_lit (Kd.int .i64) _ 3 ?hg (N := 23) ?hd (xs := ([] : List Int)) (inner := []) (ok := fun _ => True) (okp := fun _ => True) ?hr ?hp (fun _ hk => hk) trivial (Below.refl _ _) (Nat.le_refl _) (by simp) ?_; (case hd => rfl); (case hg => rfl); (case hr => first | (go_simp; done) | (go_simp; rfl)); (case hp => exact (Reps.none _ _)); intro v339 w13 ho14 hb hg_ hnew_; clear hg_ hnew_; (first | rw [← Ny338.out] at ho14 | (simp only [Int.reduceToNat] at ho14; rw [← Ny338.out] at ho14)); have n0_ := Aside0.mk (Kd.R_below (by (with_reducible repeat (first | apply Kd.R_alloc | apply Kd.R_drewN | apply Kd.R_drew)); exact HO337.out) hb); have n1_ := Aside0.mk (Kd.R_lower ho14 (below_size (by repeat (first | (with_reducible first | exact HB.out | apply below_alloc | apply pw_below_drewN | apply below_drew1) | exact HB.out)))); have n2_ := Aside0.mk (below_step (by repeat (first | (with_reducible first | exact HB.out | apply below_alloc | apply pw_below_drewN | apply below_drew1) | exact HB.out)) hb); clear HO337; clear HB; have HO337 := n0_; have HO340 := n1_; have HB := n2_; clear n0_ n1_ n2_; clear hb ho14) | ((with_reducible refine gate_builtin (b := .append) (xs := #[.tmp 23, .tmp 24]) rfl ?_); (try (refine gate_guard (by rfl) ?_; dsimp only)); at_builtin; refine Kd.R_append_rows (Kd.int .i64) (w0 := w) w.heap.size rfl (.tmp 23) (.tmp 24) 35 3 (.int .i64 0) 8 rfl Try.underlying35 info3 rfl (by decide) (by omega) v339 y338 l1 _ _ _ (fun _ => True) (fun _ => False) rfl rfl ?aO ?aR (fun _ _ h => h) (fun _ h => h.elim) ?aF ?aB ?aS ?aL ?_; (case aR => repeat (first | exact (Kd.C_below HR1.out HB.out) | (with_reducible refine Kd.C_alloc ?_ _) | (with_reducible refine Kd.C_drewN ?_ _) | (with_reducible refine Kd.C_drew ?_))); (case aB => exact (by repeat (first | (with_reducible first | exact HB.out | apply below_alloc | apply pw_below_drewN | apply below_drew1) | exact HB.out))); (case aF => exact (fun _ _ => trivial)); (case aO => exact (by (with_reducible repeat (first | apply Kd.R_alloc | apply Kd.R_drewN | apply Kd.R_drew)); exact HO340.out)); (case aS => exact (below_size (by repeat (first | (with_reducible first | exact HB.out | apply below_alloc | apply pw_below_drewN | apply below_drew1) | exact HB.out)))); (case aL => have := LMc9.out; omega); intro v342 w15 ho hb hg hat; rw [← Ny341.out] at ho; have n0_ := Aside0.mk (Kd.R_over' (by (with_reducible repeat (first | apply Kd.R_alloc | apply Kd.R_drewN | apply Kd.R_drew)); exact HO337.out) (Kd.R_typed (by (with_reducible repeat (first | apply Kd.R_alloc | apply Kd.R_drewN | apply Kd.R_drew)); exact HO340.out)) (by decide) hg); have n1_ := Aside0.mk (hb); have n2_ := Aside0.mk (ho); clear HO337; clear HB; clear HO340; have HO337 := n0_; have HB := n1_; have HO343 := n2_; clear n0_ n1_ n2_; clear ho hb hg hat; obtain ⟨Ao16, co16, eo16⟩ := Kd.R_slice HO337.out; subst eo16; obtain ⟨Ao17, co17, eo17⟩ := Kd.R_slice HO343.out; subst eo17) | (go_at_call 36; (with_reducible refine (fee_Slips.calls _ _ t335 _ _ y341 t344 t345 _ ?side1 ?side2 ?side3 ?side4 A10.out).mono ?_); (case side1 => repeat (first | exact (Kd.R_reads' HO337.out).2.2 | (with_reducible refine Kd.C_alloc ?_ _) | (with_reducible refine Kd.C_drewN ?_ _) | (with_reducible refine Kd.C_drew ?_))); (case side2 => exact (Kd.R_reads' HO337.out).2.1); (case side3 => repeat (first | exact (Kd.R_reads' HO343.out).2.2 | (with_reducible refine Kd.C_alloc ?_ _) | (with_reducible refine Kd.C_drewN ?_ _) | (with_reducible refine Kd.C_drew ?_))); (case side4 => exact (Kd.R_reads' HO343.out).2.1); rintro e w18 ⟨v346, rfl, ho0, hb⟩; have n0_ := Aside0.mk (Kd.R_below (by (with_reducible repeat (first | apply Kd.R_alloc | apply Kd.R_drewN | apply Kd.R_drew)); exact HO337.out) hb); have n1_ := Aside0.mk (Kd.R_below (by (with_reducible repeat (first | apply Kd.R_alloc | apply Kd.R_drewN | apply Kd.R_drew)); exact HO343.out) hb); have n2_ := Aside0.mk (Kd.R_lower ho0 (below_size (by repeat (first | (with_reducible first | exact HB.out | apply below_alloc | apply pw_below_drewN | apply below_drew1) | exact HB.out)))); have n3_ := Aside0.mk (below_step (by repeat (first | (with_reducible first | exact HB.out | apply below_alloc | apply pw_below_drewN | apply below_drew1) | exact HB.out)) hb); clear HO337; clear HO343; clear HB; have HO337 := n0_; have HO343 := n1_; have HO347 := n2_; have HB := n3_; clear n0_ n1_ n2_ n3_; (try clear hb); (try clear hb2); (try clear hk); (try clear hi); (try clear ho0))))
          (try simp only [Act.put, List.setIfInBounds_toArray, List.set_cons_zero, List.set_cons_succ])
          go_cut [41] (fun v41 wc => ∃ (kq : Nat) (x41_10 : Bool), v41 = .bool x41_10 ∧ Aside0 (lw_FeeSlips.j1 kq l0 l1 t344 t345 x41_10 = some r) ∧ Aside0 (kq ≤ kj2) ∧ Aside0 (Kd.R k70 70 wc w.heap.size (fun _ => True) v346 t344) ∧ Aside0 (Below w.heap.size w wc))
          case first =>
            have H := HC11.out
            clear HC11
            replace H := Option.bind_eq_some_iff.mp H
            obtain ⟨t348, A190, H⟩ := H
            replace H : (if t348 = true then ((rf_Ints.f kj2 y341 l1).bind fun t349 => (lw_FeeSlips.j1 kj2 l0 l1 t344 t345 (!t349))) else (lw_FeeSlips.j1 kj2 l0 l1 t344 t345 true)) = some r := H
            have A19 := Aside0.mk A190
            clear A190
            by_cases c20 : t348 = true
            · subst c20
              have H1 : ((rf_Ints.f kj2 y341 l1).bind fun t349 => (lw_FeeSlips.j1 kj2 l0 l1 t344 t345 (!t349))) = some r := by rw [if_pos rfl] at H; exact H
              clear H
              have H := H1
              clear H1
              replace H := Option.bind_eq_some_iff.mp H
              obtain ⟨t349, A210, H⟩ := H
              replace H : (lw_FeeSlips.j1 kj2 l0 l1 t344 t345 (!t349)) = some r := H
              have A21 := Aside0.mk A210
              clear A210
              have H' := Aside0.mk H
              clear H
              go_wp2_with (first | (go_at_call 30; (with_reducible refine (rf_Same.calls kj2 _ _ t335 _ _ l0 true _ ?side1 ?side2 ?side3 ?side4 A19.out).mono ?_); (case side1 => repeat (first | exact (Kd.R_reads' HO337.out).2.2 | (with_reducible refine Kd.C_alloc ?_ _) | (with_reducible refine Kd.C_drewN ?_ _) | (with_reducible refine Kd.C_drew ?_))); (case side2 => exact (Kd.R_reads' HO337.out).2.1); (case side3 => repeat (first | exact (Kd.C_below HR0.out HB.out) | (with_reducible refine Kd.C_alloc ?_ _) | (with_reducible refine Kd.C_drewN ?_ _) | (with_reducible refine Kd.C_drew ?_))); (case side4 => exact HC0.out); rintro e w' ⟨rfl, ⟨nd, rfl⟩⟩; (try first | exact ⟨rfl, _, World.drewN_drewN _ _ _⟩ | exact ⟨rfl, _, Eq.trans (World.drewN_drewN _ _ _) (congrArg (World.drewN _) (Nat.add_assoc _ _ _))⟩)) | (go_at_call 25; (with_reducible refine (rf_Ints.calls kj2 _ _ y341 _ _ l1 t349 _ ?side1 ?side2 ?side3 ?side4 A21.out).mono ?_); (case side1 => repeat (first | exact (Kd.R_reads' HO343.out).2.2 | (with_reducible refine Kd.C_alloc ?_ _) | (with_reducible refine Kd.C_drewN ?_ _) | (with_reducible refine Kd.C_drew ?_))); (case side2 => exact (Kd.R_reads' HO343.out).2.1); (case side3 => repeat (first | exact (Kd.C_below HR1.out (by repeat (first | (with_reducible first | exact HB.out | apply below_alloc | apply pw_below_drewN | apply below_drew1) | exact HB.out))) | (with_reducible refine Kd.C_alloc ?_ _) | (with_reducible refine Kd.C_drewN ?_ _) | (with_reducible refine Kd.C_drew ?_))); (case side4 => exact HC1.out); rintro e w' ⟨rfl, ⟨nd, rfl⟩⟩; (try first | exact ⟨rfl, _, World.drewN_drewN _ _ _⟩ | exact ⟨rfl, _, Eq.trans (World.drewN_drewN _ _ _) (congrArg (World.drewN _) (Nat.add_assoc _ _ _))⟩)))
              repeat (go_quiet (first | (go_at_call 30; (with_reducible refine (rf_Same.calls kj2 _ _ t335 _ _ l0 true _ ?side1 ?side2 ?side3 ?side4 A19.out).mono ?_); (case side1 => repeat (first | exact (Kd.R_reads' HO337.out).2.2 | (with_reducible refine Kd.C_alloc ?_ _) | (with_reducible refine Kd.C_drewN ?_ _) | (with_reducible refine Kd.C_drew ?_))); (case side2 => exact (Kd.R_reads' HO337.out).2.1); (case side3 => repeat (first | exact (Kd.C_below HR0.out HB.out) | (with_reducible refine Kd.C_alloc ?_ _) | (with_reducible refine Kd.C_drewN ?_ _) | (with_reducible refine Kd.C_drew ?_))); (case side4 => exact HC0.out); rintro e w' ⟨rfl, ⟨nd, rfl⟩⟩; (try first | exact ⟨rfl, _, World.drewN_drewN _ _ _⟩ | exact ⟨rfl, _, Eq.trans (World.drewN_drewN _ _ _) (congrArg (World.drewN _) (Nat.add_assoc _ _ _))⟩)) | (go_at_call 25; (with_reducible refine (rf_Ints.calls kj2 _ _ y341 _ _ l1 t349 _ ?side1 ?side2 ?side3 ?side4 A21.out).mono ?_); (case side1 => repeat (first | exact (Kd.R_reads' HO343.out).2.2 | (with_reducible refine Kd.C_alloc ?_ _) | (with_reducible refine Kd.C_drewN ?_ _) | (with_reducible refine Kd.C_drew ?_))); (case side2 => exact (Kd.R_reads' HO343.out).2.1); (case side3 => repeat (first | exact (Kd.C_below HR1.out (by repeat (first | (with_reducible first | exact HB.out | apply below_alloc | apply pw_below_drewN | apply below_drew1) | exact HB.out))) | (with_reducible refine Kd.C_alloc ?_ _) | (with_reducible refine Kd.C_drewN ?_ _) | (with_reducible refine Kd.C_drew ?_))); (case side4 => exact HC1.out); rintro e w' ⟨rfl, ⟨nd, rfl⟩⟩; (try first | exact ⟨rfl, _, World.drewN_drewN _ _ _⟩ | exact ⟨rfl, _, Eq.trans (World.drewN_drewN _ _ _) (congrArg (World.drewN _) (Nat.add_assoc _ _ _))⟩))); try go_wp2_with (first | (go_at_call 30; (with_reducible refine (rf_Same.calls kj2 _ _ t335 _ _ l0 true _ ?side1 ?side2 ?side3 ?side4 A19.out).mono ?_); (case side1 => repeat (first | exact (Kd.R_reads' HO337.out).2.2 | (with_reducible refine Kd.C_alloc ?_ _) | (with_reducible refine Kd.C_drewN ?_ _) | (with_reducible refine Kd.C_drew ?_))); (case side2 => exact (Kd.R_reads' HO337.out).2.1); (case side3 => repeat (first | exact (Kd.C_below HR0.out HB.out) | (with_reducible refine Kd.C_alloc ?_ _) | (with_reducible refine Kd.C_drewN ?_ _) | (with_reducible refine Kd.C_drew ?_))); (case side4 => exact HC0.out); rintro e w' ⟨rfl, ⟨nd, rfl⟩⟩; (try first | exact ⟨rfl, _, World.drewN_drewN _ _ _⟩ | exact ⟨rfl, _, Eq.trans (World.drewN_drewN _ _ _) (congrArg (World.drewN _) (Nat.add_assoc _ _ _))⟩)) | (go_at_call 25; (with_reducible refine (rf_Ints.calls kj2 _ _ y341 _ _ l1 t349 _ ?side1 ?side2 ?side3 ?side4 A21.out).mono ?_); (case side1 => repeat (first | exact (Kd.R_reads' HO343.out).2.2 | (with_reducible refine Kd.C_alloc ?_ _) | (with_reducible refine Kd.C_drewN ?_ _) | (with_reducible refine Kd.C_drew ?_))); (case side2 => exact (Kd.R_reads' HO343.out).2.1); (case side3 => repeat (first | exact (Kd.C_below HR1.out (by repeat (first | (with_reducible first | exact HB.out | apply below_alloc | apply pw_below_drewN | apply below_drew1) | exact HB.out))) | (with_reducible refine Kd.C_alloc ?_ _) | (with_reducible refine Kd.C_drewN ?_ _) | (with_reducible refine Kd.C_drew ?_))); (case side4 => exact HC1.out); rintro e w' ⟨rfl, ⟨nd, rfl⟩⟩; (try first | exact ⟨rfl, _, World.drewN_drewN _ _ _⟩ | exact ⟨rfl, _, Eq.trans (World.drewN_drewN _ _ _) (congrArg (World.drewN _) (Nat.add_assoc _ _ _))⟩))))
              go_meet
              case rel => exact ⟨_, (!t349), (by first | rfl | (simp; done) | (simp [*]; done)), H', ⟨by have := HJ2.out; first | omega | exact Nat.le_refl _⟩, ⟨by (with_reducible repeat (first | apply Kd.R_alloc | apply Kd.R_drewN | apply Kd.R_drew)); exact HO347.out⟩, ⟨by repeat (first | (with_reducible first | exact HB.out | apply below_alloc | apply pw_below_drewN | apply below_drew1) | exact HB.out)⟩⟩
            · replace c20 := Bool.eq_false_iff.mpr c20
              subst c20
              have H1 : (lw_FeeSlips.j1 kj2 l0 l1 t344 t345 true) = some r := by rw [if_neg (show ¬ (false = true) by decide)] at H; exact H
              clear H
              have H := H1
              clear H1
              have H' := Aside0.mk H
              clear H
              go_wp2_with (first | (go_at_call 30; (with_reducible refine (rf_Same.calls kj2 _ _ t335 _ _ l0 false _ ?side1 ?side2 ?side3 ?side4 A19.out).mono ?_); (case side1 => repeat (first | exact (Kd.R_reads' HO337.out).2.2 | (with_reducible refine Kd.C_alloc ?_ _) | (with_reducible refine Kd.C_drewN ?_ _) | (with_reducible refine Kd.C_drew ?_))); (case side2 => exact (Kd.R_reads' HO337.out).2.1); (case side3 => repeat (first | exact (Kd.C_below HR0.out HB.out) | (with_reducible refine Kd.C_alloc ?_ _) | (with_reducible refine Kd.C_drewN ?_ _) | (with_reducible refine Kd.C_drew ?_))); (case side4 => exact HC0.out); rintro e w' ⟨rfl, ⟨nd, rfl⟩⟩; (try first | exact ⟨rfl, _, World.drewN_drewN _ _ _⟩ | exact ⟨rfl, _, Eq.trans (World.drewN_drewN _ _ _) (congrArg (World.drewN _) (Nat.add_assoc _ _ _))⟩)))
              repeat (go_quiet (first | (go_at_call 30; (with_reducible refine (rf_Same.calls kj2 _ _ t335 _ _ l0 false _ ?side1 ?side2 ?side3 ?side4 A19.out).mono ?_); (case side1 => repeat (first | exact (Kd.R_reads' HO337.out).2.2 | (with_reducible refine Kd.C_alloc ?_ _) | (with_reducible refine Kd.C_drewN ?_ _) | (with_reducible refine Kd.C_drew ?_))); (case side2 => exact (Kd.R_reads' HO337.out).2.1); (case side3 => repeat (first | exact (Kd.C_below HR0.out HB.out) | (with_reducible refine Kd.C_alloc ?_ _) | (with_reducible refine Kd.C_drewN ?_ _) | (with_reducible refine Kd.C_drew ?_))); (case side4 => exact HC0.out); rintro e w' ⟨rfl, ⟨nd, rfl⟩⟩; (try first | exact ⟨rfl, _, World.drewN_drewN _ _ _⟩ | exact ⟨rfl, _, Eq.trans (World.drewN_drewN _ _ _) (congrArg (World.drewN _) (Nat.add_assoc _ _ _))⟩))); try go_wp2_with (first | (go_at_call 30; (with_reducible refine (rf_Same.calls kj2 _ _ t335 _ _ l0 false _ ?side1 ?side2 ?side3 ?side4 A19.out).mono ?_); (case side1 => repeat (first | exact (Kd.R_reads' HO337.out).2.2 | (with_reducible refine Kd.C_alloc ?_ _) | (with_reducible refine Kd.C_drewN ?_ _) | (with_reducible refine Kd.C_drew ?_))); (case side2 => exact (Kd.R_reads' HO337.out).2.1); (case side3 => repeat (first | exact (Kd.C_below HR0.out HB.out) | (with_reducible refine Kd.C_alloc ?_ _) | (with_reducible refine Kd.C_drewN ?_ _) | (with_reducible refine Kd.C_drew ?_))); (case side4 => exact HC0.out); rintro e w' ⟨rfl, ⟨nd, rfl⟩⟩; (try first | exact ⟨rfl, _, World.drewN_drewN _ _ _⟩ | exact ⟨rfl, _, Eq.trans (World.drewN_drewN _ _ _) (congrArg (World.drewN _) (Nat.add_assoc _ _ _))⟩))))
              go_meet
              case rel => exact ⟨_, (true), (by first | rfl | (simp; done) | (simp [*]; done)), H', ⟨by have := HJ2.out; first | omega | exact Nat.le_refl _⟩, ⟨by (with_reducible repeat (first | apply Kd.R_alloc | apply Kd.R_drewN | apply Kd.R_drew)); exact HO347.out⟩, ⟨by repeat (first | (with_reducible first | exact HB.out | apply below_alloc | apply pw_below_drewN | apply below_drew1) | exact HB.out)⟩⟩
          case rest =>
            clear HC11
            try clear c1
            try clear c2
            try clear p2
            try clear c4
            try clear c4b0
            try clear c4b1
            try clear c5
            try clear c7
            try clear c9
            try clear c20
            try clear p2
            obtain ⟨kq, x41_10, rfl, HA, HJ10, HO_7, HB⟩ := hcut
            cases kq with
            | zero => exact absurd HA.out (by simp [lw_FeeSlips.j1])
            | succ kj10 =>
              have H := HA.out
              clear HA
              simp only [lw_FeeSlips.j1] at H
              by_cases c22 : x41_10 = true
              · subst c22
                have H1 : (some false) = some r := by rw [if_pos rfl] at H; exact H
                clear H
                have H := H1
                clear H1
                obtain rfl := Option.some.inj H
                go_wp2
                repeat (go_quiet (fail); try go_wp2)
                go_ret
                exact ⟨by first | rfl | (simp [errW_none, errW_some] <;> rfl) | (simp [*, errW_none, errW_some] <;> rfl), by repeat (first | (with_reducible first | exact HB.out | apply below_alloc | apply pw_below_drewN | apply below_drew1) | exact HB.out)⟩
              · replace c22 := Bool.eq_false_iff.mpr c22
                subst c22
                have H1 : ((rf_Ledger.f kj10 l0 true).bind fun t350 => ((some (([] : List (S70)) : List (S70))).bind fun y351 => (if t350 = 0 then ((rf_Valid.f kj10 l1).bind fun t354 => (lw_FeeSlips.j2 kj10 l0 l1 t344 t345 t350 y351 (!t354))) else (lw_FeeSlips.j2 kj10 l0 l1 t344 t345 t350 y351 false)))) = some r := by rw [if_neg (show ¬ (false = true) by decide)] at H; exact H
                clear H
                have H := H1
                clear H1
                replace H := Option.bind_eq_some_iff.mp H
                obtain ⟨t350, A230, H⟩ := H
                replace H : ((some (([] : List (S70)) : List (S70))).bind fun y351 => (if t350 = 0 then ((rf_Valid.f kj10 l1).bind fun t354 => (lw_FeeSlips.j2 kj10 l0 l1 t344 t345 t350 y351 (!t354))) else (lw_FeeSlips.j2 kj10 l0 l1 t344 t345 t350 y351 false))) = some r := H
                have A23 := Aside0.mk A230
                clear A230
                obtain ⟨y351, hy351⟩ : ∃ y_ : List (S70), y_ = (([] : List (S70))) := ⟨_, rfl⟩
                replace H : (if t350 = 0 then ((rf_Valid.f kj10 l1).bind fun t354 => (lw_FeeSlips.j2 kj10 l0 l1 t344 t345 t350 y351 (!t354))) else (lw_FeeSlips.j2 kj10 l0 l1 t344 t345 t350 y351 false)) = some r := by first | (rw [hy351]; with_reducible exact H) | (have H2_ := (Option.bind_some _ _).symm.trans H; rw [hy351]; with_reducible exact H2_) | (have H2_ := (Option.bind_some _ _).symm.trans H; with_reducible exact H2_) | with_reducible exact H | (rw [hy351]; exact H) | exact H
                have Ny351 := Aside0.mk hy351
                clear hy351
                have HC24 := Aside0.mk H
                clear H
                go_upto_region 8 with (first | (go_at_call 31; (with_reducible refine (rf_Ledger.calls kj10 _ _ l0 true t350 _ ?side1 ?side2 A23.out).mono ?_); (case side1 => repeat (first | exact (Kd.C_below HR0.out HB.out) | (with_reducible refine Kd.C_alloc ?_ _) | (with_reducible refine Kd.C_drewN ?_ _) | (with_reducible refine Kd.C_drew ?_))); (case side2 => exact HC0.out); rintro e w25 ⟨rfl, hb⟩; have n0_ := Aside0.mk (Kd.R_below (by (with_reducible repeat (first | apply Kd.R_alloc | apply Kd.R_drewN | apply Kd.R_drew)); exact HO_7.out) hb); have n1_ := Aside0.mk (below_step (by repeat (first | (with_reducible first | exact HB.out | apply below_alloc | apply pw_below_drewN | apply below_drew1) | exact HB.out)) hb); clear HO_7; clear HB; have HO_7 := n0_; have HB := n1_; clear n0_ n1_; (try clear hb); (try clear hb2); (try clear hk); (try clear hi)) | ((with_reducible refine gate_dst (N := 44) rfl ?_); (try (refine gate_guard (by rfl) ?_; dsimp only)); refine Kd.R_lit k70 _ 70 ?hg (N := 44) ?hd (xs := ([] : List (S70))) (inner := []) (ok := fun _ => True) (okp := fun _ => True) ?hr ?hp (fun _ hk => hk) trivial (Below.refl _ _) (Nat.le_refl _) (by simp) ?_; (case hd => rfl); (case hg => rfl); (case hr => first | (go_simp; done) | (go_simp; rfl)); (case hp => exact (Reps.none _ _)); intro v352 w26 ho27 hb hg_ hnew_; clear hg_ hnew_; (first | rw [← Ny351.out] at ho27 | (simp only [Int.reduceToNat] at ho27; rw [← Ny351.out] at ho27)); have n0_ := Aside0.mk (Kd.R_elder' (by (with_reducible repeat (first | apply Kd.R_alloc | apply Kd.R_drewN | apply Kd.R_drew)); exact HO_7.out) (Kd.R_base ho27) hb); have n1_ := Aside0.mk (Kd.R_lower (Kd.R_new' ho27 (Kd.R_lt (by (with_reducible repeat (first | apply Kd.R_alloc | apply Kd.R_drewN | apply Kd.R_drew)); exact HO_7.out))) (below_size (by repeat (first | (with_reducible first | exact HB.out | apply below_alloc | apply pw_below_drewN | apply below_drew1) | exact HB.out)))); have n2_ := Aside0.mk (below_step (by repeat (first | (with_reducible first | exact HB.out | apply below_alloc | apply pw_below_drewN | apply below_drew1) | exact HB.out)) hb); clear HO_7; clear HB; have HO_7 := n0_; have HO353 := n1_; have HB := n2_; clear n0_ n1_ n2_; clear hb ho27))
                repeat (go_quiet (first | (go_at_call 31; (with_reducible refine (rf_Ledger.calls kj10 _ _ l0 true t350 _ ?side1 ?side2 A23.out).mono ?_); (case side1 => repeat (first | exact (Kd.C_below HR0.out HB.out) | (with_reducible refine Kd.C_alloc ?_ _) | (with_reducible refine Kd.C_drewN ?_ _) | (with_reducible refine Kd.C_drew ?_))); (case side2 => exact HC0.out); rintro e w25 ⟨rfl, hb⟩; have n0_ := Aside0.mk (Kd.R_below (by (with_reducible repeat (first | apply Kd.R_alloc | apply Kd.R_drewN | apply Kd.R_drew)); exact HO_7.out) hb); have n1_ := Aside0.mk (below_step (by repeat (first | (with_reducible first | exact HB.out | apply below_alloc | apply pw_below_drewN | apply below_drew1) | exact HB.out)) hb); clear HO_7; clear HB; have HO_7 := n0_; have HB := n1_; clear n0_ n1_; (try clear hb); (try clear hb2); (try clear hk); (try clear hi)) | ((with_reducible refine gate_dst (N := 44) rfl ?_); (try (refine gate_guard (by rfl) ?_; dsimp only)); refine Kd.R_lit k70 _ 70 ?hg (N := 44) ?hd (xs := ([] : List (S70))) (inner := []) (ok := fun _ => True) (okp := fun _ => True) ?hr ?hp (fun _ hk => hk) trivial (Below.refl _ _) (Nat.le_refl _) (by simp) ?_; (case hd => rfl); (case hg => rfl); (case hr => first | (go_simp; done) | (go_simp; rfl)); (case hp => exact (Reps.none _ _)); intro v352 w26 ho27 hb hg_ hnew_; clear hg_ hnew_; (first | rw [← Ny351.out] at ho27 | (simp only [Int.reduceToNat] at ho27; rw [← Ny351.out] at ho27)); have n0_ := Aside0.mk (Kd.R_elder' (by (with_reducible repeat (first | apply Kd.R_alloc | apply Kd.R_drewN | apply Kd.R_drew)); exact HO_7.out) (Kd.R_base ho27) hb); have n1_ := Aside0.mk (Kd.R_lower (Kd.R_new' ho27 (Kd.R_lt (by (with_reducible repeat (first | apply Kd.R_alloc | apply Kd.R_drewN | apply Kd.R_drew)); exact HO_7.out))) (below_size (by repeat (first | (with_reducible first | exact HB.out | apply below_alloc | apply pw_below_drewN | apply below_drew1) | exact HB.out)))); have n2_ := Aside0.mk (below_step (by repeat (first | (with_reducible first | exact HB.out | apply below_alloc | apply pw_below_drewN | apply below_drew1) | exact HB.out)) hb); clear HO_7; clear HB; have HO_7 := n0_; have HO353 := n1_; have HB := n2_; clear n0_ n1_ n2_; clear hb ho27)); go_upto_region 8 with (first | (go_at_call 31; (with_reducible refine (rf_Ledger.calls kj10 _ _ l0 true t350 _ ?side1 ?side2 A23.out).mono ?_); (case side1 => repeat (first | exact (Kd.C_below HR0.out HB.out) | (with_reducible refine Kd.C_alloc ?_ _) | (with_reducible refine Kd.C_drewN ?_ _) | (with_reducible refine Kd.C_drew ?_))); (case side2 => exact HC0.out); rintro e w25 ⟨rfl, hb⟩; have n0_ := Aside0.mk (Kd.R_below (by (with_reducible repeat (first | apply Kd.R_alloc | apply Kd.R_drewN | apply Kd.R_drew)); exact HO_7.out) hb); have n1_ := Aside0.mk (below_step (by repeat (first | (with_reducible first | exact HB.out | apply below_alloc | apply pw_below_drewN | apply below_drew1) | exact HB.out)) hb); clear HO_7; clear HB; have HO_7 := n0_; have HB := n1_; clear n0_ n1_; (try clear hb); (try clear hb2); (try clear hk); (try clear hi)) | ((with_reducible refine gate_dst (N := 44) rfl ?_); (try (refine gate_guard (by rfl) ?_; dsimp only)); refine Kd.R_lit k70 _ 70 ?hg (N := 44) ?hd (xs := ([] : List (S70))) (inner := []) (ok := fun _ => True) (okp := fun _ => True) ?hr ?hp (fun _ hk => hk) trivial (Below.refl _ _) (Nat.le_refl _) (by simp) ?_; (case hd => rfl); (case hg => rfl); (case hr => first | (go_simp; done) | (go_simp; rfl)); (case hp => exact (Reps.none _ _)); intro v352 w26 ho27 hb hg_ hnew_; clear hg_ hnew_; (first | rw [← Ny351.out] at ho27 | (simp only [Int.reduceToNat] at ho27; rw [← Ny351.out] at ho27)); have n0_ := Aside0.mk (Kd.R_elder' (by (with_reducible repeat (first | apply Kd.R_alloc | apply Kd.R_drewN | apply Kd.R_drew)); exact HO_7.out) (Kd.R_base ho27) hb); have n1_ := Aside0.mk (Kd.R_lower (Kd.R_new' ho27 (Kd.R_lt (by (with_reducible repeat (first | apply Kd.R_alloc | apply Kd.R_drewN | apply Kd.R_drew)); exact HO_7.out))) (below_size (by repeat (first | (with_reducible first | exact HB.out | apply below_alloc | apply pw_below_drewN | apply below_drew1) | exact HB.out)))); have n2_ := Aside0.mk (below_step (by repeat (first | (with_reducible first | exact HB.out | apply below_alloc | apply pw_below_drewN | apply below_drew1) | exact HB.out)) hb); clear HO_7; clear HB; have HO_7 := n0_; have HO353 := n1_; have HB := n2_; clear n0_ n1_ n2_; clear hb ho27)))
                (try simp only [Act.put, List.setIfInBounds_toArray, List.set_cons_zero, List.set_cons_succ])
                go_cut [51] (fun v51 wc => ∃ (kq : Nat) (x51_23 : Bool), v51 = .bool x51_23 ∧ Aside0 (lw_FeeSlips.j2 kq l0 l1 t344 t345 t350 y351 x51_23 = some r) ∧ Aside0 (kq ≤ kj10) ∧ Aside0 (Kd.R k70 70 wc w.heap.size (fun k_ => some k_ ≠ (v352 : Value).ownBlock) v346 t344) ∧ Aside0 (Kd.R k70 70 wc w.heap.size (fun k_ => some k_ ≠ (v346 : Value).ownBlock) v352 y351) ∧ Aside0 (Below w.heap.size w wc))
                case first =>
                  have H := HC24.out
                  clear HC24
                  by_cases c28 : t350 = 0
                  · rw [if_pos c28] at H
                    have c28b0 : (t350 == 0) = true := beq_iff_eq.mpr c28
                    have c28b1 : (t350 != 0) = false := bne_eq_false_iff_eq.mpr c28
                    clear c28
                    (first | rw [c28b0] | (simp only [i64_w, i32_w]; rw [c28b0]) | skip)
                    replace H := Option.bind_eq_some_iff.mp H
                    obtain ⟨t354, A290, H⟩ := H
                    replace H : (lw_FeeSlips.j2 kj10 l0 l1 t344 t345 t350 y351 (!t354)) = some r := H
                    have A29 := Aside0.mk A290
                    clear A290
                    have H' := Aside0.mk H
                    clear H
                    go_wp2_with (first | (go_at_call 37; (with_reducible refine (rf_Valid.calls kj10 _ _ l1 t354 _ ?side1 ?side2 A29.out).mono ?_); (case side1 => repeat (first | exact (Kd.C_below HR1.out HB.out) | (with_reducible refine Kd.C_alloc ?_ _) | (with_reducible refine Kd.C_drewN ?_ _) | (with_reducible refine Kd.C_drew ?_))); (case side2 => exact HC1.out); rintro e w' ⟨rfl, ⟨nd, rfl⟩⟩; (try first | exact ⟨rfl, _, World.drewN_drewN _ _ _⟩ | exact ⟨rfl, _, Eq.trans (World.drewN_drewN _ _ _) (congrArg (World.drewN _) (Nat.add_assoc _ _ _))⟩)))
                    repeat (go_quiet (first | (go_at_call 37; (with_reducible refine (rf_Valid.calls kj10 _ _ l1 t354 _ ?side1 ?side2 A29.out).mono ?_); (case side1 => repeat (first | exact (Kd.C_below HR1.out HB.out) | (with_reducible refine Kd.C_alloc ?_ _) | (with_reducible refine Kd.C_drewN ?_ _) | (with_reducible refine Kd.C_drew ?_))); (case side2 => exact HC1.out); rintro e w' ⟨rfl, ⟨nd, rfl⟩⟩; (try first | exact ⟨rfl, _, World.drewN_drewN _ _ _⟩ | exact ⟨rfl, _, Eq.trans (World.drewN_drewN _ _ _) (congrArg (World.drewN _) (Nat.add_assoc _ _ _))⟩))); try go_wp2_with (first | (go_at_call 37; (with_reducible refine (rf_Valid.calls kj10 _ _ l1 t354 _ ?side1 ?side2 A29.out).mono ?_); (case side1 => repeat (first | exact (Kd.C_below HR1.out HB.out) | (with_reducible refine Kd.C_alloc ?_ _) | (with_reducible refine Kd.C_drewN ?_ _) | (with_reducible refine Kd.C_drew ?_))); (case side2 => exact HC1.out); rintro e w' ⟨rfl, ⟨nd, rfl⟩⟩; (try first | exact ⟨rfl, _, World.drewN_drewN _ _ _⟩ | exact ⟨rfl, _, Eq.trans (World.drewN_drewN _ _ _) (congrArg (World.drewN _) (Nat.add_assoc _ _ _))⟩))))
                    go_meet
                    case rel => exact ⟨_, (!t354), (by first | rfl | (simp; done) | (simp [*]; done)), H', ⟨by have := HJ2.out; have := HJ10.out; first | omega | exact Nat.le_refl _⟩, ⟨by (with_reducible repeat (first | apply Kd.R_alloc | apply Kd.R_drewN | apply Kd.R_drew)); exact Kd.R_mono HO_7.out (fun _ hk => hk.2)⟩, ⟨by (with_reducible repeat (first | apply Kd.R_alloc | apply Kd.R_drewN | apply Kd.R_drew)); exact Kd.R_mono HO353.out (fun _ hk => hk.2)⟩, ⟨by repeat (first | (with_reducible first | exact HB.out | apply below_alloc | apply pw_below_drewN | apply below_drew1) | exact HB.out)⟩⟩
                  · rw [if_neg c28] at H
                    have c28b0 : (t350 == 0) = false := beq_eq_false_iff_ne.mpr c28
                    have c28b1 : (t350 != 0) = true := bne_iff_ne.mpr c28
                    (first | rw [c28b0] | (simp only [i64_w, i32_w]; rw [c28b0]) | skip)
                    have H' := Aside0.mk H
                    clear H
                    go_wp2
                    repeat (go_quiet (fail); try go_wp2)
                    go_meet
                    case rel => exact ⟨_, (false), (by first | rfl | (simp; done) | (simp [*]; done)), H', ⟨by have := HJ2.out; have := HJ10.out; first | omega | exact Nat.le_refl _⟩, ⟨by (with_reducible repeat (first | apply Kd.R_alloc | apply Kd.R_drewN | apply Kd.R_drew)); exact Kd.R_mono HO_7.out (fun _ hk => hk.2)⟩, ⟨by (with_reducible repeat (first | apply Kd.R_alloc | apply Kd.R_drewN | apply Kd.R_drew)); exact Kd.R_mono HO353.out (fun _ hk => hk.2)⟩, ⟨by repeat (first | (with_reducible first | exact HB.out | apply below_alloc | apply pw_below_drewN | apply below_drew1) | exact HB.out)⟩⟩
                case rest =>
                  clear HC24
                  try clear c1
                  try clear c2
                  try clear p2
                  try clear c4
                  try clear c4b0
                  try clear c4b1
                  try clear c5
                  try clear c7
                  try clear c9
                  try clear c20
                  try clear c22
                  try clear c28
                  try clear c28b0
                  try clear c28b1
                  try clear p2
                  obtain ⟨kq, x51_23, rfl, HA, HJ23, HO_7, HO_10, HB⟩ := hcut
                  cases kq with
                  | zero => exact absurd HA.out (by simp [lw_FeeSlips.j2])
                  | succ kj23 =>
                    have H := HA.out
                    clear HA
                    simp only [lw_FeeSlips.j2] at H
                    have HC30 := Aside0.mk H
                    clear H
                    go_upto_if 51 with (fail)
                    repeat (go_quiet (fail); go_upto_if 51 with (fail))
                    go_cut [9] (fun v9 wc => ∃ (kq : Nat) (x9_29 : Int), v9 = .int .i64 x9_29 ∧ Aside0 (lw_FeeSlips.j3 kq l0 l1 t344 t345 x9_29 y351 = some r) ∧ Aside0 (kq ≤ kj23) ∧ Aside0 (Kd.R k70 70 wc w.heap.size (fun k_ => some k_ ≠ (v352 : Value).ownBlock) v346 t344) ∧ Aside0 (Kd.R k70 70 wc w.heap.size (fun k_ => some k_ ≠ (v346 : Value).ownBlock) v352 y351) ∧ Aside0 (Below w.heap.size w wc))
                    case first =>
                      have H := HC30.out
                      clear HC30
                      by_cases c31 : x51_23 = true
                      · subst c31
                        have H1 : (lw_FeeSlips.j3 kj23 l0 l1 t344 t345 4 y351) = some r := by rw [if_pos rfl] at H; exact H
                        clear H
                        have H := H1
                        clear H1
                        have H' := Aside0.mk H
                        clear H
                        go_wp2
                        repeat (go_quiet (fail); try go_wp2)
                        go_meet
                        case rel => exact ⟨_, (4), (by first | rfl | (simp; done) | (simp [*]; done)), H', ⟨by have := HJ2.out; have := HJ10.out; have := HJ23.out; first | omega | exact Nat.le_refl _⟩, ⟨by (with_reducible repeat (first | apply Kd.R_alloc | apply Kd.R_drewN | apply Kd.R_drew)); exact HO_7.out⟩, ⟨by (with_reducible repeat (first | apply Kd.R_alloc | apply Kd.R_drewN | apply Kd.R_drew)); exact HO_10.out⟩, ⟨by repeat (first | (with_reducible first | exact HB.out | apply below_alloc | apply pw_below_drewN | apply below_drew1) | exact HB.out)⟩⟩
                      · replace c31 := Bool.eq_false_iff.mpr c31
                        subst c31
                        have H1 : (lw_FeeSlips.j3 kj23 l0 l1 t344 t345 t350 y351) = some r := by rw [if_neg (show ¬ (false = true) by decide)] at H; exact H
                        clear H
                        have H := H1
                        clear H1
                        have H' := Aside0.mk H
                        clear H
                        go_wp2
                        repeat (go_quiet (fail); try go_wp2)
                        go_meet
                        case rel => exact ⟨_, (t350), (by first | rfl | (simp; done) | (simp [*]; done)), H', ⟨by have := HJ2.out; have := HJ10.out; have := HJ23.out; first | omega | exact Nat.le_refl _⟩, ⟨by (with_reducible repeat (first | apply Kd.R_alloc | apply Kd.R_drewN | apply Kd.R_drew)); exact HO_7.out⟩, ⟨by (with_reducible repeat (first | apply Kd.R_alloc | apply Kd.R_drewN | apply Kd.R_drew)); exact HO_10.out⟩, ⟨by repeat (first | (with_reducible first | exact HB.out | apply below_alloc | apply pw_below_drewN | apply below_drew1) | exact HB.out)⟩⟩
                    case rest =>
                      clear HC30
                      try clear c1
                      try clear c2
                      try clear p2
                      try clear c3
                      try clear c4
                      try clear c4b0
                      try clear c4b1
                      try clear c5
                      try clear c7
                      try clear c9
                      try clear c20
                      try clear c22
                      try clear c28
                      try clear c28b0
                      try clear c28b1
                      try clear c31
                      try clear p2
                      obtain ⟨kq, x9_29, rfl, HA, HJ29, HO_7, HO_10, HB⟩ := hcut
                      cases kq with
                      | zero => exact absurd HA.out (by simp [lw_FeeSlips.j3])
                      | succ kj29 =>
                        have H := HA.out
                        clear HA
                        simp only [lw_FeeSlips.j3] at H
                        have HC32 := Aside0.mk H
                        clear H
                        go_upto_region 10 with (fail)
                        repeat (go_quiet (fail); go_upto_region 10 with (fail))
                        go_cut [59] (fun v59 wc => ∃ (kq : Nat) (x59_31 : Bool), v59 = .bool x59_31 ∧ Aside0 (lw_FeeSlips.j4 kq l0 l1 t344 t345 x9_29 y351 x59_31 = some r) ∧ Aside0 (kq ≤ kj29) ∧ Aside0 (Kd.R k70 70 wc w.heap.size (fun k_ => some k_ ≠ (v352 : Value).ownBlock) v346 t344) ∧ Aside0 (Kd.R k70 70 wc w.heap.size (fun k_ => some k_ ≠ (v346 : Value).ownBlock) v352 y351) ∧ Aside0 (Below w.heap.size w wc))
                        case first =>
                          have H := HC32.out
                          clear HC32
                          by_cases c33 : x9_29 = 0
                          · rw [if_pos c33] at H
                            have c33b0 : (x9_29 == 0) = true := beq_iff_eq.mpr c33
                            have c33b1 : (x9_29 != 0) = false := bne_eq_false_iff_eq.mpr c33
                            clear c33
                            (first | rw [c33b0] | (simp only [i64_w, i32_w]; rw [c33b0]) | skip)
                            replace H := Option.bind_eq_some_iff.mp H
                            obtain ⟨t355, A340, H⟩ := H
                            replace H : ((rf_Ints.f kj29 t355 l1).bind fun t358 => (lw_FeeSlips.j4 kj29 l0 l1 t344 t345 x9_29 y351 t358)) = some r := H
                            have A34 := Aside0.mk A340
                            clear A340
                            replace H := Option.bind_eq_some_iff.mp H
                            obtain ⟨t358, A350, H⟩ := H
                            replace H : (lw_FeeSlips.j4 kj29 l0 l1 t344 t345 x9_29 y351 t358) = some r := H
                            have A35 := Aside0.mk A350
                            clear A350
                            have H' := Aside0.mk H
                            clear H
                            go_wp2_with (first | (go_at_call 32; (with_reducible refine (rf_Balances.calls _ _ l0 t355 _ ?side1 ?side2 A34.out).mono ?_); (case side1 => repeat (first | exact (Kd.C_below HR0.out HB.out) | (with_reducible refine Kd.C_alloc ?_ _) | (with_reducible refine Kd.C_drewN ?_ _) | (with_reducible refine Kd.C_drew ?_))); (case side2 => exact HC0.out); rintro e w36 ⟨v356, rfl, ho0, hb⟩; have n0_ := Aside0.mk (Kd.R_below (by (with_reducible repeat (first | apply Kd.R_alloc | apply Kd.R_drewN | apply Kd.R_drew)); exact HO_7.out) hb); have n1_ := Aside0.mk (Kd.R_below (by (with_reducible repeat (first | apply Kd.R_alloc | apply Kd.R_drewN | apply Kd.R_drew)); exact HO_10.out) hb); have n2_ := Aside0.mk (Kd.R_lower ho0 (below_size (by repeat (first | (with_reducible first | exact HB.out | apply below_alloc | apply pw_below_drewN | apply below_drew1) | exact HB.out)))); have n3_ := Aside0.mk (below_step (by repeat (first | (with_reducible first | exact HB.out | apply below_alloc | apply pw_below_drewN | apply below_drew1) | exact HB.out)) hb); clear HO_7; clear HO_10; clear HB; have HO_7 := n0_; have HO_10 := n1_; have HO357 := n2_; have HB := n3_; clear n0_ n1_ n2_ n3_; (try clear hb); (try clear hb2); (try clear hk); (try clear hi); (try clear ho0); obtain ⟨Ao37, co37, eo37⟩ := Kd.R_slice HO357.out; subst eo37) | (go_at_call 25; (with_reducible refine (rf_Ints.calls kj29 _ _ t355 _ _ l1 t358 _ ?side1 ?side2 ?side3 ?side4 A35.out).mono ?_); (case side1 => repeat (first | exact (Kd.R_reads' HO357.out).2.2 | (with_reducible refine Kd.C_alloc ?_ _) | (with_reducible refine Kd.C_drewN ?_ _) | (with_reducible refine Kd.C_drew ?_))); (case side2 => exact (Kd.R_reads' HO357.out).2.1); (case side3 => repeat (first | exact (Kd.C_below HR1.out HB.out) | (with_reducible refine Kd.C_alloc ?_ _) | (with_reducible refine Kd.C_drewN ?_ _) | (with_reducible refine Kd.C_drew ?_))); (case side4 => exact HC1.out); rintro e w' ⟨rfl, ⟨nd, rfl⟩⟩; (try first | exact ⟨rfl, _, World.drewN_drewN _ _ _⟩ | exact ⟨rfl, _, Eq.trans (World.drewN_drewN _ _ _) (congrArg (World.drewN _) (Nat.add_assoc _ _ _))⟩)))
                            repeat (go_quiet (first | (go_at_call 32; (with_reducible refine (rf_Balances.calls _ _ l0 t355 _ ?side1 ?side2 A34.out).mono ?_); (case side1 => repeat (first | exact (Kd.C_below HR0.out HB.out) | (with_reducible refine Kd.C_alloc ?_ _) | (with_reducible refine Kd.C_drewN ?_ _) | (with_reducible refine Kd.C_drew ?_))); (case side2 => exact HC0.out); rintro e w36 ⟨v356, rfl, ho0, hb⟩; have n0_ := Aside0.mk (Kd.R_below (by (with_reducible repeat (first | apply Kd.R_alloc | apply Kd.R_drewN | apply Kd.R_drew)); exact HO_7.out) hb); have n1_ := Aside0.mk (Kd.R_below (by (with_reducible repeat (first | apply Kd.R_alloc | apply Kd.R_drewN | apply Kd.R_drew)); exact HO_10.out) hb); have n2_ := Aside0.mk (Kd.R_lower ho0 (below_size (by repeat (first | (with_reducible first | exact HB.out | apply below_alloc | apply pw_below_drewN | apply below_drew1) | exact HB.out)))); have n3_ := Aside0.mk (below_step (by repeat (first | (with_reducible first | exact HB.out | apply below_alloc | apply pw_below_drewN | apply below_drew1) | exact HB.out)) hb); clear HO_7; clear HO_10; clear HB; have HO_7 := n0_; have HO_10 := n1_; have HO357 := n2_; have HB := n3_; clear n0_ n1_ n2_ n3_; (try clear hb); (try clear hb2); (try clear hk); (try clear hi); (try clear ho0); obtain ⟨Ao37, co37, eo37⟩ := Kd.R_slice HO357.out; subst eo37) | (go_at_call 25; (with_reducible refine (rf_Ints.calls kj29 _ _ t355 _ _ l1 t358 _ ?side1 ?side2 ?side3 ?side4 A35.out).mono ?_); (case side1 => repeat (first | exact (Kd.R_reads' HO357.out).2.2 | (with_reducible refine Kd.C_alloc ?_ _) | (with_reducible refine Kd.C_drewN ?_ _) | (with_reducible refine Kd.C_drew ?_))); (case side2 => exact (Kd.R_reads' HO357.out).2.1); (case side3 => repeat (first | exact (Kd.C_below HR1.out HB.out) | (with_reducible refine Kd.C_alloc ?_ _) | (with_reducible refine Kd.C_drewN ?_ _) | (with_reducible refine Kd.C_drew ?_))); (case side4 => exact HC1.out); rintro e w' ⟨rfl, ⟨nd, rfl⟩⟩; (try first | exact ⟨rfl, _, World.drewN_drewN _ _ _⟩ | exact ⟨rfl, _, Eq.trans (World.drewN_drewN _ _ _) (congrArg (World.drewN _) (Nat.add_assoc _ _ _))⟩))); try go_wp2_with (first | (go_at_call 32; (with_reducible refine (rf_Balances.calls _ _ l0 t355 _ ?side1 ?side2 A34.out).mono ?_); (case side1 => repeat (first | exact (Kd.C_below HR0.out HB.out) | (with_reducible refine Kd.C_alloc ?_ _) | (with_reducible refine Kd.C_drewN ?_ _) | (with_reducible refine Kd.C_drew ?_))); (case side2 => exact HC0.out); rintro e w36 ⟨v356, rfl, ho0, hb⟩; have n0_ := Aside0.mk (Kd.R_below (by (with_reducible repeat (first | apply Kd.R_alloc | apply Kd.R_drewN | apply Kd.R_drew)); exact HO_7.out) hb); have n1_ := Aside0.mk (Kd.R_below (by (with_reducible repeat (first | apply Kd.R_alloc | apply Kd.R_drewN | apply Kd.R_drew)); exact HO_10.out) hb); have n2_ := Aside0.mk (Kd.R_lower ho0 (below_size (by repeat (first | (with_reducible first | exact HB.out | apply below_alloc | apply pw_below_drewN | apply below_drew1) | exact HB.out)))); have n3_ := Aside0.mk (below_step (by repeat (first | (with_reducible first | exact HB.out | apply below_alloc | apply pw_below_drewN | apply below_drew1) | exact HB.out)) hb); clear HO_7; clear HO_10; clear HB; have HO_7 := n0_; have HO_10 := n1_; have HO357 := n2_; have HB := n3_; clear n0_ n1_ n2_ n3_; (try clear hb); (try clear hb2); (try clear hk); (try clear hi); (try clear ho0); obtain ⟨Ao37, co37, eo37⟩ := Kd.R_slice HO357.out; subst eo37) | (go_at_call 25; (with_reducible refine (rf_Ints.calls kj29 _ _ t355 _ _ l1 t358 _ ?side1 ?side2 ?side3 ?side4 A35.out).mono ?_); (case side1 => repeat (first | exact (Kd.R_reads' HO357.out).2.2 | (with_reducible refine Kd.C_alloc ?_ _) | (with_reducible refine Kd.C_drewN ?_ _) | (with_reducible refine Kd.C_drew ?_))); (case side2 => exact (Kd.R_reads' HO357.out).2.1); (case side3 => repeat (first | exact (Kd.C_below HR1.out HB.out) | (with_reducible refine Kd.C_alloc ?_ _) | (with_reducible refine Kd.C_drewN ?_ _) | (with_reducible refine Kd.C_drew ?_))); (case side4 => exact HC1.out); rintro e w' ⟨rfl, ⟨nd, rfl⟩⟩; (try first | exact ⟨rfl, _, World.drewN_drewN _ _ _⟩ | exact ⟨rfl, _, Eq.trans (World.drewN_drewN _ _ _) (congrArg (World.drewN _) (Nat.add_assoc _ _ _))⟩))))
                            go_meet
                            case rel => exact ⟨_, (t358), (by first | rfl | (simp; done) | (simp [*]; done)), H', ⟨by have := HJ2.out; have := HJ10.out; have := HJ23.out; have := HJ29.out; first | omega | exact Nat.le_refl _⟩, ⟨by (with_reducible repeat (first | apply Kd.R_alloc | apply Kd.R_drewN | apply Kd.R_drew)); exact HO_7.out⟩, ⟨by (with_reducible repeat (first | apply Kd.R_alloc | apply Kd.R_drewN | apply Kd.R_drew)); exact HO_10.out⟩, ⟨by repeat (first | (with_reducible first | exact HB.out | apply below_alloc | apply pw_below_drewN | apply below_drew1) | exact HB.out)⟩⟩
                          · rw [if_neg c33] at H
                            have c33b0 : (x9_29 == 0) = false := beq_eq_false_iff_ne.mpr c33
                            have c33b1 : (x9_29 != 0) = true := bne_iff_ne.mpr c33
                            (first | rw [c33b0] | (simp only [i64_w, i32_w]; rw [c33b0]) | skip)
                            have H' := Aside0.mk H
                            clear H
                            go_wp2
                            repeat (go_quiet (fail); try go_wp2)
                            go_meet
                            case rel => exact ⟨_, (false), (by first | rfl | (simp; done) | (simp [*]; done)), H', ⟨by have := HJ2.out; have := HJ10.out; have := HJ23.out; have := HJ29.out; first | omega | exact Nat.le_refl _⟩, ⟨by (with_reducible repeat (first | apply Kd.R_alloc | apply Kd.R_drewN | apply Kd.R_drew)); exact HO_7.out⟩, ⟨by (with_reducible repeat (first | apply Kd.R_alloc | apply Kd.R_drewN | apply Kd.R_drew)); exact HO_10.out⟩, ⟨by repeat (first | (with_reducible first | exact HB.out | apply below_alloc | apply pw_below_drewN | apply below_drew1) | exact HB.out)⟩⟩
                        case rest =>
                          clear HC32
                          try clear c1
                          try clear c2
                          try clear p2
                          try clear c3
                          try clear c4
                          try clear c4b0
                          try clear c4b1
                          try clear c5
                          try clear c7
                          try clear c9
                          try clear c20
                          try clear c22
                          try clear c28
                          try clear c28b0
                          try clear c28b1
                          try clear c31
                          try clear c33
                          try clear c33b0
                          try clear c33b1
                          try clear p2
                          obtain ⟨kq, x59_31, rfl, HA, HJ31, HO_7, HO_10, HB⟩ := hcut
                          cases kq with
                          | zero => exact absurd HA.out (by simp [lw_FeeSlips.j4])
                          | succ kj31 =>
                            have H := HA.out
                            clear HA
                            simp only [lw_FeeSlips.j4] at H
                            have HC38 := Aside0.mk H
                            clear H
                            go_upto_if 59 with (fail)
                            repeat (go_quiet (fail); go_upto_if 59 with (fail))
                            go_cut [9] (fun v9 wc => ∃ (kq : Nat) (x9_37 : Int), v9 = .int .i64 x9_37 ∧ Aside0 (lw_FeeSlips.j5 kq l0 l1 t344 t345 x9_37 y351 = some r) ∧ Aside0 (kq ≤ kj31) ∧ Aside0 (Kd.R k70 70 wc w.heap.size (fun k_ => some k_ ≠ (v352 : Value).ownBlock) v346 t344) ∧ Aside0 (Kd.R k70 70 wc w.heap.size (fun k_ => some k_ ≠ (v346 : Value).ownBlock) v352 y351) ∧ Aside0 (Below w.heap.size w wc))
                            case first =>
                              have H := HC38.out
                              clear HC38
                              by_cases c39 : x59_31 = true
                              · subst c39
                                have H1 : (lw_FeeSlips.j5 kj31 l0 l1 t344 t345 6 y351) = some r := by rw [if_pos rfl] at H; exact H
                                clear H
                                have H := H1
                                clear H1
                                have H' := Aside0.mk H
                                clear H
                                go_wp2
                                repeat (go_quiet (fail); try go_wp2)
                                go_meet
                                case rel => exact ⟨_, (6), (by first | rfl | (simp; done) | (simp [*]; done)), H', ⟨by have := HJ2.out; have := HJ10.out; have := HJ23.out; have := HJ29.out; have := HJ31.out; first | omega | exact Nat.le_refl _⟩, ⟨by (with_reducible repeat (first | apply Kd.R_alloc | apply Kd.R_drewN | apply Kd.R_drew)); exact HO_7.out⟩, ⟨by (with_reducible repeat (first | apply Kd.R_alloc | apply Kd.R_drewN | apply Kd.R_drew)); exact HO_10.out⟩, ⟨by repeat (first | (with_reducible first | exact HB.out | apply below_alloc | apply pw_below_drewN | apply below_drew1) | exact HB.out)⟩⟩
                              · replace c39 := Bool.eq_false_iff.mpr c39
                                subst c39
                                have H1 : (lw_FeeSlips.j5 kj31 l0 l1 t344 t345 x9_29 y351) = some r := by rw [if_neg (show ¬ (false = true) by decide)] at H; exact H
                                clear H
                                have H := H1
                                clear H1
                                have H' := Aside0.mk H
                                clear H
                                go_wp2
                                repeat (go_quiet (fail); try go_wp2)
                                go_meet
                                case rel => exact ⟨_, (x9_29), (by first | rfl | (simp; done) | (simp [*]; done)), H', ⟨by have := HJ2.out; have := HJ10.out; have := HJ23.out; have := HJ29.out; have := HJ31.out; first | omega | exact Nat.le_refl _⟩, ⟨by (with_reducible repeat (first | apply Kd.R_alloc | apply Kd.R_drewN | apply Kd.R_drew)); exact HO_7.out⟩, ⟨by (with_reducible repeat (first | apply Kd.R_alloc | apply Kd.R_drewN | apply Kd.R_drew)); exact HO_10.out⟩, ⟨by repeat (first | (with_reducible first | exact HB.out | apply below_alloc | apply pw_below_drewN | apply below_drew1) | exact HB.out)⟩⟩
                            case rest =>
                              clear HC38
                              try clear c1
                              try clear c2
                              try clear p2
                              try clear c3
                              try clear c4
                              try clear c4b0
                              try clear c4b1
                              try clear c5
                              try clear c7
                              try clear c9
                              try clear c20
                              try clear c22
                              try clear c28
                              try clear c28b0
                              try clear c28b1
                              try clear c31
                              try clear c33
                              try clear c33b0
                              try clear c33b1
                              try clear c39
                              try clear p2
                              obtain ⟨kq, x9_37, rfl, HA, HJ37, HO_7, HO_10, HB⟩ := hcut
                              cases kq with
                              | zero => exact absurd HA.out (by simp [lw_FeeSlips.j5])
                              | succ kj37 =>
                                have H := HA.out
                                clear HA
                                simp only [lw_FeeSlips.j5] at H
                                have HC40 := Aside0.mk H
                                clear H
                                go_upto_if 61 with (fail)
                                repeat (go_quiet (fail); go_upto_if 61 with (fail))
                                go_cut [9, 10] (fun v9 v10 wc => ∃ (kq : Nat) (x9_39 : Int) (x10_39 : List (S70)), v9 = .int .i64 x9_39 ∧ Aside0 (lw_FeeSlips.j6 kq t344 t345 x9_39 x10_39 = some r) ∧ Aside0 (kq ≤ kj37) ∧ Aside0 (Kd.R k70 70 wc w.heap.size (fun k_ => some k_ ≠ (v10 : Value).ownBlock) v346 t344) ∧ Aside0 (Kd.R k70 70 wc w.heap.size (fun k_ => some k_ ≠ (v346 : Value).ownBlock) v10 x10_39) ∧ Aside0 (Below w.heap.size w wc))
                                case first =>
                                  have H := HC40.out
                                  clear HC40
                                  by_cases c41 : x9_37 = 0
                                  · rw [if_pos c41] at H
                                    have c41b0 : (x9_37 == 0) = true := beq_iff_eq.mpr c41
                                    have c41b1 : (x9_37 != 0) = false := bne_eq_false_iff_eq.mpr c41
                                    clear c41
                                    (first | rw [c41b0] | (simp only [i64_w, i32_w]; rw [c41b0]) | skip)
                                    replace H := Option.bind_eq_some_iff.mp H
                                    obtain ⟨t359, A420, H⟩ := H
                                    replace H : (if (t359.length : Int) = 0 then (lw_FeeSlips.j6 kj37 t344 t345 7 t359) else (lw_FeeSlips.j6 kj37 t344 t345 x9_37 t359)) = some r := H
                                    have A42 := Aside0.mk A420
                                    clear A420
                                    by_cases c43 : (t359.length : Int) = 0
                                    · rw [if_pos c43] at H
                                      have c43b0 : ((t359.length : Int) == 0) = true := beq_iff_eq.mpr c43
                                      have c43b1 : ((t359.length : Int) != 0) = false := bne_eq_false_iff_eq.mpr c43
                                      clear c43
                                      have H' := Aside0.mk H
                                      clear H
                                      go_wp2_with (first | (go_at_call 38; (with_reducible refine (rf_Slips.calls kj37 _ _ l0 _ _ l1 t359 _ ?side1 ?side2 ?side3 ?side4 A42.out).mono ?_); (case side1 => repeat (first | exact (Kd.C_below HR0.out HB.out) | (with_reducible refine Kd.C_alloc ?_ _) | (with_reducible refine Kd.C_drewN ?_ _) | (with_reducible refine Kd.C_drew ?_))); (case side2 => exact HC0.out); (case side3 => repeat (first | exact (Kd.C_below HR1.out HB.out) | (with_reducible refine Kd.C_alloc ?_ _) | (with_reducible refine Kd.C_drewN ?_ _) | (with_reducible refine Kd.C_drew ?_))); (case side4 => exact HC1.out); rintro e w44 ⟨v360, rfl, ho0, hb⟩; have n0_ := Aside0.mk (Kd.R_elder' (by (with_reducible repeat (first | apply Kd.R_alloc | apply Kd.R_drewN | apply Kd.R_drew)); exact HO_7.out) (Kd.R_base ho0) hb); have n1_ := Aside0.mk (Kd.R_elder' (by (with_reducible repeat (first | apply Kd.R_alloc | apply Kd.R_drewN | apply Kd.R_drew)); exact HO_10.out) (Kd.R_base ho0) hb); have n2_ := Aside0.mk (Kd.R_lower (Kd.R_new' (Kd.R_new' ho0 (Kd.R_lt (by (with_reducible repeat (first | apply Kd.R_alloc | apply Kd.R_drewN | apply Kd.R_drew)); exact HO_7.out))) (Kd.R_lt (by (with_reducible repeat (first | apply Kd.R_alloc | apply Kd.R_drewN | apply Kd.R_drew)); exact HO_10.out))) (below_size (by repeat (first | (with_reducible first | exact HB.out | apply below_alloc | apply pw_below_drewN | apply below_drew1) | exact HB.out)))); have n3_ := Aside0.mk (below_step (by repeat (first | (with_reducible first | exact HB.out | apply below_alloc | apply pw_below_drewN | apply below_drew1) | exact HB.out)) hb); clear HO_7; clear HO_10; clear HB; have HO_7 := n0_; have HO_10 := n1_; have HO361 := n2_; have HB := n3_; clear n0_ n1_ n2_ n3_; (try clear hb); (try clear hb2); (try clear hk); (try clear hi); (try clear ho0); obtain ⟨Ao45, co45, eo45⟩ := Kd.R_slice HO361.out; subst eo45))
                                      repeat (go_quiet (first | (go_at_call 38; (with_reducible refine (rf_Slips.calls kj37 _ _ l0 _ _ l1 t359 _ ?side1 ?side2 ?side3 ?side4 A42.out).mono ?_); (case side1 => repeat (first | exact (Kd.C_below HR0.out HB.out) | (with_reducible refine Kd.C_alloc ?_ _) | (with_reducible refine Kd.C_drewN ?_ _) | (with_reducible refine Kd.C_drew ?_))); (case side2 => exact HC0.out); (case side3 => repeat (first | exact (Kd.C_below HR1.out HB.out) | (with_reducible refine Kd.C_alloc ?_ _) | (with_reducible refine Kd.C_drewN ?_ _) | (with_reducible refine Kd.C_drew ?_))); (case side4 => exact HC1.out); rintro e w44 ⟨v360, rfl, ho0, hb⟩; have n0_ := Aside0.mk (Kd.R_elder' (by (with_reducible repeat (first | apply Kd.R_alloc | apply Kd.R_drewN | apply Kd.R_drew)); exact HO_7.out) (Kd.R_base ho0) hb); have n1_ := Aside0.mk (Kd.R_elder' (by (with_reducible repeat (first | apply Kd.R_alloc | apply Kd.R_drewN | apply Kd.R_drew)); exact HO_10.out) (Kd.R_base ho0) hb); have n2_ := Aside0.mk (Kd.R_lower (Kd.R_new' (Kd.R_new' ho0 (Kd.R_lt (by (with_reducible repeat (first | apply Kd.R_alloc | apply Kd.R_drewN | apply Kd.R_drew)); exact HO_7.out))) (Kd.R_lt (by (with_reducible repeat (first | apply Kd.R_alloc | apply Kd.R_drewN | apply Kd.R_drew)); exact HO_10.out))) (below_size (by repeat (first | (with_reducible first | exact HB.out | apply below_alloc | apply pw_below_drewN | apply below_drew1) | exact HB.out)))); have n3_ := Aside0.mk (below_step (by repeat (first | (with_reducible first | exact HB.out | apply below_alloc | apply pw_below_drewN | apply below_drew1) | exact HB.out)) hb); clear HO_7; clear HO_10; clear HB; have HO_7 := n0_; have HO_10 := n1_; have HO361 := n2_; have HB := n3_; clear n0_ n1_ n2_ n3_; (try clear hb); (try clear hb2); (try clear hk); (try clear hi); (try clear ho0); obtain ⟨Ao45, co45, eo45⟩ := Kd.R_slice HO361.out; subst eo45)); try go_wp2_with (first | (go_at_call 38; (with_reducible refine (rf_Slips.calls kj37 _ _ l0 _ _ l1 t359 _ ?side1 ?side2 ?side3 ?side4 A42.out).mono ?_); (case side1 => repeat (first | exact (Kd.C_below HR0.out HB.out) | (with_reducible refine Kd.C_alloc ?_ _) | (with_reducible refine Kd.C_drewN ?_ _) | (with_reducible refine Kd.C_drew ?_))); (case side2 => exact HC0.out); (case side3 => repeat (first | exact (Kd.C_below HR1.out HB.out) | (with_reducible refine Kd.C_alloc ?_ _) | (with_reducible refine Kd.C_drewN ?_ _) | (with_reducible refine Kd.C_drew ?_))); (case side4 => exact HC1.out); rintro e w44 ⟨v360, rfl, ho0, hb⟩; have n0_ := Aside0.mk (Kd.R_elder' (by (with_reducible repeat (first | apply Kd.R_alloc | apply Kd.R_drewN | apply Kd.R_drew)); exact HO_7.out) (Kd.R_base ho0) hb); have n1_ := Aside0.mk (Kd.R_elder' (by (with_reducible repeat (first | apply Kd.R_alloc | apply Kd.R_drewN | apply Kd.R_drew)); exact HO_10.out) (Kd.R_base ho0) hb); have n2_ := Aside0.mk (Kd.R_lower (Kd.R_new' (Kd.R_new' ho0 (Kd.R_lt (by (with_reducible repeat (first | apply Kd.R_alloc | apply Kd.R_drewN | apply Kd.R_drew)); exact HO_7.out))) (Kd.R_lt (by (with_reducible repeat (first | apply Kd.R_alloc | apply Kd.R_drewN | apply Kd.R_drew)); exact HO_10.out))) (below_size (by repeat (first | (with_reducible first | exact HB.out | apply below_alloc | apply pw_below_drewN | apply below_drew1) | exact HB.out)))); have n3_ := Aside0.mk (below_step (by repeat (first | (with_reducible first | exact HB.out | apply below_alloc | apply pw_below_drewN | apply below_drew1) | exact HB.out)) hb); clear HO_7; clear HO_10; clear HB; have HO_7 := n0_; have HO_10 := n1_; have HO361 := n2_; have HB := n3_; clear n0_ n1_ n2_ n3_; (try clear hb); (try clear hb2); (try clear hk); (try clear hi); (try clear ho0); obtain ⟨Ao45, co45, eo45⟩ := Kd.R_slice HO361.out; subst eo45)))
                                      go_meet
                                      case rel => exact ⟨_, (7), (t359), (by first | rfl | (simp; done) | (simp [*]; done)), H', ⟨by have := HJ2.out; have := HJ10.out; have := HJ23.out; have := HJ29.out; have := HJ31.out; have := HJ37.out; first | omega | exact Nat.le_refl _⟩, ⟨by (with_reducible repeat (first | apply Kd.R_alloc | apply Kd.R_drewN | apply Kd.R_drew)); exact Kd.R_mono HO_7.out (fun _ hk => hk.2)⟩, ⟨by (with_reducible repeat (first | apply Kd.R_alloc | apply Kd.R_drewN | apply Kd.R_drew)); exact Kd.R_mono HO361.out (fun _ hk => hk.1.2)⟩, ⟨by repeat (first | (with_reducible first | exact HB.out | apply below_alloc | apply pw_below_drewN | apply below_drew1) | exact HB.out)⟩⟩
                                    · rw [if_neg c43] at H
                                      have c43b0 : ((t359.length : Int) == 0) = false := beq_eq_false_iff_ne.mpr c43
                                      have c43b1 : ((t359.length : Int) != 0) = true := bne_iff_ne.mpr c43
                                      have c43b2 : ¬ (t359 = []) := fun h_ => c43 (by rw [h_]; rfl)
                                      have H' := Aside0.mk H
                                      clear H
                                      go_wp2_with (first | (go_at_call 38; (with_reducible refine (rf_Slips.calls kj37 _ _ l0 _ _ l1 t359 _ ?side1 ?side2 ?side3 ?side4 A42.out).mono ?_); (case side1 => repeat (first | exact (Kd.C_below HR0.out HB.out) | (with_reducible refine Kd.C_alloc ?_ _) | (with_reducible refine Kd.C_drewN ?_ _) | (with_reducible refine Kd.C_drew ?_))); (case side2 => exact HC0.out); (case side3 => repeat (first | exact (Kd.C_below HR1.out HB.out) | (with_reducible refine Kd.C_alloc ?_ _) | (with_reducible refine Kd.C_drewN ?_ _) | (with_reducible refine Kd.C_drew ?_))); (case side4 => exact HC1.out); rintro e w46 ⟨v360, rfl, ho0, hb⟩; have n0_ := Aside0.mk (Kd.R_elder' (by (with_reducible repeat (first | apply Kd.R_alloc | apply Kd.R_drewN | apply Kd.R_drew)); exact HO_7.out) (Kd.R_base ho0) hb); have n1_ := Aside0.mk (Kd.R_elder' (by (with_reducible repeat (first | apply Kd.R_alloc | apply Kd.R_drewN | apply Kd.R_drew)); exact HO_10.out) (Kd.R_base ho0) hb); have n2_ := Aside0.mk (Kd.R_lower (Kd.R_new' (Kd.R_new' ho0 (Kd.R_lt (by (with_reducible repeat (first | apply Kd.R_alloc | apply Kd.R_drewN | apply Kd.R_drew)); exact HO_7.out))) (Kd.R_lt (by (with_reducible repeat (first | apply Kd.R_alloc | apply Kd.R_drewN | apply Kd.R_drew)); exact HO_10.out))) (below_size (by repeat (first | (with_reducible first | exact HB.out | apply below_alloc | apply pw_below_drewN | apply below_drew1) | exact HB.out)))); have n3_ := Aside0.mk (below_step (by repeat (first | (with_reducible first | exact HB.out | apply below_alloc | apply pw_below_drewN | apply below_drew1) | exact HB.out)) hb); clear HO_7; clear HO_10; clear HB; have HO_7 := n0_; have HO_10 := n1_; have HO361 := n2_; have HB := n3_; clear n0_ n1_ n2_ n3_; (try clear hb); (try clear hb2); (try clear hk); (try clear hi); (try clear ho0); obtain ⟨Ao47, co47, eo47⟩ := Kd.R_slice HO361.out; subst eo47))
                                      repeat (go_quiet (first | (go_at_call 38; (with_reducible refine (rf_Slips.calls kj37 _ _ l0 _ _ l1 t359 _ ?side1 ?side2 ?side3 ?side4 A42.out).mono ?_); (case side1 => repeat (first | exact (Kd.C_below HR0.out HB.out) | (with_reducible refine Kd.C_alloc ?_ _) | (with_reducible refine Kd.C_drewN ?_ _) | (with_reducible refine Kd.C_drew ?_))); (case side2 => exact HC0.out); (case side3 => repeat (first | exact (Kd.C_below HR1.out HB.out) | (with_reducible refine Kd.C_alloc ?_ _) | (with_reducible refine Kd.C_drewN ?_ _) | (with_reducible refine Kd.C_drew ?_))); (case side4 => exact HC1.out); rintro e w46 ⟨v360, rfl, ho0, hb⟩; have n0_ := Aside0.mk (Kd.R_elder' (by (with_reducible repeat (first | apply Kd.R_alloc | apply Kd.R_drewN | apply Kd.R_drew)); exact HO_7.out) (Kd.R_base ho0) hb); have n1_ := Aside0.mk (Kd.R_elder' (by (with_reducible repeat (first | apply Kd.R_alloc | apply Kd.R_drewN | apply Kd.R_drew)); exact HO_10.out) (Kd.R_base ho0) hb); have n2_ := Aside0.mk (Kd.R_lower (Kd.R_new' (Kd.R_new' ho0 (Kd.R_lt (by (with_reducible repeat (first | apply Kd.R_alloc | apply Kd.R_drewN | apply Kd.R_drew)); exact HO_7.out))) (Kd.R_lt (by (with_reducible repeat (first | apply Kd.R_alloc | apply Kd.R_drewN | apply Kd.R_drew)); exact HO_10.out))) (below_size (by repeat (first | (with_reducible first | exact HB.out | apply below_alloc | apply pw_below_drewN | apply below_drew1) | exact HB.out)))); have n3_ := Aside0.mk (below_step (by repeat (first | (with_reducible first | exact HB.out | apply below_alloc | apply pw_below_drewN | apply below_drew1) | exact HB.out)) hb); clear HO_7; clear HO_10; clear HB; have HO_7 := n0_; have HO_10 := n1_; have HO361 := n2_; have HB := n3_; clear n0_ n1_ n2_ n3_; (try clear hb); (try clear hb2); (try clear hk); (try clear hi); (try clear ho0); obtain ⟨Ao47, co47, eo47⟩ := Kd.R_slice HO361.out; subst eo47)); try go_wp2_with (first | (go_at_call 38; (with_reducible refine (rf_Slips.calls kj37 _ _ l0 _ _ l1 t359 _ ?side1 ?side2 ?side3 ?side4 A42.out).mono ?_); (case side1 => repeat (first | exact (Kd.C_below HR0.out HB.out) | (with_reducible refine Kd.C_alloc ?_ _) | (with_reducible refine Kd.C_drewN ?_ _) | (with_reducible refine Kd.C_drew ?_))); (case side2 => exact HC0.out); (case side3 => repeat (first | exact (Kd.C_below HR1.out HB.out) | (with_reducible refine Kd.C_alloc ?_ _) | (with_reducible refine Kd.C_drewN ?_ _) | (with_reducible refine Kd.C_drew ?_))); (case side4 => exact HC1.out); rintro e w46 ⟨v360, rfl, ho0, hb⟩; have n0_ := Aside0.mk (Kd.R_elder' (by (with_reducible repeat (first | apply Kd.R_alloc | apply Kd.R_drewN | apply Kd.R_drew)); exact HO_7.out) (Kd.R_base ho0) hb); have n1_ := Aside0.mk (Kd.R_elder' (by (with_reducible repeat (first | apply Kd.R_alloc | apply Kd.R_drewN | apply Kd.R_drew)); exact HO_10.out) (Kd.R_base ho0) hb); have n2_ := Aside0.mk (Kd.R_lower (Kd.R_new' (Kd.R_new' ho0 (Kd.R_lt (by (with_reducible repeat (first | apply Kd.R_alloc | apply Kd.R_drewN | apply Kd.R_drew)); exact HO_7.out))) (Kd.R_lt (by (with_reducible repeat (first | apply Kd.R_alloc | apply Kd.R_drewN | apply Kd.R_drew)); exact HO_10.out))) (below_size (by repeat (first | (with_reducible first | exact HB.out | apply below_alloc | apply pw_below_drewN | apply below_drew1) | exact HB.out)))); have n3_ := Aside0.mk (below_step (by repeat (first | (with_reducible first | exact HB.out | apply below_alloc | apply pw_below_drewN | apply below_drew1) | exact HB.out)) hb); clear HO_7; clear HO_10; clear HB; have HO_7 := n0_; have HO_10 := n1_; have HO361 := n2_; have HB := n3_; clear n0_ n1_ n2_ n3_; (try clear hb); (try clear hb2); (try clear hk); (try clear hi); (try clear ho0); obtain ⟨Ao47, co47, eo47⟩ := Kd.R_slice HO361.out; subst eo47)))
                                      go_meet
                                      case rel => exact ⟨_, (x9_37), (t359), (by first | rfl | (simp; done) | (simp [*]; done)), H', ⟨by have := HJ2.out; have := HJ10.out; have := HJ23.out; have := HJ29.out; have := HJ31.out; have := HJ37.out; first | omega | exact Nat.le_refl _⟩, ⟨by (with_reducible repeat (first | apply Kd.R_alloc | apply Kd.R_drewN | apply Kd.R_drew)); exact Kd.R_mono HO_7.out (fun _ hk => hk.2)⟩, ⟨by (with_reducible repeat (first | apply Kd.R_alloc | apply Kd.R_drewN | apply Kd.R_drew)); exact Kd.R_mono HO361.out (fun _ hk => hk.1.2)⟩, ⟨by repeat (first | (with_reducible first | exact HB.out | apply below_alloc | apply pw_below_drewN | apply below_drew1) | exact HB.out)⟩⟩
                                  · rw [if_neg c41] at H
                                    have c41b0 : (x9_37 == 0) = false := beq_eq_false_iff_ne.mpr c41
                                    have c41b1 : (x9_37 != 0) = true := bne_iff_ne.mpr c41
                                    (first | rw [c41b0] | (simp only [i64_w, i32_w]; rw [c41b0]) | skip)
                                    have H' := Aside0.mk H
                                    clear H
                                    go_wp2
                                    repeat (go_quiet (fail); try go_wp2)
                                    go_meet
                                    case rel => exact ⟨_, (x9_37), (y351), (by first | rfl | (simp; done) | (simp [*]; done)), H', ⟨by have := HJ2.out; have := HJ10.out; have := HJ23.out; have := HJ29.out; have := HJ31.out; have := HJ37.out; first | omega | exact Nat.le_refl _⟩, ⟨by (with_reducible repeat (first | apply Kd.R_alloc | apply Kd.R_drewN | apply Kd.R_drew)); exact HO_7.out⟩, ⟨by (with_reducible repeat (first | apply Kd.R_alloc | apply Kd.R_drewN | apply Kd.R_drew)); exact HO_10.out⟩, ⟨by repeat (first | (with_reducible first | exact HB.out | apply below_alloc | apply pw_below_drewN | apply below_drew1) | exact HB.out)⟩⟩
                                case rest =>
                                  clear HC40
                                  try clear c1
                                  try clear c2
                                  try clear p2
                                  try clear c3
                                  try clear c4
                                  try clear c4b0
                                  try clear c4b1
                                  try clear c5
                                  try clear c7
                                  try clear c9
                                  try clear c20
                                  try clear c22
                                  try clear c28
                                  try clear c28b0
                                  try clear c28b1
                                  try clear c31
                                  try clear c33
                                  try clear c33b0
                                  try clear c33b1
                                  try clear c39
                                  try clear c41
                                  try clear c41b0
                                  try clear c41b1
                                  try clear c43
                                  try clear c43b0
                                  try clear c43b1
                                  try clear c43b2
                                  try clear p2
                                  obtain ⟨kq, x9_39, x10_39, rfl, HA, HJ39, HO_7, HO_10, HB⟩ := hcut
                                  cases kq with
                                  | zero => exact absurd HA.out (by simp [lw_FeeSlips.j6])
                                  | succ kj39 =>
                                    have H := HA.out
                                    clear HA
                                    simp only [lw_FeeSlips.j6] at H
                                    by_cases c48 : x9_39 = 0
                                    · rw [if_pos c48] at H
                                      have c48b0 : (x9_39 == 0) = true := beq_iff_eq.mpr c48
                                      have c48b1 : (x9_39 != 0) = false := bne_eq_false_iff_eq.mpr c48
                                      clear c48
                                      have HC49 := Aside0.mk H
                                      clear H
                                      go_upto_region 18 with (fail)
                                      repeat (go_quiet (fail); go_upto_region 18 with (fail))
                                      go_cut [89] (fun v89 wc => ∃ (kq : Nat) (x89_48 : Bool), v89 = .bool x89_48 ∧ Aside0 (lw_FeeSlips.j7 kq t344 x10_39 x89_48 = some r) ∧ Aside0 (kq ≤ kj39) ∧ Aside0 (Kd.R k70 70 wc w.heap.size (fun k_ => some k_ ≠ (u10 : Value).ownBlock) v346 t344) ∧ Aside0 (Kd.R k70 70 wc w.heap.size (fun k_ => some k_ ≠ (v346 : Value).ownBlock) u10 x10_39) ∧ Aside0 (Below w.heap.size w wc))
                                      case first =>
                                        have H := HC49.out
                                        clear HC49
                                        by_cases c50 : t345 = 0
                                        · rw [if_pos c50] at H
                                          have c50b0 : (t345 == 0) = true := beq_iff_eq.mpr c50
                                          have c50b1 : (t345 != 0) = false := bne_eq_false_iff_eq.mpr c50
                                          clear c50
                                          (first | rw [c50b0] | (simp only [i64_w, i32_w]; rw [c50b0]) | skip)
                                          have H' := Aside0.mk H
                                          clear H
                                          obtain ⟨Ao51, co51, eo51⟩ := Kd.R_slice HO_7.out
                                          subst eo51
                                          obtain ⟨Ao52, co52, eo52⟩ := Kd.R_slice HO_10.out
                                          subst eo52
                                          go_wp2
                                          repeat (go_quiet (fail); try go_wp2)
                                          go_meet
                                          case rel => exact ⟨_, (((t344.length : Int) != (x10_39.length : Int))), (by first | rfl | (simp; done) | (simp [*]; done)), H', ⟨by have := HJ2.out; have := HJ10.out; have := HJ23.out; have := HJ29.out; have := HJ31.out; have := HJ37.out; have := HJ39.out; first | omega | exact Nat.le_refl _⟩, ⟨by (with_reducible repeat (first | apply Kd.R_alloc | apply Kd.R_drewN | apply Kd.R_drew)); exact HO_7.out⟩, ⟨by (with_reducible repeat (first | apply Kd.R_alloc | apply Kd.R_drewN | apply Kd.R_drew)); exact HO_10.out⟩, ⟨by repeat (first | (with_reducible first | exact HB.out | apply below_alloc | apply pw_below_drewN | apply below_drew1) | exact HB.out)⟩⟩
                                        · rw [if_neg c50] at H
                                          have c50b0 : (t345 == 0) = false := beq_eq_false_iff_ne.mpr c50
                                          have c50b1 : (t345 != 0) = true := bne_iff_ne.mpr c50
                                          (first | rw [c50b0] | (simp only [i64_w, i32_w]; rw [c50b0]) | skip)
                                          have H' := Aside0.mk H
                                          clear H
                                          go_wp2
                                          repeat (go_quiet (fail); try go_wp2)
                                          go_meet
                                          case rel => exact ⟨_, (true), (by first | rfl | (simp; done) | (simp [*]; done)), H', ⟨by have := HJ2.out; have := HJ10.out; have := HJ23.out; have := HJ29.out; have := HJ31.out; have := HJ37.out; have := HJ39.out; first | omega | exact Nat.le_refl _⟩, ⟨by (with_reducible repeat (first | apply Kd.R_alloc | apply Kd.R_drewN | apply Kd.R_drew)); exact HO_7.out⟩, ⟨by (with_reducible repeat (first | apply Kd.R_alloc | apply Kd.R_drewN | apply Kd.R_drew)); exact HO_10.out⟩, ⟨by repeat (first | (with_reducible first | exact HB.out | apply below_alloc | apply pw_below_drewN | apply below_drew1) | exact HB.out)⟩⟩
                                      case rest =>
                                        clear HC49
                                        try clear c1
                                        try clear c2
                                        try clear p2
                                        try clear c3
                                        try clear c4
                                        try clear c4b0
                                        try clear c4b1
                                        try clear c5
                                        try clear c7
                                        try clear c9
                                        try clear c20
                                        try clear c22
                                        try clear c28
                                        try clear c28b0
                                        try clear c28b1
                                        try clear c31
                                        try clear c33
                                        try clear c33b0
                                        try clear c33b1
                                        try clear c39
                                        try clear c41
                                        try clear c41b0
                                        try clear c41b1
                                        try clear c43
                                        try clear c43b0
                                        try clear c43b1
                                        try clear c43b2
                                        try clear c48
                                        try clear c48b0
                                        try clear c48b1
                                        try clear c50
                                        try clear c50b0
                                        try clear c50b1
                                        try clear p2
                                        obtain ⟨kq, x89_48, rfl, HA, HJ48, HO_7, HO_10, HB⟩ := hcut
                                        cases kq with
                                        | zero => exact absurd HA.out (by simp [lw_FeeSlips.j7])
                                        | succ kj48 =>
                                          have H := HA.out
                                          clear HA
                                          simp only [lw_FeeSlips.j7] at H
                                          by_cases c53 : x89_48 = true
                                          · subst c53
                                            have H1 : (some false) = some r := by rw [if_pos rfl] at H; exact H
                                            clear H
                                            have H := H1
                                            clear H1
                                            obtain rfl := Option.some.inj H
                                            go_wp2
                                            repeat (go_quiet (fail); try go_wp2)
                                            go_ret
                                            exact ⟨by first | rfl | (simp [errW_none, errW_some] <;> rfl) | (simp [*, errW_none, errW_some] <;> rfl), by repeat (first | (with_reducible first | exact HB.out | apply below_alloc | apply pw_below_drewN | apply below_drew1) | exact HB.out)⟩
                                          · replace c53 := Bool.eq_false_iff.mpr c53
                                            subst c53
                                            have H1 : (lw_FeeSlips.l0 kj48 t344 x10_39 0) = some r := by rw [if_neg (show ¬ (false = true) by decide)] at H; exact H
                                            clear H
                                            have H := H1
                                            clear H1
                                            have H' := Aside0.mk H
                                            clear H
                                            go_wp2
                                            repeat (go_quiet (fail); try go_wp2)
                                            go_loopg [11] kj48 (fun kq v11 w' => ∃ (x11_9 : Int), v11 = .int .i64 x11_9 ∧ Aside0 (lw_FeeSlips.l0 kq t344 x10_39 x11_9 = some r) ∧ Aside0 (kq ≤ kj48) ∧ Aside0 (Kd.R k70 70 w' w.heap.size (fun k_ => some k_ ≠ (u10 : Value).ownBlock) v346 t344) ∧ Aside0 (Kd.R k70 70 w' w.heap.size (fun k_ => some k_ ≠ (v346 : Value).ownBlock) u10 x10_39) ∧ Aside0 (Below w.heap.size w w'))
                                            case atStart => exact ⟨(0), (by first | rfl | (simp; done) | (simp [*]; done)), H', ⟨Nat.le_refl _⟩, ⟨by (with_reducible repeat (first | apply Kd.R_alloc | apply Kd.R_drewN | apply Kd.R_drew)); exact HO_7.out⟩, ⟨by (with_reducible repeat (first | apply Kd.R_alloc | apply Kd.R_drewN | apply Kd.R_drew)); exact HO_10.out⟩, ⟨by repeat (first | (with_reducible first | exact HB.out | apply below_alloc | apply pw_below_drewN | apply below_drew1) | exact HB.out)⟩⟩
                                            case round =>
                                              clear H'
                                              try clear c1
                                              try clear c2
                                              try clear p2
                                              try clear c3
                                              try clear c4
                                              try clear c4b0
                                              try clear c4b1
                                              try clear c5
                                              try clear c7
                                              try clear c9
                                              try clear c20
                                              try clear c22
                                              try clear c28
                                              try clear c28b0
                                              try clear c28b1
                                              try clear c31
                                              try clear c33
                                              try clear c33b0
                                              try clear c33b1
                                              try clear c39
                                              try clear c41
                                              try clear c41b0
                                              try clear c41b1
                                              try clear c43
                                              try clear c43b0
                                              try clear c43b1
                                              try clear c43b2
                                              try clear c48
                                              try clear c48b0
                                              try clear c48b1
                                              try clear c50
                                              try clear c50b0
                                              try clear c50b1
                                              try clear c53
                                              try clear p2
                                              obtain ⟨x11_9, rfl, HA, HK9, HO_7, HO_10, HB⟩ := hrel
                                              cases gk with
                                              | zero => exact absurd HA.out (by simp [lw_FeeSlips.l0])
                                              | succ k9 =>
                                                have H := HA.out
                                                clear HA
                                                simp only [lw_FeeSlips.l0] at H
                                                by_cases c54 : x11_9 < (x10_39.length : Int)
                                                · rw [if_pos c54] at H
                                                  have c54b0 : decide (x11_9 < (x10_39.length : Int)) = true := decide_eq_true c54
                                                  clear c54
                                                  by_cases c55 : 0 ≤ x11_9
                                                  · rw [if_pos c55] at H
                                                    have c55b0 : decide (0 ≤ x11_9) = true := decide_eq_true c55
                                                    clear c55
                                                    by_cases c56 : x11_9 < (t344.length : Int)
                                                    · rw [if_pos c56] at H
                                                      have c56b0 : decide (x11_9 < (t344.length : Int)) = true := decide_eq_true c56
                                                      clear c56
                                                      by_cases c57 : (!(((rd_T70 t344 x11_9).f0) == ((rd_T70 x10_39 x11_9).f0)) || (!(((rd_T70 t344 x11_9).f1) == ((rd_T70 x10_39 x11_9).f1)) || (!(((rd_T70 t344 x11_9).f2) == ((rd_T70 x10_39 x11_9).f2))))) = true
                                                      · rw [if_pos c57] at H
                                                        have c57b0 : (!(((rd_T70 t344 x11_9).f0) == ((rd_T70 x10_39 x11_9).f0)) || (!(((rd_T70 t344 x11_9).f1) == ((rd_T70 x10_39 x11_9).f1)) || (!(((rd_T70 t344 x11_9).f2) == ((rd_T70 x10_39 x11_9).f2))))) = true := c57
                                                        clear c57
                                                        obtain rfl := Option.some.inj H
                                                        obtain ⟨Ao58, co58, eo58⟩ := Kd.R_slice HO_10.out
                                                        subst eo58
                                                        obtain ⟨Ao59, co59, eo59⟩ := Kd.R_slice HO_7.out
                                                        subst eo59
                                                        have p363 : 0 ≤ (x11_9 : Int) := of_decide_eq_true (by first | (with_reducible assumption) | assumption)
                                                        have q363 : x11_9 < (t344.length : Int) := of_decide_eq_true (by first | (with_reducible assumption) | assumption)
                                                        obtain ⟨ad363, e363, hx363_0, hx363_1, hx363_2⟩ := at_T70 (Kd.R_reads' HO_7.out).2.2 x11_9 p363 q363
                                                        cases e363
                                                        replace p363 := eq_true p363
                                                        replace q363 := eq_true q363
                                                        have p364 : 0 ≤ (x11_9 : Int) := of_decide_eq_true (by first | (with_reducible assumption) | assumption)
                                                        have q364 : x11_9 < (x10_39.length : Int) := of_decide_eq_true (by first | (with_reducible assumption) | assumption)
                                                        obtain ⟨ad364, e364, hx364_0, hx364_1, hx364_2⟩ := at_T70 (Kd.R_reads' HO_10.out).2.2 x11_9 p364 q364
                                                        cases e364
                                                        replace p364 := eq_true p364
                                                        replace q364 := eq_true q364
                                                        go_wp2
                                                        repeat (go_quiet (fail); try go_wp2)
                                                        go_ret
                                                        exact ⟨by first | rfl | (simp [errW_none, errW_some] <;> rfl) | (simp [*, errW_none, errW_some] <;> rfl), by repeat (first | (with_reducible first | exact HB.out | apply below_alloc | apply pw_below_drewN | apply below_drew1) | exact HB.out)⟩
                                                      · rw [if_neg c57] at H
                                                        have c57b0 : (!(((rd_T70 t344 x11_9).f0) == ((rd_T70 x10_39 x11_9).f0)) || (!(((rd_T70 t344 x11_9).f1) == ((rd_T70 x10_39 x11_9).f1)) || (!(((rd_T70 t344 x11_9).f2) == ((rd_T70 x10_39 x11_9).f2))))) = false := by simpa using c57
                                                        clear c57
                                                        have H' := Aside0.mk H
                                                        clear H
                                                        obtain ⟨Ao60, co60, eo60⟩ := Kd.R_slice HO_10.out
                                                        subst eo60
                                                        obtain ⟨Ao61, co61, eo61⟩ := Kd.R_slice HO_7.out
                                                        subst eo61
                                                        have p363 : 0 ≤ (x11_9 : Int) := of_decide_eq_true (by first | (with_reducible assumption) | assumption)
                                                        have q363 : x11_9 < (t344.length : Int) := of_decide_eq_true (by first | (with_reducible assumption) | assumption)
                                                        obtain ⟨ad363, e363, hx363_0, hx363_1, hx363_2⟩ := at_T70 (Kd.R_reads' HO_7.out).2.2 x11_9 p363 q363
                                                        cases e363
                                                        replace p363 := eq_true p363
                                                        replace q363 := eq_true q363
                                                        have p364 : 0 ≤ (x11_9 : Int) := of_decide_eq_true (by first | (with_reducible assumption) | assumption)
                                                        have q364 : x11_9 < (x10_39.length : Int) := of_decide_eq_true (by first | (with_reducible assumption) | assumption)
                                                        obtain ⟨ad364, e364, hx364_0, hx364_1, hx364_2⟩ := at_T70 (Kd.R_reads' HO_10.out).2.2 x11_9 p364 q364
                                                        cases e364
                                                        replace p364 := eq_true p364
                                                        replace q364 := eq_true q364
                                                        go_wp2
                                                        repeat (go_quiet (fail); try go_wp2)
                                                        go_roundg k9
                                                        case measure => have := HJ2.out; have := HJ10.out; have := HJ23.out; have := HJ29.out; have := HJ31.out; have := HJ37.out; have := HJ39.out; have := HJ48.out; have := HK9.out; omega
                                                        case rel => exact ⟨(wrap64 (x11_9 + 1)), (by first | rfl | (simp; done) | (simp [*]; done)), H', ⟨by have := HJ2.out; have := HJ10.out; have := HJ23.out; have := HJ29.out; have := HJ31.out; have := HJ37.out; have := HJ39.out; have := HJ48.out; have := HK9.out; omega⟩, ⟨by (with_reducible repeat (first | apply Kd.R_alloc | apply Kd.R_drewN | apply Kd.R_drew)); exact HO_7.out⟩, ⟨by (with_reducible repeat (first | apply Kd.R_alloc | apply Kd.R_drewN | apply Kd.R_drew)); exact HO_10.out⟩, ⟨by repeat (first | (with_reducible first | exact HB.out | apply below_alloc | apply pw_below_drewN | apply below_drew1) | exact HB.out)⟩⟩
                                                    · rw [if_neg c56] at H
                                                      exact absurd H (by simp)
                                                  · rw [if_neg c55] at H
                                                    exact absurd H (by simp)
                                                · rw [if_neg c54] at H
                                                  have c54b0 : decide (x11_9 < (x10_39.length : Int)) = false := decide_eq_false c54
                                                  clear c54
                                                  replace H := Option.bind_eq_some_iff.mp H
                                                  obtain ⟨t365, A620, H⟩ := H
                                                  replace H : (some t365) = some r := H
                                                  have A62 := Aside0.mk A620
                                                  clear A620
                                                  obtain rfl := Option.some.inj H
                                                  obtain ⟨Ao63, co63, eo63⟩ := Kd.R_slice HO_10.out
                                                  subst eo63
                                                  go_wp2_with (first | (go_at_call 22; (with_reducible refine (lw_known.calls  t365 _ A62.out).mono ?_); rintro e w64 ⟨rfl, hb⟩; have n0_ := Aside0.mk (Kd.R_below (by (with_reducible repeat (first | apply Kd.R_alloc | apply Kd.R_drewN | apply Kd.R_drew)); exact HO_7.out) hb); have n1_ := Aside0.mk (Kd.R_below (by (with_reducible repeat (first | apply Kd.R_alloc | apply Kd.R_drewN | apply Kd.R_drew)); exact HO_10.out) hb); have n2_ := Aside0.mk (below_step (by repeat (first | (with_reducible first | exact HB.out | apply below_alloc | apply pw_below_drewN | apply below_drew1) | exact HB.out)) hb); clear HO_7; clear HO_10; clear HB; have HO_7 := n0_; have HO_10 := n1_; have HB := n2_; clear n0_ n1_ n2_; (try clear hb); (try clear hb2); (try clear hk); (try clear hi)))
                                                  repeat (go_quiet (first | (go_at_call 22; (with_reducible refine (lw_known.calls  t365 _ A62.out).mono ?_); rintro e w64 ⟨rfl, hb⟩; have n0_ := Aside0.mk (Kd.R_below (by (with_reducible repeat (first | apply Kd.R_alloc | apply Kd.R_drewN | apply Kd.R_drew)); exact HO_7.out) hb); have n1_ := Aside0.mk (Kd.R_below (by (with_reducible repeat (first | apply Kd.R_alloc | apply Kd.R_drewN | apply Kd.R_drew)); exact HO_10.out) hb); have n2_ := Aside0.mk (below_step (by repeat (first | (with_reducible first | exact HB.out | apply below_alloc | apply pw_below_drewN | apply below_drew1) | exact HB.out)) hb); clear HO_7; clear HO_10; clear HB; have HO_7 := n0_; have HO_10 := n1_; have HB := n2_; clear n0_ n1_ n2_; (try clear hb); (try clear hb2); (try clear hk); (try clear hi))); try go_wp2_with (first | (go_at_call 22; (with_reducible refine (lw_known.calls  t365 _ A62.out).mono ?_); rintro e w64 ⟨rfl, hb⟩; have n0_ := Aside0.mk (Kd.R_below (by (with_reducible repeat (first | apply Kd.R_alloc | apply Kd.R_drewN | apply Kd.R_drew)); exact HO_7.out) hb); have n1_ := Aside0.mk (Kd.R_below (by (with_reducible repeat (first | apply Kd.R_alloc | apply Kd.R_drewN | apply Kd.R_drew)); exact HO_10.out) hb); have n2_ := Aside0.mk (below_step (by repeat (first | (with_reducible first | exact HB.out | apply below_alloc | apply pw_below_drewN | apply below_drew1) | exact HB.out)) hb); clear HO_7; clear HO_10; clear HB; have HO_7 := n0_; have HO_10 := n1_; have HB := n2_; clear n0_ n1_ n2_; (try clear hb); (try clear hb2); (try clear hk); (try clear hi))))
                                                  go_ret
                                                  exact ⟨by first | rfl | (simp [errW_none, errW_some] <;> rfl) | (simp [*, errW_none, errW_some] <;> rfl), by repeat (first | (with_reducible first | exact HB.out | apply below_alloc | apply pw_below_drewN | apply below_drew1) | exact HB.out)⟩
                                    · rw [if_neg c48] at H
                                      have c48b0 : (x9_39 == 0) = false := beq_eq_false_iff_ne.mpr c48
                                      have c48b1 : (x9_39 != 0) = true := bne_iff_ne.mpr c48
                                      by_cases c65 : t345 = x9_39
                                      · rw [if_pos c65] at H
                                        have c65b0 : (t345 == x9_39) = true := beq_iff_eq.mpr c65
                                        have c65b1 : (t345 != x9_39) = false := bne_eq_false_iff_eq.mpr c65
                                        clear c65
                                        by_cases c66 : (t344.length : Int) = 0
                                        · rw [if_pos c66] at H
                                          have c66b0 : ((t344.length : Int) == 0) = true := beq_iff_eq.mpr c66
                                          have c66b1 : ((t344.length : Int) != 0) = false := bne_eq_false_iff_eq.mpr c66
                                          clear c66
                                          replace H := Option.bind_eq_some_iff.mp H
                                          obtain ⟨t362, A670, H⟩ := H
                                          replace H : (some t362) = some r := H
                                          have A67 := Aside0.mk A670
                                          clear A670
                                          obtain rfl := Option.some.inj H
                                          obtain ⟨Ao68, co68, eo68⟩ := Kd.R_slice HO_7.out
                                          subst eo68
                                          go_wp2_with (first | (go_at_call 22; (with_reducible refine (lw_known.calls  t362 _ A67.out).mono ?_); rintro e w69 ⟨rfl, hb⟩; have n0_ := Aside0.mk (Kd.R_below (by (with_reducible repeat (first | apply Kd.R_alloc | apply Kd.R_drewN | apply Kd.R_drew)); exact HO_7.out) hb); have n1_ := Aside0.mk (Kd.R_below (by (with_reducible repeat (first | apply Kd.R_alloc | apply Kd.R_drewN | apply Kd.R_drew)); exact HO_10.out) hb); have n2_ := Aside0.mk (below_step (by repeat (first | (with_reducible first | exact HB.out | apply below_alloc | apply pw_below_drewN | apply below_drew1) | exact HB.out)) hb); clear HO_7; clear HO_10; clear HB; have HO_7 := n0_; have HO_10 := n1_; have HB := n2_; clear n0_ n1_ n2_; (try clear hb); (try clear hb2); (try clear hk); (try clear hi)))
                                          repeat (go_quiet (first | (go_at_call 22; (with_reducible refine (lw_known.calls  t362 _ A67.out).mono ?_); rintro e w69 ⟨rfl, hb⟩; have n0_ := Aside0.mk (Kd.R_below (by (with_reducible repeat (first | apply Kd.R_alloc | apply Kd.R_drewN | apply Kd.R_drew)); exact HO_7.out) hb); have n1_ := Aside0.mk (Kd.R_below (by (with_reducible repeat (first | apply Kd.R_alloc | apply Kd.R_drewN | apply Kd.R_drew)); exact HO_10.out) hb); have n2_ := Aside0.mk (below_step (by repeat (first | (with_reducible first | exact HB.out | apply below_alloc | apply pw_below_drewN | apply below_drew1) | exact HB.out)) hb); clear HO_7; clear HO_10; clear HB; have HO_7 := n0_; have HO_10 := n1_; have HB := n2_; clear n0_ n1_ n2_; (try clear hb); (try clear hb2); (try clear hk); (try clear hi))); try go_wp2_with (first | (go_at_call 22; (with_reducible refine (lw_known.calls  t362 _ A67.out).mono ?_); rintro e w69 ⟨rfl, hb⟩; have n0_ := Aside0.mk (Kd.R_below (by (with_reducible repeat (first | apply Kd.R_alloc | apply Kd.R_drewN | apply Kd.R_drew)); exact HO_7.out) hb); have n1_ := Aside0.mk (Kd.R_below (by (with_reducible repeat (first | apply Kd.R_alloc | apply Kd.R_drewN | apply Kd.R_drew)); exact HO_10.out) hb); have n2_ := Aside0.mk (below_step (by repeat (first | (with_reducible first | exact HB.out | apply below_alloc | apply pw_below_drewN | apply below_drew1) | exact HB.out)) hb); clear HO_7; clear HO_10; clear HB; have HO_7 := n0_; have HO_10 := n1_; have HB := n2_; clear n0_ n1_ n2_; (try clear hb); (try clear hb2); (try clear hk); (try clear hi))))
                                          go_ret
                                          exact ⟨by first | rfl | (simp [errW_none, errW_some] <;> rfl) | (simp [*, errW_none, errW_some] <;> rfl), by repeat (first | (with_reducible first | exact HB.out | apply below_alloc | apply pw_below_drewN | apply below_drew1) | exact HB.out)⟩
                                        · rw [if_neg c66] at H
                                          have c66b0 : ((t344.length : Int) == 0) = false := beq_eq_false_iff_ne.mpr c66
                                          have c66b1 : ((t344.length : Int) != 0) = true := bne_iff_ne.mpr c66
                                          have c66b2 : ¬ (t344 = []) := fun h_ => c66 (by rw [h_]; rfl)
                                          obtain rfl := Option.some.inj H
                                          obtain ⟨Ao70, co70, eo70⟩ := Kd.R_slice HO_7.out
                                          subst eo70
                                          go_wp2
                                          repeat (go_quiet (fail); try go_wp2)
                                          go_ret
                                          exact ⟨by first | rfl | (simp [errW_none, errW_some] <;> rfl) | (simp [*, errW_none, errW_some] <;> rfl), by repeat (first | (with_reducible first | exact HB.out | apply below_alloc | apply pw_below_drewN | apply below_drew1) | exact HB.out)⟩
                                      · rw [if_neg c65] at H
                                        have c65b0 : (t345 == x9_39) = false := beq_eq_false_iff_ne.mpr c65
                                        have c65b1 : (t345 != x9_39) = true := bne_iff_ne.mpr c65
                                        obtain rfl := Option.some.inj H
                                        go_wp2
                                        repeat (go_quiet (fail); try go_wp2)
                                        go_ret
                                        exact ⟨by first | rfl | (simp [errW_none, errW_some] <;> rfl) | (simp [*, errW_none, errW_some] <;> rfl), by repeat (first | (with_reducible first | exact HB.out | apply below_alloc | apply pw_below_drewN | apply below_drew1) | exact HB.out)⟩
        · rw [if_neg c9] at H
          exact absurd H (by simp)
end Go.Proofs.Ytdlekcdedahbhaa.Q
namespace Go.Proofs.Ytdlekcdedahbhaa.Rw
open Go.RowKit Go.Proofs.YtdlekcdedahbhaaW.PrintWords
set_option linter.unusedVariables false
set_option linter.unusedSimpArgs false
theorem add_two (a : Addr) (x y : Nat) : (a.add x).add y = a.add (x + y) := by
  unfold Addr.add
  by_cases h1 : x = 0
  · subst h1; simp
  · by_cases h2 : y = 0
    · subst h2; simp
    · have h3 : ¬ x + y = 0 := by omega
      simp [h1, h2, Nat.add_assoc]
structure Opens {α : Type} (P : Program) (t : TypeId) (d : Kd α) (good : α → Prop) : Prop where
  size : d.sz = P.cellsOf t
  read : ∀ {H : Type} {enc : TypeId × Value → H} {w : World} {base : Nat} {sp : Nat → Bool} {held : Bool} {fuel : Nat} {cs : List Value} {x : DataW H × List MemPlace}, DataW.trod enc P w base sp held fuel t cs = some x → ∃ y : α, d.K w y cs ∧ good y
theorem Opens.int {P : Program} {t : TypeId} {k : IntKind} (ht : P.underlying t = some (.int k)) (hc : 1 = P.cellsOf t) : Opens P t (Kd.int k) (fun n => (Lit.int k n).wf = true) := ⟨hc, fun h => by
  obtain ⟨n, rfl, rfl, hw⟩ := DataW.trod_int ht h
  exact ⟨n, rfl, hw⟩⟩
theorem Opens.slice {α : Type} {P : Program} {t e : TypeId} {d : Kd α} {good : α → Prop} (ht : P.underlying t = some (.slice e)) (hc : 1 = P.cellsOf t) (h : Opens P e d good) : Opens P t (Kd.slice e d) (fun l => ∀ x ∈ l, good x) := ⟨hc, fun {H enc w base sp held fuel cs x} hx => by
  rcases DataW.trod_slice ht hx with ⟨rfl, _⟩ | ⟨a, len, cap, elems, rest, n, _, rfl, _, hb, hl, hm, hlen, hel, _, _⟩
  · exact ⟨[], ⟨none, 0, rfl, Nat.le_refl _, Kd.C_nil _ _⟩, fun x hx => by cases hx⟩
  · have key : ∀ m, m ≤ len → ∃ l : List α, l.length = m ∧ ∀ i z, l[i]? = some z → good z ∧ ∃ c, c.length = d.sz ∧ d.K w z c ∧ ∀ j u, c[j]? = some u → w.cell? (a.add (i * d.sz + j)) = some u := by
      intro m
      induction m with
      | zero => intro _; exact ⟨[], rfl, fun i z hz => by simp at hz⟩
      | succ m ih =>
        intro hle
        obtain ⟨l, hll, hl2⟩ := ih (by omega)
        have h1 := hel m (by omega)
        rw [List.getElem?_eq_getElem (by omega), Option.bind_eq_some_iff] at h1
        obtain ⟨c, hc1, hc2⟩ := h1
        obtain ⟨z, hz, hg⟩ := h.read hc2
        obtain ⟨_, hcl, hcc⟩ := World.cells?_some hc1
        refine ⟨l ++ [z], by simp [hll], fun i z' hz' => ?_⟩
        rcases Nat.lt_or_ge i l.length with hlt | hge
        · rw [List.getElem?_append_left hlt] at hz'
          exact hl2 i z' hz'
        · rw [List.getElem?_append_right hge] at hz'
          have e : i = m := by
            rcases Nat.eq_zero_or_pos (i - l.length) with e | e
            · omega
            · rw [List.getElem?_eq_none (by simp; omega)] at hz'; cases hz'
          subst e
          rw [show i - l.length = 0 by omega] at hz'
          simp only [List.getElem?_cons_zero, Option.some.injEq] at hz'
          subst hz'
          refine ⟨hg, c, by rw [hcl, h.size], hz, fun j u hu => ?_⟩
          have hj : j < P.cellsOf e := by rw [← hcl]; exact (List.getElem?_eq_some_iff.1 hu).1
          have := hcc j hj
          rw [hu] at this
          rw [h.size, ← this, add_two]
    obtain ⟨l, hll, hl2⟩ := key len (Nat.le_refl _)
    refine ⟨l, ⟨some a, cap, by rw [hll], by omega, rfl, by unfold maxLen at hm; omega, fun _ => ⟨a, rfl, fun j p hj => ?_⟩⟩, fun x hx => ?_⟩
    · obtain ⟨_, c, h1, h2, h3⟩ := hl2 j p hj
      exact ⟨c, h1, h2, h3⟩
    · obtain ⟨i, hi⟩ := List.getElem?_of_mem hx
      exact (hl2 i x hi).1⟩
structure FOpens {α : Type} (P : Program) (fs : List Field) (off : Nat) (d : Kd α) (good : α → Prop) : Prop where
  read : ∀ {H : Type} {enc : TypeId × Value → H} {w : World} {base : Nat} {sp : Nat → Bool} {held : Bool} {fuel : Nat} {cs : List Value},
  (∀ (i : Nat) (f : Field), fs[i]? = some f → ∃ y, DataW.trod enc P w base sp held fuel f.type ((cs.drop f.offset).take (P.cellsOf f.type)) = some y) → cs.length = off + d.sz → ∃ y : α, d.K w y (cs.drop off) ∧ good y
theorem FOpens.one {α : Type} {P : Program} {f : Field} {off : Nat} {d : Kd α} {good : α → Prop} (h : Opens P f.type d good) (ho : f.offset = off) : FOpens P [f] off d good := ⟨fun {H enc w base sp held fuel cs} hf hl => by
  obtain ⟨y, hy⟩ := hf 0 f rfl
  rw [ho, ← h.size, List.take_of_length_le (by rw [List.length_drop]; omega)] at hy
  exact h.read hy⟩
theorem FOpens.cons {α β : Type} {P : Program} {f : Field} {fs : List Field} {off : Nat} {d1 : Kd α} {d2 : Kd β} {g1 : α → Prop} {g2 : β → Prop} (h1 : Opens P f.type d1 g1) (ho : f.offset = off) (h2 : FOpens P fs (off + d1.sz) d2 g2) : FOpens P (f :: fs) off (Kd.pair d1 d2) (fun x => g1 x.1 ∧ g2 x.2) := ⟨fun {H enc w base sp held fuel cs} hf hl => by
  have hsz : (Kd.pair d1 d2).sz = d1.sz + d2.sz := rfl
  obtain ⟨y1, hy1⟩ := hf 0 f rfl
  rw [ho, ← h1.size] at hy1
  obtain ⟨x1, hk1, hg1⟩ := h1.read hy1
  obtain ⟨x2, hk2, hg2⟩ := h2.read (cs := cs) (fun i g hg => hf (i + 1) g (by simpa using hg)) (by omega)
  refine ⟨(x1, x2), ⟨_, _, ?_, hk1, hk2⟩, hg1, hg2⟩
  rw [← List.drop_drop, List.take_append_drop]⟩
theorem Opens.struct {α : Type} {P : Program} {t : TypeId} {fs : Array Field} {d : Kd α} {good : α → Prop} (ht : P.underlying t = some (.struct fs)) (hs : d.sz = P.cellsOf t) (h : FOpens P fs.toList 0 d good) : Opens P t d good := ⟨hs, fun {H enc w base sp held fuel cs x} hx => by
  obtain ⟨xs, n, _, _, hcl, hxl, hf⟩ := DataW.trod_struct ht hx
  have := h.read (enc := enc) (w := w) (base := base) (sp := sp) (held := held) (fuel := n) (cs := cs) (fun i f hi => by
    rw [Array.getElem?_toList] at hi
    have hlt := (Array.getElem?_eq_some_iff.1 hi).1
    exact ⟨xs[i]'(by omega), by rw [hf i f hi, List.getElem?_eq_getElem]⟩) (by omega)
  simpa using this⟩
theorem Opens.iso {α β : Type} {P : Program} {t : TypeId} {d : Kd α} {good : α → Prop} (f : β → α) (g : α → β) (hfg : ∀ x, f (g x) = x) (h : Opens P t d good) : Opens P t (Kd.iso d f) (fun y => good (f y)) := ⟨h.size, fun hx => by
  obtain ⟨y, hk, hg⟩ := h.read hx
  exact ⟨g y, by show d.K _ (f (g y)) _; rw [hfg]; exact hk, by rw [hfg]; exact hg⟩⟩
end Go.Proofs.Ytdlekcdedahbhaa.Rw
namespace Go.Proofs.Ytdlekcdedahbhaa.Q
open Go.RowKit Go.Proofs.YtdlekcdedahbhaaW.PrintWords Go.Proofs.YtdlekcdedahbhaaW.PrintLast Go.Proofs.YtdlekcdedahbhaaW.PrintMore
attribute [local go_sem] max2_int min2_int max_two min_two max_three min_three max_four min_four   -- for this text's walks alone
set_option linter.unusedVariables false
set_option linter.unusedSimpArgs false
end Go.Proofs.Ytdlekcdedahbhaa.Q
namespace Go.Proofs.Ytdlekcdedahbhaa.Q
open Go.RowKit Go.Proofs.YtdlekcdedahbhaaW.PrintWords Go.Proofs.YtdlekcdedahbhaaW.PrintLast Go.Proofs.YtdlekcdedahbhaaW.PrintMore
attribute [local go_sem] max2_int min2_int max_two min_two max_three min_three max_four min_four   -- for this text's walks alone
set_option linter.unusedVariables false
set_option linter.unusedSimpArgs false
end Go.Proofs.Ytdlekcdedahbhaa.Q
namespace Go.Proofs.Ytdlekcdedahbhaa.Q
open Go.RowKit Go.Proofs.YtdlekcdedahbhaaW.PrintWords
set_option linter.unusedVariables false
set_option linter.unusedSimpArgs false
theorem Ev.up {α : Type} {g : Nat → Option α} {r : α} (h : Ev (fun k => g (k + 1)) r) : Ev g r := by
  obtain ⟨K, hK⟩ := h
  refine ⟨K + 1, fun k hk => ?_⟩
  obtain ⟨m, rfl⟩ : ∃ m, k = m + 1 := ⟨k - 1, by omega⟩
  exact hK m (by omega)
theorem wr {x : Int} (h : -9223372036854775808 ≤ x ∧ x ≤ 9223372036854775807) : wrap64 x = x := by unfold wrap64; omega
theorem wi (i : Nat) (h : i ≤ 100000) : wrap64 ((i : Int) + 1) = ((i + 1 : Nat) : Int) := by rw [wr (by omega)]; omega
theorem rdI (l : List Int) (i : Nat) (h : i < l.length) : rd l (i : Int) = l[i] := by simp [rd, h]
theorem rdE (l : List S101) (i : Nat) (h : i < l.length) : rd_T101 l (i : Int) = l[i] := by simp [rd_T101, h]
theorem drop_dec {α : Type} [DecidableEq α] (a b : List α) (i : Nat) (ha : i < a.length) (hb : i < b.length) : decide (a.drop i = b.drop i) = (decide (a[i] = b[i]) && decide (a.drop (i + 1) = b.drop (i + 1))) := by
  rw [List.drop_eq_getElem_cons ha, List.drop_eq_getElem_cons hb, Bool.eq_iff_iff]
  simp only [decide_eq_true_eq, Bool.and_eq_true, List.cons.injEq]
theorem In_f (a b c : Int) : rf_In.f a b c = some (inB b c [a]) := by
  have e : inB b c [a] = (decide (b ≤ a) && decide (a ≤ c)) := by
    rw [Bool.eq_iff_iff, inB_iff]
    simp
  rw [e]
  unfold rf_In.f
  split <;> simp_all <;> omega
theorem known_f : lw_known.f = some true := rfl
theorem inB_or (b c : Int) (l : List Int) : inB b c l = l.all (fun a => inB b c [a]) := by
  rw [Bool.eq_iff_iff, inB_iff, List.all_eq_true]
  constructor
  · intro h x hx
    rw [inB_iff]
    intro n hn
    simp only [List.mem_singleton] at hn
    subst hn
    exact h n hx
  · intro h n hn
    have := h n hn
    rw [inB_iff] at this
    exact this n (by simp)
theorem Ints_l0 (a b : List Int) (hl : a.length ≤ 1000) (hab : a.length = b.length) : ∀ (d i : Nat), i + d = a.length → Ev (fun k => rf_Ints.l0 k a b (i : Int)) (decide (a.drop i = b.drop i))
  | 0, i, h => by
    refine Ev.up ?_
    simp only [rf_Ints.l0, if_neg (show ¬ (i : Int) < (a.length : Int) by omega)]
    rw [List.drop_eq_nil_of_le (by omega), List.drop_eq_nil_of_le (by omega)]
    simpa using Ev.now true
  | d + 1, i, h => by
    refine Ev.up ?_
    simp only [rf_Ints.l0, if_pos (show (i : Int) < (a.length : Int) by omega), if_pos (show (0 : Int) ≤ (i : Int) by omega), if_pos (show (i : Int) < (b.length : Int) by omega), wi i (by omega), rdI a i (by omega), rdI b i (by omega)]
    rw [drop_dec a b i (by omega) (by omega)]
    by_cases hq : a[i] = b[i]
    · rw [decide_eq_true hq, Bool.true_and]
      simp only [if_pos hq]
      exact Ints_l0 a b hl hab d (i + 1) (by omega)
    · rw [decide_eq_false hq, Bool.false_and]
      simp only [if_neg hq]
      exact Ev.now false
theorem Ints_f (a b : List Int) (hl : a.length ≤ 1000) : Ev (fun k => rf_Ints.f k a b) (decide (a = b)) := by
  unfold rf_Ints.f
  by_cases h : a.length = b.length
  · simp only [if_pos (show (a.length : Int) = (b.length : Int) by omega)]
    simpa using Ints_l0 a b hl h a.length 0 (by omega)
  · simp only [if_neg (show ¬ (a.length : Int) = (b.length : Int) by omega)]
    have : ¬ a = b := fun e => h (by rw [e])
    simpa [this] using Ev.now false
theorem Copy_f (l : List S101) (h : l.length ≤ 1000) : rf_Copy.f l = some l := by
  simp only [rf_Copy.f, Option.bind_some, List.length_nil, Nat.zero_add, List.nil_append]
  rw [if_pos (by omega)]
theorem Same_l0 (a : List S101) (hl : a.length ≤ 1000) : ∀ (d i : Nat), i + d = a.length → Ev (fun k => rf_Same.l0 k a a (i : Int)) true
  | 0, i, h => by
    refine Ev.up ?_
    simp only [rf_Same.l0, if_neg (show ¬ (i : Int) < (a.length : Int) by omega)]
    exact Ev.now true
  | d + 1, i, h => by
    refine Ev.up ?_
    simp only [rf_Same.l0, if_pos (show (i : Int) < (a.length : Int) by omega), if_pos (show (0 : Int) ≤ (i : Int) by omega), wi i (by omega), beq_self_eq_true, Bool.not_true, Bool.or_self, Bool.false_eq_true, if_false]
    exact Same_l0 a hl d (i + 1) (by omega)
theorem Same_f (a : List S101) (hl : a.length ≤ 1000) : Ev (fun k => rf_Same.f k a a) true := by
  unfold rf_Same.f
  simp only [if_true]
  exact Same_l0 a hl a.length 0 (by omega)
theorem toEnt_drop (l : List S101) (i : Nat) (h : i < l.length) : (toEnt l).drop i = ⟨(l[i]).f0, (l[i]).f1, (l[i]).f2⟩ :: (toEnt l).drop (i + 1) := by
  rw [List.drop_eq_getElem_cons (by rw [toEnt_len]; exact h)]
  simp [toEnt]
theorem Ledger_l1 (l : List S101) (r : Bool) (hl : l.length ≤ 1000) : ∀ (d i : Nat), i + d = l.length → Ev (fun k => rf_Ledger.l1 k l r (i : Int)) (if (r && ((toEnt l).drop i).any fun x => x.a == -1) = true then 9 else 0)
  | 0, i, h => by
    refine Ev.up ?_
    simp only [rf_Ledger.l1, if_neg (show ¬ (i : Int) < (l.length : Int) by omega)]
    rw [List.drop_eq_nil_of_le (by rw [toEnt_len]; omega)]
    simpa using Ev.now (0 : Int)
  | d + 1, i, h => by
    have ih := Ledger_l1 l r hl d (i + 1) (by omega)
    refine Ev.up ?_
    simp only [rf_Ledger.l1, if_pos (show (i : Int) < (l.length : Int) by omega), if_pos (show (0 : Int) ≤ (i : Int) by omega), wi i (by omega), rdE l i (by omega)]
    rw [toEnt_drop l i (by omega), List.any_cons]
    cases r
    · simpa using ih
    · by_cases hq : l[i].f2 = -1
      · simpa [hq] using Ev.now (9 : Int)
      · have hq2 : (l[i].f2 == -1) = false := by simpa using hq
        simpa [hq, hq2] using ih
theorem Ledger_l0 (l : List S101) (r : Bool) (hl : l.length ≤ 1000) : ∀ (d i : Nat), i + d = l.length → Ev (fun k => rf_Ledger.l0 k l r (i : Int)) (if (((toEnt l).drop i).any fun x => !entB x) = true then 2 else if (r && (toEnt l).any fun x => x.a == -1) = true then 9 else 0)
  | 0, i, h => by
    refine Ev.up ?_
    simp only [rf_Ledger.l0, if_neg (show ¬ (i : Int) < (l.length : Int) by omega)]
    rw [List.drop_eq_nil_of_le (by rw [toEnt_len]; omega)]
    simpa using Ledger_l1 l r hl l.length 0 (by omega)
  | d + 1, i, h => by
    have ih := Ledger_l0 l r hl d (i + 1) (by omega)
    refine Ev.up ?_
    simp only [rf_Ledger.l0, if_pos (show (i : Int) < (l.length : Int) by omega), if_pos (show (0 : Int) ≤ (i : Int) by omega), wi i (by omega), rdE l i (by omega), In_f, Option.bind_some]
    rw [toEnt_drop l i (by omega), List.any_cons]
    have hb : entB ⟨l[i].f0, l[i].f1, l[i].f2⟩ = (inB 0 5 [l[i].f0] && inB 0 5 [l[i].f1] && decide (l[i].f0 ≠ l[i].f1) && inB (-1) 100 [l[i].f2]) := by
      unfold entB
      rw [inB_or 0 5 [_, _]]
      simp [List.all_cons]
    rw [hb]
    by_cases hq : l[i].f0 = l[i].f1
    · simp only [if_pos hq]
      cases inB 0 5 [l[i].f0] <;> cases inB 0 5 [l[i].f1] <;> simpa [hq] using Ev.now (2 : Int)
    · simp only [if_neg hq]
      cases inB 0 5 [l[i].f0] <;> cases inB 0 5 [l[i].f1] <;> cases inB (-1) 100 [l[i].f2] <;> first | (simpa [hq] using Ev.now (2 : Int)) | (simpa [hq] using ih)
theorem Ledger_f (l : List S101) (r : Bool) (hl : l.length ≤ 1000) : Ev (fun k => rf_Ledger.f k l r) (if r then readE (toEnt l) else chkE (toEnt l)) := by
  have h := Ledger_l0 l r hl l.length 0 (by omega)
  unfold rf_Ledger.f
  by_cases h1 : l.length > 12
  · simp only [if_pos (show (l.length : Int) > 12 by omega)]
    have h2 : chkE (toEnt l) = 5 := by unfold chkE; rw [if_pos (by rw [toEnt_len]; exact h1)]
    have h3 : readE (toEnt l) = 5 := by unfold readE; rw [h2]; rfl
    rw [h2, h3]
    cases r <;> exact Ev.now 5
  · simp only [if_neg (show ¬ (l.length : Int) > 12 by omega)]
    have h2 : chkE (toEnt l) = if ((toEnt l).any fun x => !entB x) = true then 2 else 0 := by unfold chkE; rw [if_neg (by rw [toEnt_len]; exact h1)]
    rw [List.drop_zero] at h
    have e : (if r = true then readE (toEnt l) else chkE (toEnt l)) = (if ((toEnt l).any fun x => !entB x) = true then 2 else if (r && (toEnt l).any fun x => x.a == -1) = true then 9 else 0) := by
      unfold readE
      rw [h2]
      cases ((toEnt l).any fun x => !entB x) <;> cases r <;> simp
    rw [e]
    exact h
end Go.Proofs.Ytdlekcdedahbhaa.Q
namespace Go.Proofs.Ytdlekcdedahbhaa.Q
open Go.RowKit Go.Proofs.YtdlekcdedahbhaaW.PrintWords
set_option linter.unusedVariables false
set_option linter.unusedSimpArgs false
theorem balR_allA (l : List Ent) (h : (l.any fun x => x.a == -1) = false) (hl : l.all entB = true) : balR l = allA l := by
  have key : ∀ (l : List Ent) (a : Acc), (l.any fun x => x.a == -1) = false → l.all entB = true → l.foldl (fun a x => if 0 < x.a then afterA a x else a) a = l.foldl afterA a := by
    intro l
    induction l with
    | nil => intros; rfl
    | cons x l ih =>
      intro a h1 h2
      simp only [List.any_cons, Bool.or_eq_false_iff, List.all_cons, Bool.and_eq_true] at h1 h2
      rw [List.foldl_cons, List.foldl_cons]
      have hx := (entB_iff x).1 h2.1
      have ha : x.a ≠ -1 := by simpa using h1.1
      by_cases h3 : 0 < x.a
      · rw [if_pos h3]; exact ih _ h1.2 h2.2
      · rw [if_neg h3]
        have e : afterA a x = a := by
          have h0 : x.a = 0 := by omega
          cases a
          simp [afterA, Acc.add, h0]
        rw [e]
        exact ih _ h1.2 h2.2
  exact key l z_Acc h hl
end Go.Proofs.Ytdlekcdedahbhaa.Q
namespace Go.Proofs.Ytdlekcdedahbhaa.Q
open Go.RowKit Go.Proofs.YtdlekcdedahbhaaW.PrintWords
set_option linter.unusedVariables false
set_option linter.unusedSimpArgs false
theorem balB_iff (b : List Int) : balB b = true ↔ b.length = 6 ∧ ∀ x ∈ b, -100000 ≤ x ∧ x ≤ 100000 := by
  unfold balB
  rw [Bool.and_eq_true, decide_eq_true_eq, inB_iff]
theorem accL_balA (b : List Int) (h : balB b = true) : accL (balA b) = b := by
  have h6 := ((balB_iff b).1 h).1
  unfold balA
  rw [if_pos h]
  match b, h6 with
  | [a0, a1, a2, a3, a4, a5], _ => rfl
theorem accL_inj (a c : Acc) : accL a = accL c ↔ a = c := by
  cases a
  cases c
  simp [accL]
theorem accL_eq (a : Acc) (b : List Int) (h : balB b = true) : accL a = b ↔ a = balA b := by
  rw [← accL_inj, accL_balA b h]
theorem Valid_l0 (b : List Int) (hl : b.length ≤ 1000) : ∀ (d i : Nat), i + d = b.length → Ev (fun k => rf_Valid.l0 k b (i : Int)) (decide (b.length = 6) && inB (-100000) 100000 (b.drop i))
  | 0, i, h => by
    refine Ev.up ?_
    simp only [rf_Valid.l0, if_neg (show ¬ (i : Int) < (b.length : Int) by omega)]
    rw [List.drop_eq_nil_of_le (by omega)]
    have e : (((b.length : Nat) : Int) == 6) = (decide (b.length = 6) && inB (-100000) 100000 []) := by
      rw [show inB (-100000) 100000 [] = true by rfl, Bool.and_true, Bool.eq_iff_iff, beq_iff_eq, decide_eq_true_eq]
      omega
    rw [e]
    exact Ev.now _
  | d + 1, i, h => by
    have ih := Valid_l0 b hl d (i + 1) (by omega)
    refine Ev.up ?_
    simp only [rf_Valid.l0, if_pos (show (i : Int) < (b.length : Int) by omega), if_pos (show (0 : Int) ≤ (i : Int) by omega), wi i (by omega), rdI b i (by omega), In_f, Option.bind_some]
    have e : inB (-100000) 100000 (b.drop i) = (inB (-100000) 100000 [b[i]] && inB (-100000) 100000 (b.drop (i + 1))) := by
      rw [List.drop_eq_getElem_cons (show i < b.length by omega), inB_or (-100000) 100000 (_ :: _), List.all_cons, ← inB_or]
    rw [e]
    cases hq : inB (-100000) 100000 [b[i]]
    · simpa using Ev.now false
    · simpa using ih
theorem Valid_f (b : List Int) (hl : b.length ≤ 1000) : Ev (fun k => rf_Valid.f k b) (balB b) := by
  have := Valid_l0 b hl b.length 0 (by omega)
  rw [List.drop_zero] at this
  exact this
end Go.Proofs.Ytdlekcdedahbhaa.Q
namespace Go.Proofs.Ytdlekcdedahbhaa.Q
open Go.RowKit Go.Proofs.YtdlekcdedahbhaaW.PrintWords
set_option linter.unusedVariables false
set_option linter.unusedSimpArgs false
def dlt (x : Ent) (i : Int) : Int := (if x.f = i then -x.a else 0) + (if x.t = i then x.a else 0)
theorem get_after (a : Acc) (x : Ent) (i : Int) (h : i = 0 ∨ i = 1 ∨ i = 2 ∨ i = 3 ∨ i = 4 ∨ i = 5) : (afterA a x).get i = a.get i + dlt x i := by
  unfold afterA Acc.add dlt
  rcases h with rfl | rfl | rfl | rfl | rfl | rfl <;> simp [Acc.get, Int.add_assoc]
theorem get_fold (i : Int) (h : i = 0 ∨ i = 1 ∨ i = 2 ∨ i = 3 ∨ i = 4 ∨ i = 5) : ∀ (l : List Ent) (a : Acc), (l.foldl afterA a).get i = a.get i + (l.map fun x => dlt x i).sum
  | [], a => by simp
  | x :: l, a => by
    rw [List.foldl_cons, get_fold i h l, get_after a x i h, List.map_cons, List.sum_cons]
    omega
theorem sum_set (f : Ent → Int) (y : Ent) : ∀ (l : List Ent) (k : Nat) (h : k < l.length), ((l.set k y).map f).sum = (l.map f).sum - f l[k] + f y
  | x :: l, 0, h => by simp; omega
  | x :: l, k + 1, h => by
    have := sum_set f y l k (by simpa using h)
    simp only [List.set_cons_succ, List.map_cons, List.sum_cons, List.getElem_cons_succ]
    omega
theorem dlt_turn (x : Ent) (i : Int) : dlt (turnE x) i = -(dlt x i) := by
  unfold dlt turnE
  simp only
  split <;> split <;> omega
theorem all_set (l : List Ent) (k : Nat) (h : k < l.length) (y : Ent) : afterA (afterA (allA l) (turnE (rdEnt l k))) y = allA (l.set k y) := by
  have e : rdEnt l k = l[k] := by simp [rdEnt, h]
  rw [e]
  have key : ∀ i : Int, (i = 0 ∨ i = 1 ∨ i = 2 ∨ i = 3 ∨ i = 4 ∨ i = 5) → (afterA (afterA (allA l) (turnE l[k])) y).get i = (allA (l.set k y)).get i := fun i hi => by
    rw [get_after _ _ i hi, get_after _ _ i hi, dlt_turn]
    unfold allA
    rw [get_fold i hi, get_fold i hi, sum_set _ y l k h]
    omega
  rw [acc_ext]
  exact ⟨key 0 (by simp), key 1 (by simp), key 2 (by simp), key 3 (by simp), key 4 (by simp), key 5 (by simp)⟩
theorem chA_mem (x : Ent) : ∀ (m k : Nat) (p : Chg), p ∈ chA x m k → ∃ j : Nat, k ≤ j ∧ j < k + m ∧ p = (⟨0, 1, j⟩, ⟨x.f, x.t, j⟩)
  | 0, k, p, h => by simp [chA] at h
  | m + 1, k, p, h => by
    rw [chA] at h
    have go : p ∈ chA x m (k + 1) → ∃ j : Nat, k ≤ j ∧ j < k + (m + 1) ∧ p = (⟨0, 1, j⟩, ⟨x.f, x.t, j⟩) := fun h => by
      obtain ⟨j, h1, h2, h3⟩ := chA_mem x m (k + 1) p h
      exact ⟨j, by omega, by omega, h3⟩
    split at h
    · rcases List.mem_cons.1 h with h | h
      · exact ⟨k, by omega, by omega, h⟩
      · exact go h
    · exact go h
theorem chF_mem (x : Ent) : ∀ (m k : Nat) (p : Chg), p ∈ chF x m k → ∃ j : Nat, k ≤ j ∧ j < k + m ∧ ((j : Int) ≠ x.f ∧ (j : Int) ≠ x.t) ∧ p = (⟨0, 3, j⟩, ⟨j, x.t, x.a⟩)
  | 0, k, p, h => by simp [chF] at h
  | m + 1, k, p, h => by
    rw [chF] at h
    have go : p ∈ chF x m (k + 1) → ∃ j : Nat, k ≤ j ∧ j < k + (m + 1) ∧ ((j : Int) ≠ x.f ∧ (j : Int) ≠ x.t) ∧ p = (⟨0, 3, j⟩, ⟨j, x.t, x.a⟩) := fun h => by
      obtain ⟨j, h1, h2, h3⟩ := chF_mem x m (k + 1) p h
      exact ⟨j, by omega, by omega, h3⟩
    split at h
    · rename_i hc
      rcases List.mem_cons.1 h with h | h
      · exact ⟨k, by omega, by omega, hc, h⟩
      · exact go h
    · exact go h
theorem chT_mem (x : Ent) : ∀ (m k : Nat) (p : Chg), p ∈ chT x m k → ∃ j : Nat, k ≤ j ∧ j < k + m ∧ ((j : Int) ≠ x.f ∧ (j : Int) ≠ x.t) ∧ p = (⟨0, 4, j⟩, ⟨x.f, j, x.a⟩)
  | 0, k, p, h => by simp [chT] at h
  | m + 1, k, p, h => by
    rw [chT] at h
    have go : p ∈ chT x m (k + 1) → ∃ j : Nat, k ≤ j ∧ j < k + (m + 1) ∧ ((j : Int) ≠ x.f ∧ (j : Int) ≠ x.t) ∧ p = (⟨0, 4, j⟩, ⟨x.f, j, x.a⟩) := fun h => by
      obtain ⟨j, h1, h2, h3⟩ := chT_mem x m (k + 1) p h
      exact ⟨j, by omega, by omega, h3⟩
    split at h
    · rename_i hc
      rcases List.mem_cons.1 h with h | h
      · exact ⟨k, by omega, by omega, hc, h⟩
      · exact go h
    · exact go h
theorem chg_mem (x : Ent) (hx : entB x = true) (ha : x.a ≠ -1) (p : Chg) (hp : p ∈ changesL x) : (entB p.2 = true ∧ p.2.a ≠ -1) ∧ ((p.1.k = 1 ∧ p.2 = ⟨x.f, x.t, p.1.m⟩) ∨ (p.1.k = 2 ∧ p.2 = ⟨x.t, x.f, x.a⟩) ∨ (p.1.k = 3 ∧ p.2 = ⟨p.1.m, x.t, x.a⟩) ∨ (p.1.k = 4 ∧ p.2 = ⟨x.f, p.1.m, x.a⟩)) := by
  have h := (entB_iff x).1 hx
  unfold changesL at hp
  rcases List.mem_append.1 hp with hp | hp
  · obtain ⟨j, h1, h2, rfl⟩ := chA_mem x 101 0 p hp
    refine ⟨⟨(entB_iff _).2 ?_, ?_⟩, Or.inl ⟨rfl, rfl⟩⟩ <;> simp only <;> omega
  · rcases List.mem_cons.1 hp with rfl | hp
    · refine ⟨⟨(entB_iff _).2 ?_, ?_⟩, Or.inr (Or.inl ⟨rfl, rfl⟩)⟩ <;> simp only <;> omega
    · rcases List.mem_append.1 hp with hp | hp
      · obtain ⟨j, h1, h2, h3, rfl⟩ := chF_mem x 6 0 p hp
        refine ⟨⟨(entB_iff _).2 ?_, ?_⟩, Or.inr (Or.inr (Or.inl ⟨rfl, rfl⟩))⟩ <;> simp only <;> omega
      · obtain ⟨j, h1, h2, h3, rfl⟩ := chT_mem x 6 0 p hp
        refine ⟨⟨(entB_iff _).2 ?_, ?_⟩, Or.inr (Or.inr (Or.inr ⟨rfl, rfl⟩))⟩ <;> simp only <;> omega
theorem chA_len (x : Ent) : ∀ (m k : Nat), (chA x m k).length ≤ m
  | 0, k => by simp [chA]
  | m + 1, k => by
    have := chA_len x m (k + 1)
    rw [chA]
    split <;> simp <;> omega
theorem chF_len (x : Ent) : ∀ (m k : Nat), (chF x m k).length ≤ m
  | 0, k => by simp [chF]
  | m + 1, k => by
    have := chF_len x m (k + 1)
    rw [chF]
    split <;> simp <;> omega
theorem chT_len (x : Ent) : ∀ (m k : Nat), (chT x m k).length ≤ m
  | 0, k => by simp [chT]
  | m + 1, k => by
    have := chT_len x m (k + 1)
    rw [chT]
    split <;> simp <;> omega
theorem chg_len (x : Ent) : (changesL x).length ≤ 114 := by
  have h1 := chA_len x 101 0
  have h2 := chF_len x 6 0
  have h3 := chT_len x 6 0
  unfold changesL
  simp only [List.length_append, List.length_cons]
  omega
theorem okS_len (want rest : Acc) (i : Nat) (ps : List Chg) : (okS want rest i ps).length ≤ ps.length := by
  unfold okS
  rw [List.length_map]
  exact List.length_filter_le _ _
theorem okS_snoc (want rest : Acc) (i : Nat) (ps : List Chg) (p : Chg) : okS want rest i (ps ++ [p]) = if afterA rest p.2 = want then okS want rest i ps ++ [⟨(i : Int), p.1.k, p.1.m⟩] else okS want rest i ps := by
  unfold okS
  rw [List.filter_append, List.map_append]
  by_cases h : afterA rest p.2 = want <;> simp [h]
theorem slips_len (l : List Ent) (want : Acc) : ∀ k, (slipsTo l want k).length ≤ 114 * k
  | 0 => by simp [slipsTo]
  | k + 1 => by
    have h1 := slips_len l want k
    have h2 := chg_len (rdEnt l k)
    have h3 := okS_len want (afterA (allA l) (turnE (rdEnt l k))) k (changesL (rdEnt l k))
    rw [slipsTo, List.length_append]
    omega
def sp (i : Int) (ps : List Chg) : List S70 := ps.map fun p => ⟨i, p.1.k, p.1.m⟩
theorem Others_l2 (i : Int) (f t a : Int) (kd : Int) (hkd : kd = 3 ∨ kd = 4) (ch : Nat → Nat → List Chg) (h0 : ∀ k, ch 0 k = []) (hs : ∀ m k, sp i (ch (m + 1) k) = if (k : Int) ≠ f ∧ (k : Int) ≠ t then ⟨i, kd, k⟩ :: sp i (ch m (k + 1)) else sp i (ch m (k + 1))) (R : List S70) :
    ∀ (m k : Nat) (out : List S70), k + m = 6 → out.length + m ≤ 10000 → Ev (fun n => rf_Others.l1 n i (out ++ sp i (ch m k)) (kd + 1) f t a) R → Ev (fun n => rf_Others.l2 n i out kd (k : Int) f t a) R
  | 0, k, out, hk, ho, hR => by
    refine Ev.up ?_
    rw [h0] at hR
    simp only [sp, List.map_nil, List.append_nil] at hR
    simp only [rf_Others.l2, if_neg (show ¬ (k : Int) < 6 by omega)]
    rw [wr (by omega)]
    exact hR
  | m + 1, k, out, hk, ho, hR => by
    rw [hs] at hR
    refine Ev.up ?_
    simp only [rf_Others.l2, if_pos (show (k : Int) < 6 by omega), wi k (by omega), if_pos (show out.length < 5864062014805 by omega)]
    by_cases c1 : (k : Int) = f
    · simp only [if_pos c1]
      rw [if_neg (fun h => h.1 c1)] at hR
      exact Others_l2 i f t a kd hkd ch h0 hs R m (k + 1) out (by omega) (by omega) hR
    · simp only [if_neg c1]
      by_cases c2 : (k : Int) = t
      · simp only [if_pos c2]
        rw [if_neg (fun h => h.2 c2)] at hR
        exact Others_l2 i f t a kd hkd ch h0 hs R m (k + 1) out (by omega) (by omega) hR
      · simp only [if_neg c2]
        rw [if_pos ⟨c1, c2⟩] at hR
        refine Others_l2 i f t a kd hkd ch h0 hs R m (k + 1) _ (by omega) (by rw [List.length_append, List.length_singleton]; omega) ?_
        rw [List.append_assoc]
        exact hR
theorem Others_l0 (i : Int) (x : Ent) (R : List S70) :
    ∀ (m k : Nat) (out : List S70), k + m = 101 → out.length + m ≤ 1000 → Ev (fun n => rf_Others.l1 n i (out ++ sp i (chA x m k) ++ [⟨i, 2, 0⟩]) 3 x.f x.t x.a) R → Ev (fun n => rf_Others.l0 n i out (k : Int) x.f x.t x.a) R
  | 0, k, out, hk, ho, hR => by
    refine Ev.up ?_
    simp only [sp, chA, List.map_nil, List.append_nil] at hR
    simp only [rf_Others.l0, if_neg (show ¬ (k : Int) ≤ 100 by omega), if_pos (show out.length < 5864062014805 by omega)]
    exact hR
  | m + 1, k, out, hk, ho, hR => by
    refine Ev.up ?_
    simp only [rf_Others.l0, if_pos (show (k : Int) ≤ 100 by omega), wi k (by omega), if_pos (show out.length < 5864062014805 by omega)]
    by_cases c1 : (k : Int) = x.a
    · simp only [if_pos c1]
      rw [chA, if_neg (fun h => h c1)] at hR
      exact Others_l0 i x R m (k + 1) out (by omega) (by omega) hR
    · simp only [if_neg c1]
      rw [chA, if_pos c1] at hR
      refine Others_l0 i x R m (k + 1) _ (by omega) (by rw [List.length_append, List.length_singleton]; omega) ?_
      have e : out ++ [(⟨i, 1, (k : Int)⟩ : S70)] ++ sp i (chA x m (k + 1)) = out ++ sp i ((⟨0, 1, k⟩, ⟨x.f, x.t, k⟩) :: chA x m (k + 1)) := by simp [sp]
      rw [e]
      exact hR
theorem sp_len (i : Int) (ps : List Chg) : (sp i ps).length = ps.length := by simp [sp]
theorem Others_f (i : Int) (x : Ent) : Ev (fun n => rf_Others.f n x.f x.t x.a i) (sp i (changesL x)) := by
  have h1 := chA_len x 101 0
  have h2 := chF_len x 6 0
  unfold rf_Others.f
  refine Others_l0 i x _ 101 0 [] (by omega) (by simp) ?_
  refine Ev.up ?_
  simp only [rf_Others.l1, if_pos (show (3 : Int) ≤ 4 by omega)]
  refine Others_l2 i x.f x.t x.a 3 (by simp) (chF x) (fun k => by rw [chF]) (fun m k => by rw [chF]; split <;> simp [sp]) _ 6 0 _ (by omega) (by simp only [List.length_append, sp_len, List.length_nil, List.length_singleton]; omega) ?_
  refine Ev.up ?_
  simp only [rf_Others.l1, if_pos (show (3 + 1 : Int) ≤ 4 by omega)]
  refine Others_l2 i x.f x.t x.a (3 + 1) (by simp) (chT x) (fun k => by rw [chT]) (fun m k => by rw [chT]; split <;> simp [sp]) _ 6 0 _ (by omega) (by simp only [List.length_append, sp_len, List.length_nil, List.length_singleton]; omega) ?_
  refine Ev.up ?_
  simp only [rf_Others.l1, if_neg (show ¬ (3 + 1 + 1 : Int) ≤ 4 by omega)]
  have e : [] ++ sp i (chA x 101 0) ++ [(⟨i, 2, 0⟩ : S70)] ++ sp i (chF x 6 0) ++ sp i (chT x 6 0) = sp i (changesL x) := by simp [sp, changesL]
  rw [e]
  exact Ev.now _
theorem toEnt_rd2 (l : List S101) (i : Nat) (h : i < l.length) : rdEnt (toEnt l) i = ⟨(rd_T101 l (i : Int)).f0, (rd_T101 l (i : Int)).f1, (rd_T101 l (i : Int)).f2⟩ := by
  simp [rdEnt, toEnt, rd_T101, h]
theorem rd_at (l : List S101) (i : Nat) (h : i < l.length) : (rd_T101 l (i : Int)).f0 = (rdEnt (toEnt l) i).f ∧ (rd_T101 l (i : Int)).f1 = (rdEnt (toEnt l) i).t ∧ (rd_T101 l (i : Int)).f2 = (rdEnt (toEnt l) i).a := by
  rw [toEnt_rd2 l i h]
  exact ⟨rfl, rfl, rfl⟩
theorem Put_f (l : List S101) (hl : l.length ≤ 40) (i : Nat) (hi : i < l.length) (k m : Int) (y : Ent) (h : (k = 1 ∧ y = ⟨(rdEnt (toEnt l) i).f, (rdEnt (toEnt l) i).t, m⟩) ∨ (k = 2 ∧ y = ⟨(rdEnt (toEnt l) i).t, (rdEnt (toEnt l) i).f, (rdEnt (toEnt l) i).a⟩) ∨ (k = 3 ∧ y = ⟨m, (rdEnt (toEnt l) i).t, (rdEnt (toEnt l) i).a⟩) ∨ (k = 4 ∧ y = ⟨(rdEnt (toEnt l) i).f, m, (rdEnt (toEnt l) i).a⟩)) : rf_Put.f l (i : Int) k m = some (l.set i ⟨y.f, y.t, y.a⟩) := by
  obtain ⟨e0, e1, e2⟩ := rd_at l i hi
  unfold rf_Put.f
  rw [Copy_f l (by omega)]
  simp only [Option.bind_some, if_pos (show (0 : Int) ≤ (i : Int) by omega), if_pos (show (i : Int) < (l.length : Int) by omega), Int.toNat_natCast, e0, e1, e2]
  rcases h with ⟨rfl, rfl⟩ | ⟨rfl, rfl⟩ | ⟨rfl, rfl⟩ | ⟨rfl, rfl⟩ <;> simp
theorem toEnt_set (l : List S101) (i : Nat) (y : Ent) : toEnt (l.set i ⟨y.f, y.t, y.a⟩) = (toEnt l).set i y := by
  simp [toEnt, List.map_set]
theorem ofSlp_app (a b : List Slp) : ofSlp (a ++ b) = ofSlp a ++ ofSlp b := by simp [ofSlp]
theorem ofSlp_len (a : List Slp) : (ofSlp a).length = a.length := by simp [ofSlp]
theorem Slips_l1 (l : List S101) (b : List Int) (hl : l.length ≤ 40) (hr : readE (toEnt l) = 0) (hb : balB b = true) (i : Nat) (hi : i < l.length) (R : List S70) (hR : Ev (fun k => rf_Slips.l0 k l b (ofSlp (slipsTo (toEnt l) (balA b) (i + 1))) ((i + 1 : Nat) : Int)) R) :
    ∀ (d j : Nat), j + d = (changesL (rdEnt (toEnt l) i)).length → Ev (fun k => rf_Slips.l1 k l b (ofSlp (slipsTo (toEnt l) (balA b) i ++ okS (balA b) (afterA (allA (toEnt l)) (turnE (rdEnt (toEnt l) i))) i ((changesL (rdEnt (toEnt l) i)).take j))) (i : Int) (sp (i : Int) (changesL (rdEnt (toEnt l) i))) (j : Int)) R
  | 0, j, h => by
    refine Ev.up ?_
    simp only [rf_Slips.l1, sp_len, if_neg (show ¬ (j : Int) < ((changesL (rdEnt (toEnt l) i)).length : Int) by omega), wi i (by omega)]
    rw [List.take_of_length_le (by omega)]
    exact hR
  | d + 1, j, h => by
    have ih := Slips_l1 l b hl hr hb i hi R hR d (j + 1) (by omega)
    have hj : j < (changesL (rdEnt (toEnt l) i)).length := by omega
    have h114 := chg_len (rdEnt (toEnt l) i)
    have hs1 := slips_len (toEnt l) (balA b) i
    have hs2 := okS_len (balA b) (afterA (allA (toEnt l)) (turnE (rdEnt (toEnt l) i))) i ((changesL (rdEnt (toEnt l) i)).take j)
    have hs3 : ((changesL (rdEnt (toEnt l) i)).take j).length ≤ 114 := by rw [List.length_take]; omega
    rw [List.take_succ_eq_append_getElem hj, okS_snoc] at ih
    obtain ⟨p, hp⟩ : ∃ p, p = (changesL (rdEnt (toEnt l) i))[j] := ⟨_, rfl⟩
    rw [← hp] at ih
    have hmem : p ∈ changesL (rdEnt (toEnt l) i) := by rw [hp]; exact List.getElem_mem _
    have h3 := read_of _ hr
    have h4 := chk_of _ h3.1
    have hxm : rdEnt (toEnt l) i ∈ toEnt l := by
      have : rdEnt (toEnt l) i = (toEnt l)[i]'(by rw [toEnt_len]; exact hi) := by simp [rdEnt, toEnt_len, hi]
      rw [this]
      exact List.getElem_mem _
    have hx := List.all_eq_true.1 h4.2 _ hxm
    have hxa : (rdEnt (toEnt l) i).a ≠ -1 := by
      have := List.any_eq_false.1 h3.2 _ hxm
      simpa using this
    obtain ⟨⟨hp1, hp2⟩, hp3⟩ := chg_mem _ hx hxa p hmem
    have hrd : rd_T70 (sp (i : Int) (changesL (rdEnt (toEnt l) i))) (j : Int) = ⟨(i : Int), p.1.k, p.1.m⟩ := by
      rw [hp]
      simp [rd_T70, sp, hj]
    have hset := toEnt_set l i p.2
    have hall : ((toEnt l).set i p.2).all entB = true := by
      rw [List.all_eq_true]
      intro y hy
      rcases List.mem_or_eq_of_mem_set hy with hy | rfl
      · exact List.all_eq_true.1 h4.2 _ hy
      · exact hp1
    have hany : (((toEnt l).set i p.2).any fun x => x.a == -1) = false := by
      rw [List.any_eq_false]
      intro y hy
      rcases List.mem_or_eq_of_mem_set hy with hy | rfl
      · exact List.any_eq_false.1 h3.2 _ hy
      · simpa using hp2
    have hBal : rf_Balances.f (l.set i ⟨p.2.f, p.2.t, p.2.a⟩) = some (accL (afterA (afterA (allA (toEnt l)) (turnE (rdEnt (toEnt l) i))) p.2)) := by
      unfold rf_Balances.f
      rw [hset, if_pos ⟨hall, by rw [List.length_set]; omega⟩, balR_allA _ hany hall, all_set (toEnt l) i (by rw [toEnt_len]; exact hi) p.2]
    have hdec : decide (accL (afterA (afterA (allA (toEnt l)) (turnE (rdEnt (toEnt l) i))) p.2) = b) = decide (afterA (afterA (allA (toEnt l)) (turnE (rdEnt (toEnt l) i))) p.2 = balA b) := by
      rw [Bool.eq_iff_iff, decide_eq_true_eq, decide_eq_true_eq, accL_eq _ b hb]
    have hI := Ints_f (accL (afterA (afterA (allA (toEnt l)) (turnE (rdEnt (toEnt l) i))) p.2)) b (by simp [accL])
    rw [hdec] at hI
    refine Ev.up ?_
    simp only [rf_Slips.l1, sp_len, if_pos (show (j : Int) < ((changesL (rdEnt (toEnt l) i)).length : Int) by omega), if_pos (show (0 : Int) ≤ (j : Int) by omega), hrd, Put_f l hl i hi p.1.k p.1.m p.2 hp3, hBal, Option.bind_some, wi j (by omega)]
    refine Ev.bind hI ?_
    by_cases c : afterA (afterA (allA (toEnt l)) (turnE (rdEnt (toEnt l) i))) p.2 = balA b
    · rw [if_pos c] at ih
      simp only [decide_eq_true c, if_true]
      have hlt : (ofSlp (slipsTo (toEnt l) (balA b) i ++ okS (balA b) (afterA (allA (toEnt l)) (turnE (rdEnt (toEnt l) i))) i ((changesL (rdEnt (toEnt l) i)).take j))).length < 5864062014805 := by
        rw [ofSlp_len, List.length_append]
        omega
      simp only [if_pos hlt]
      rw [← List.append_assoc, ofSlp_app] at ih
      exact ih
    · rw [if_neg c] at ih
      simp only [decide_eq_false c, Bool.false_eq_true, if_false]
      exact ih
theorem Slips_l0 (l : List S101) (b : List Int) (hl : l.length ≤ 40) (hr : readE (toEnt l) = 0) (hb : balB b = true) : ∀ (d i : Nat), i + d = l.length → Ev (fun k => rf_Slips.l0 k l b (ofSlp (slipsTo (toEnt l) (balA b) i)) (i : Int)) (ofSlp (slipsTo (toEnt l) (balA b) l.length))
  | 0, i, h => by
    refine Ev.up ?_
    simp only [rf_Slips.l0, if_neg (show ¬ (i : Int) < (l.length : Int) by omega)]
    rw [show i = l.length by omega]
    exact Ev.now _
  | d + 1, i, h => by
    have ih := Slips_l0 l b hl hr hb d (i + 1) (by omega)
    obtain ⟨e0, e1, e2⟩ := rd_at l i (by omega)
    refine Ev.up ?_
    simp only [rf_Slips.l0, if_pos (show (i : Int) < (l.length : Int) by omega), if_pos (show (0 : Int) ≤ (i : Int) by omega), e0, e1, e2]
    refine Ev.bind (Others_f (i : Int) (rdEnt (toEnt l) i)) ?_
    have h1 := Slips_l1 l b hl hr hb i (by omega) _ ih (changesL (rdEnt (toEnt l) i)).length 0 (by omega)
    simpa [okS] using h1
theorem Slips_f (l : List S101) (b : List Int) (hl : l.length ≤ 40) (hr : readE (toEnt l) = 0) (hb : balB b = true) : Ev (fun k => rf_Slips.f k l b) (ofSlp (slipsTo (toEnt l) (balA b) l.length)) := Slips_l0 l b hl hr hb l.length 0 (by omega)
theorem FeeSlips_l0 (s : List S70) (hs : s.length ≤ 10000) : ∀ (d i : Nat), i + d = s.length → Ev (fun k => lw_FeeSlips.l0 k s s (i : Int)) true
  | 0, i, h => by
    refine Ev.up ?_
    simp only [lw_FeeSlips.l0, if_neg (show ¬ (i : Int) < (s.length : Int) by omega), known_f, Option.bind_some]
    exact Ev.now true
  | d + 1, i, h => by
    refine Ev.up ?_
    simp only [lw_FeeSlips.l0, if_pos (show (i : Int) < (s.length : Int) by omega), if_pos (show (0 : Int) ≤ (i : Int) by omega), wi i (by omega), beq_self_eq_true, Bool.not_true, Bool.or_self, Bool.false_eq_true, if_false]
    exact FeeSlips_l0 s hs d (i + 1) (by omega)
theorem FeeSlips_err (s : List S70) (e : Int) (he : e ≠ 0) (hs : s = []) (out : List S70) : Ev (fun k => lw_FeeSlips.j6 k s e e out) true := by
  subst hs
  refine Ev.up ?_
  simp only [lw_FeeSlips.j6, if_neg he, if_true, List.length_nil, known_f, Option.bind_some]
  simpa using Ev.now true
theorem FeeSlips_e5 (l : List S101) (b : List Int) (s : List S70) (e : Int) (he : e ≠ 0) (hs : s = []) (out : List S70) : Ev (fun k => lw_FeeSlips.j5 k l b s e e out) true := by
  refine Ev.up ?_
  simp only [lw_FeeSlips.j5, if_neg he]
  exact FeeSlips_err s e he hs out
theorem FeeSlips_e3 (l : List S101) (b : List Int) (s : List S70) (e : Int) (he : e ≠ 0) (hs : s = []) (out : List S70) : Ev (fun k => lw_FeeSlips.j3 k l b s e e out) true := by
  refine Ev.up ?_
  simp only [lw_FeeSlips.j3, if_neg he]
  refine Ev.up ?_
  simp only [lw_FeeSlips.j4, Bool.false_eq_true, if_false]
  exact FeeSlips_e5 l b s e he hs out
theorem FeeSlips_ev (l : List S101) (b : List Int) : Ev (fun k => lw_FeeSlips.f k l b) true := by
  unfold lw_FeeSlips.f
  by_cases c0 : l.length > 40
  · simp only [if_pos (show (l.length : Int) > 40 by omega)]
    refine Ev.up ?_
    simp only [lw_FeeSlips.j0, if_true, known_f, Option.bind_some]
    exact Ev.now true
  simp only [if_neg (show ¬ (l.length : Int) > 40 by omega)]
  refine Ev.up ?_
  by_cases c1 : b.length > 20
  · simp only [lw_FeeSlips.j0, decide_eq_true (show (b.length : Int) > 20 by omega), if_true, known_f, Option.bind_some]
    exact Ev.now true
  simp only [lw_FeeSlips.j0, decide_eq_false (show ¬ (b.length : Int) > 20 by omega), Bool.false_eq_true, if_false, Option.bind_some, List.length_nil, Nat.zero_add, List.nil_append, if_pos (show b.length < 17592186044416 by omega), Copy_f l (by omega), fee_Slips.f]
  refine Ev.bind (Same_f l (by omega)) ?_
  simp only [if_true]
  have hI := Ints_f b b (by omega)
  rw [decide_eq_true rfl] at hI
  refine Ev.bind hI ?_
  refine Ev.up ?_
  simp only [lw_FeeSlips.j1, Bool.not_true, Bool.false_eq_true, if_false, Option.bind_some]
  have hL := Ledger_f l true (by omega)
  simp only [if_true] at hL
  refine Ev.bind hL ?_
  by_cases h1 : readE (toEnt l) = 0
  · simp only [h1, if_true]
    refine Ev.bind (Valid_f b (by omega)) ?_
    refine Ev.up ?_
    by_cases h2 : balB b = true
    · simp only [lw_FeeSlips.j2, h2, Bool.not_true, Bool.false_eq_true, if_false]
      have h3 := read_of _ h1
      have h4 := chk_of _ h3.1
      have hBal : rf_Balances.f l = some (accL (allA (toEnt l))) := by
        unfold rf_Balances.f
        rw [if_pos ⟨h4.2, by omega⟩, balR_allA _ h3.2 h4.2]
      have hI2 := Ints_f (accL (allA (toEnt l))) b (by simp [accL])
      have hdec : decide (accL (allA (toEnt l)) = b) = decide (allA (toEnt l) = balA b) := by
        rw [Bool.eq_iff_iff, decide_eq_true_eq, decide_eq_true_eq, accL_eq _ b h2]
      rw [hdec] at hI2
      refine Ev.up ?_
      simp only [lw_FeeSlips.j3, if_true, hBal, Option.bind_some]
      refine Ev.bind hI2 ?_
      refine Ev.up ?_
      by_cases h5 : allA (toEnt l) = balA b
      · have e1 : slipsE (toEnt l) b = 6 := by unfold slipsE; rw [if_pos h1, if_pos h2, if_pos h5]
        have e2 : ofSlp (slipsL (toEnt l) b) = [] := by unfold slipsL; rw [e1]; rfl
        simp only [lw_FeeSlips.j4, decide_eq_true h5, if_true, e1, e2]
        exact FeeSlips_e5 l b [] 6 (by omega) rfl []
      · simp only [lw_FeeSlips.j4, decide_eq_false h5, Bool.false_eq_true, if_false]
        refine Ev.up ?_
        simp only [lw_FeeSlips.j5, if_true]
        refine Ev.bind (Slips_f l b (by omega) h1 h2) ?_
        have hlen := toEnt_len l
        have hsl := slips_len (toEnt l) (balA b) l.length
        by_cases h6 : slipsTo (toEnt l) (balA b) l.length = []
        · have e1 : slipsE (toEnt l) b = 7 := by unfold slipsE; rw [if_pos h1, if_pos h2, if_neg h5, hlen, if_pos h6]
          have e2 : ofSlp (slipsL (toEnt l) b) = [] := by unfold slipsL; rw [e1]; rfl
          have e3 : ((ofSlp (slipsTo (toEnt l) (balA b) l.length)).length : Int) = 0 := by rw [ofSlp_len, h6]; rfl
          simp only [if_pos e3, e1, e2]
          exact FeeSlips_err [] 7 (by omega) rfl _
        · have e1 : slipsE (toEnt l) b = 0 := by unfold slipsE; rw [if_pos h1, if_pos h2, if_neg h5, hlen, if_neg h6]
          have e2 : slipsL (toEnt l) b = slipsTo (toEnt l) (balA b) l.length := by unfold slipsL; rw [if_pos e1, hlen]
          have e3 : ¬ ((ofSlp (slipsTo (toEnt l) (balA b) l.length)).length : Int) = 0 := by
            rw [ofSlp_len]
            intro h
            exact h6 (List.length_eq_zero_iff.1 (by omega))
          simp only [if_neg e3, e1, e2]
          refine Ev.up ?_
          simp only [lw_FeeSlips.j6, if_true, bne_self_eq_false]
          refine Ev.up ?_
          simp only [lw_FeeSlips.j7, Bool.false_eq_true, if_false]
          exact FeeSlips_l0 _ (by rw [ofSlp_len]; omega) (ofSlp (slipsTo (toEnt l) (balA b) l.length)).length 0 (by omega)
    · have e1 : slipsE (toEnt l) b = 4 := by unfold slipsE; rw [if_pos h1, if_neg h2]
      have e2 : ofSlp (slipsL (toEnt l) b) = [] := by unfold slipsL; rw [e1]; rfl
      have h2' : balB b = false := by simpa using h2
      simp only [lw_FeeSlips.j2, h2', Bool.not_false, if_true, e1, e2]
      exact FeeSlips_e3 l b [] 4 (by omega) rfl []
  · have e1 : slipsE (toEnt l) b = readE (toEnt l) := by unfold slipsE; rw [if_neg h1]
    have e2 : ofSlp (slipsL (toEnt l) b) = [] := by unfold slipsL; rw [if_neg (by rw [e1]; exact h1)]; rfl
    simp only [if_neg h1, e1, e2]
    refine Ev.up ?_
    simp only [lw_FeeSlips.j2, Bool.false_eq_true, if_false]
    exact FeeSlips_e3 l b [] _ h1 rfl []
theorem FeeSlips_pure (l0 : List S101) (l1 : List Int) : ∃ k, lw_FeeSlips.f k l0 l1 = some true := (FeeSlips_ev l0 l1).rounds
end Go.Proofs.Ytdlekcdedahbhaa.Q
