/- Functions printed by the kit's printer over these walks, and the plain law. No condition. -/
import Derived.Test.YtdlekcdedahbhaaGFeeFills0
import Derived.Test.YtdlekcdedahbhaaWLast
import Derived.Test.YtdlekcdedahbhaaWMore
import Derived.Test.YtdlekcdedahbhaaWTab
import Derived.Test.YtdlekcdedahbhaaWWords
set_option linter.unusedVariables false
set_option linter.unusedSimpArgs false
namespace Go.Proofs.Ytdlekcdedahbhaa.Q
open Go.RowKit Go.Proofs.YtdlekcdedahbhaaW.PrintWords Go.Proofs.YtdlekcdedahbhaaW.PrintLast Go.Proofs.YtdlekcdedahbhaaW.PrintMore
attribute [local go_sem] max2_int min2_int max_two min_two max_three min_three max_four min_four   -- for this text's walks alone
set_option linter.unusedVariables false
set_option linter.unusedSimpArgs false
mutual
def rf_Fill.l0 : Nat → List (S101) → List Int → List Int → List (S44) → Bool → Int → Option ((List (S44)) × Bool)
 | 0, _, _, _, _, _, _ => none
 | k + 1, x0, x1, x6, x7, x8, x9 => if x9 < (x6.length : Int) then (if x7.length < 8796093022208 then (rf_Fill.l0 k x0 x1 x6 (x7 ++ [(⟨101, (-1)⟩ : S44)]) x8 (wrap64 (x9 + 1))) else (none)) else (if (x6.length : Int) = 0 then ((rf_Balances.f x0).bind fun t382 => ((rf_Ints.f k t382 x1).bind fun t385 => (some (x7, t385)))) else ((rf_Balances.f x0).bind fun t386 => (rf_Fill.l1 k x0 x1 x6 x7 x8 t386 (wrap64 ((x6.length : Int) - 1)) 1 0)))
def rf_Fill.l1 : Nat → List (S101) → List Int → List Int → List (S44) → Bool → List Int → Int → Int → Int → Option ((List (S44)) × Bool)
 | 0, _, _, _, _, _, _, _, _, _ => none
 | k + 1, x0, x1, x6, x7, x8, x10, x11, x12, x13 => if x13 < x11 then (rf_Fill.l1 k x0 x1 x6 x7 x8 x10 x11 (wrap64 (x12 * 101)) (wrap64 (x13 + 1))) else (rf_Fill.l2 k x0 x1 x6 x7 x8 x10 x11 x12 0)
def rf_Fill.l2 : Nat → List (S101) → List Int → List Int → List (S44) → Bool → List Int → Int → Int → Int → Option ((List (S44)) × Bool)
 | 0, _, _, _, _, _, _, _, _, _ => none
 | k + 1, x0, x1, x6, x7, x8, x10, x11, x12, x14 => if x14 < x12 then ((some (([] : List Int) : List Int)).bind fun y389 => (if y389.length + x10.length < 17592186044416 then (rf_Fill.l3 k x0 x1 x6 x7 x8 x10 x11 x12 x14 (y389 ++ x10) (([] : List Int)) x14 0) else (none))) else (some (x7, x8))
def rf_Fill.l3 : Nat → List (S101) → List Int → List Int → List (S44) → Bool → List Int → Int → Int → Int → List Int → List Int → Int → Int → Option ((List (S44)) × Bool)
 | 0, _, _, _, _, _, _, _, _, _, _, _, _, _ => none
 | k + 1, x0, x1, x6, x7, x8, x10, x11, x12, x14, x15, x16, x17, x18 => if x18 < x11 then (if 0 ≤ x18 then (if x18 < (x6.length : Int) then (if 0 ≤ (rd x6 x18) then (if (rd x6 x18) < (x0.length : Int) then (if 0 ≤ ((rd_T101 x0 (rd x6 x18)).f0) then (if ((rd_T101 x0 (rd x6 x18)).f0) < (x15.length : Int) then ((some (x15.set (((rd_T101 x0 (rd x6 x18)).f0) : Int).toNat (wrap64 ((rd x15 ((rd_T101 x0 (rd x6 x18)).f0)) - (Int.tmod x17 101))) : List Int)).bind fun y402 => (if 0 ≤ ((rd_T101 x0 (rd x6 x18)).f1) then (if ((rd_T101 x0 (rd x6 x18)).f1) < (x15.length : Int) then (if x16.length < 17592186044416 then (rf_Fill.l3 k x0 x1 x6 x7 x8 x10 x11 x12 x14 (y402.set (((rd_T101 x0 (rd x6 x18)).f1) : Int).toNat (wrap64 ((rd y402 ((rd_T101 x0 (rd x6 x18)).f1)) + (Int.tmod x17 101)))) (x16 ++ [Int.tmod x17 101]) (wrap64 (Int.tdiv x17 101)) (wrap64 (x18 + 1))) else (none)) else (none)) else (none))) else (none)) else (none)) else (none)) else (none)) else (none)) else (none)) else (if 0 ≤ x11 then (if x11 < (x6.length : Int) then (if 0 ≤ (rd x6 x11) then (if (rd x6 x11) < (x0.length : Int) then (if 0 ≤ ((rd_T101 x0 (rd x6 x11)).f1) then (if ((rd_T101 x0 (rd x6 x11)).f1) < (x1.length : Int) then (if ((rd_T101 x0 (rd x6 x11)).f1) < (x15.length : Int) then (if 0 ≤ ((rd_T101 x0 (rd x6 x11)).f0) then (if ((rd_T101 x0 (rd x6 x11)).f0) < (x15.length : Int) then ((some (x15.set (((rd_T101 x0 (rd x6 x11)).f0) : Int).toNat (wrap64 ((rd x15 ((rd_T101 x0 (rd x6 x11)).f0)) - (wrap64 ((rd x1 ((rd_T101 x0 (rd x6 x11)).f1)) - (rd x15 ((rd_T101 x0 (rd x6 x11)).f1)))))) : List Int)).bind fun y414 => ((rf_In.f (wrap64 ((rd x1 ((rd_T101 x0 (rd x6 x11)).f1)) - (rd x15 ((rd_T101 x0 (rd x6 x11)).f1)))) 0 100).bind fun t417 => (if t417 = true then ((rf_Ints.f k (y414.set (((rd_T101 x0 (rd x6 x11)).f1) : Int).toNat (wrap64 ((rd y414 ((rd_T101 x0 (rd x6 x11)).f1)) + (wrap64 ((rd x1 ((rd_T101 x0 (rd x6 x11)).f1)) - (rd x15 ((rd_T101 x0 (rd x6 x11)).f1))))))) x1).bind fun t418 => (rf_Fill.j4 k x0 x1 x6 x7 x8 x10 x11 x12 x14 x16 (wrap64 ((rd x1 ((rd_T101 x0 (rd x6 x11)).f1)) - (rd x15 ((rd_T101 x0 (rd x6 x11)).f1)))) (!t418))) else (rf_Fill.j4 k x0 x1 x6 x7 x8 x10 x11 x12 x14 x16 (wrap64 ((rd x1 ((rd_T101 x0 (rd x6 x11)).f1)) - (rd x15 ((rd_T101 x0 (rd x6 x11)).f1)))) true)))) else (none)) else (none)) else (none)) else (none)) else (none)) else (none)) else (none)) else (none)) else (none))
def rf_Fill.j4 : Nat → List (S101) → List Int → List Int → List (S44) → Bool → List Int → Int → Int → Int → List Int → Int → Bool → Option ((List (S44)) × Bool)
 | 0, _, _, _, _, _, _, _, _, _, _, _, _ => none
 | k + 1, x0, x1, x6, x7, x8, x10, x11, x12, x14, x16, x22, x145 => if x145 = true then (rf_Fill.l2 k x0 x1 x6 x7 x8 x10 x11 x12 (wrap64 (x14 + 1))) else (if x16.length < 17592186044416 then (rf_Fill.l4 k x0 x1 x6 x7 true x10 x11 x12 x14 (x16 ++ [x22]) 0) else (none))
def rf_Fill.l4 : Nat → List (S101) → List Int → List Int → List (S44) → Bool → List Int → Int → Int → Int → List Int → Int → Option ((List (S44)) × Bool)
 | 0, _, _, _, _, _, _, _, _, _, _, _ => none
 | k + 1, x0, x1, x6, x7, x8, x10, x11, x12, x14, x16, x23 => if x23 < (x16.length : Int) then (if 0 ≤ x23 then (if x23 < (x7.length : Int) then (rf_Fill.l4 k x0 x1 x6 (x7.set (x23 : Int).toNat (⟨mn ((rd_T44 x7 x23).f0) (rd x16 x23), mx ((rd_T44 x7 x23).f1) (rd x16 x23)⟩ : S44)) x8 x10 x11 x12 x14 x16 (wrap64 (x23 + 1))) else (none)) else (none)) else (rf_Fill.l2 k x0 x1 x6 x7 x8 x10 x11 x12 (wrap64 (x14 + 1)))
end
def rf_Fill.f (k : Nat) (l0 : List (S101)) (l1 : List Int) : Option ((List (S44)) × Bool) := (rf_Blots.f k l0).bind fun t373 => (rf_Fill.l0 k l0 l1 t373 (([] : List (S44))) false 0)
def rf_Fill.T27 : Bool × List (List Nat × List Nat) := (true, [([], []), ([], []), ([1], [1]), ([0, 2], [0, 2]), ([3], [3]), ([], []), ([], []), ([6], [6]), ([5, 7], [5, 7]), ([8], [8]), ([4, 9], [4, 9]), ([10, 0, 1, 2, 3, 4, 5, 6, 7, 8, 9, 10], [10])])
def rf_Fill.B27 : List Nat := [0, 0, 2, 7, 15, 0, 0, 64, 224, 480, 1023, 2047]
theorem rf_Fill.tab27 : rtab .any (opsOf Try.f41 27) = rf_Fill.T27 := by kernel_rfl
theorem rf_Fill.bits27 : waitsOk rf_Fill.T27.2 rf_Fill.B27 = true := by kernel_rfl
def rf_Fill.T35 : Bool × List (List Nat × List Nat) := (true, [([], []), ([], []), ([], []), ([], []), ([2, 3], [2, 3]), ([4], [4]), ([5], [5]), ([], []), ([], []), ([7, 8], [7, 8]), ([9], [9]), ([6, 10], [6, 10]), ([], []), ([], []), ([12, 13], [12, 13]), ([14], [14]), ([15], [15]), ([], []), ([], []), ([17, 18], [17, 18]), ([19], [19]), ([16, 20], [16, 20]), ([11, 21], [11, 21]), ([0, 1, 0, 1, 2, 3, 4, 5, 6, 7, 8, 9, 10, 11, 12, 13, 14, 15, 16, 17, 18, 19, 20, 21, 22], [0, 1]), ([23, 22, 0, 1, 2, 3, 4, 5, 6, 7, 8, 9, 10, 11, 12, 13, 14, 15, 16, 17, 18, 19, 20, 21, 22], [22, 23])])
def rf_Fill.B35 : List Nat := [0, 0, 0, 0, 12, 28, 60, 0, 0, 384, 896, 2044, 0, 0, 12288, 28672, 61440, 0, 0, 393216, 917504, 2093056, 4194300, 8388607, 16777215]
theorem rf_Fill.tab35 : rtab .any (opsOf Try.f41 35) = rf_Fill.T35 := by kernel_rfl
theorem rf_Fill.bits35 : waitsOk rf_Fill.T35.2 rf_Fill.B35 = true := by kernel_rfl
set_option maxHeartbeats 8000000 in
set_option maxRecDepth 100000 in
theorem rf_Fill.calls (k : Nat) (A0 : Option Addr) (c0 : Nat) (l0 : List (S101)) (A1 : Option Addr) (c1 : Nat) (l1 : List Int) (r1 : List (S44)) (r2 : Bool) (w : World) (hr0 : Kd.C k101 w A0 l0.length l0) (hc0 : l0.length ≤ c0) (hr1 : Kd.C (Kd.int .i64) w A1 l1.length l1) (hc1 : l1.length ≤ c1) (h : rf_Fill.f k l0 l1 = some (r1, r2)) :
  Calls Try.prog 41 #[.slice A0 l0.length c0, .slice A1 l1.length c1] w fun e w' => ∃ v0_ : Value, e = .returned (.tuple #[v0_, .bool r2]) ∧ Kd.R k44 44 w' w.heap.size (fun _ => True) v0_ r1 ∧ Below w.heap.size w w' := by
 have hu44 := Try.underlying44; have hu101 := Try.underlying101
 have HR0 := Aside0.mk hr0
 have HC0 := Aside0.mk hc0
 clear hr0 hc0; have HR1 := Aside0.mk hr1
 have HC1 := Aside0.mk hc1
 clear hr1 hc1; have HB := Aside0.mk (Below.refl w.heap.size w)
 have H : ((rf_Blots.f k l0).bind fun t373 => (rf_Fill.l0 k l0 l1 t373 (([] : List (S44))) false 0)) = some (r1, r2) := h
 clear h
 replace H := Option.bind_eq_some_iff.mp H
 obtain ⟨t373, A30, H⟩ := H
 replace H : (rf_Fill.l0 k l0 l1 t373 (([] : List (S44))) false 0) = some (r1, r2) := H
 have A3 := Aside0.mk A30
 clear A30; obtain ⟨y376, hy376⟩ : ∃ y_ : List (S44), y_ = (([] : List (S44))) := ⟨_, rfl⟩
 replace H : (rf_Fill.l0 k l0 l1 t373 y376 false 0) = some (r1, r2) := by first | (rw [hy376]; with_reducible exact H) | (have H2_ := (Option.bind_some _ _).symm.trans H; rw [hy376]; with_reducible exact H2_) | (have H2_ := (Option.bind_some _ _).symm.trans H; with_reducible exact H2_) | with_reducible exact H | (rw [hy376]; exact H) | exact H
 have Ny376 := Aside0.mk hy376
 clear hy376; have H' := Aside0.mk H
 clear H; go_enter Try.func41, Try.ntmps41
 go_wp2_with (first | ((with_reducible refine gate_callee (f := 40) rfl ?_); refine goesL_ (some 25) rfl rfl Try.func40 (by kernel_rfl) rfl #[.slice A0 l0.length c0] rfl (by (try simp only [List.map_toArray, List.map_cons, List.map_nil]); first | done | rfl | (simp only [List.length_drop, List.length_take]; rfl)) ?_; (with_reducible refine (rf_Blots.calls k _ _ l0 t373 _ ?side1 ?side2 A3.out).mono ?_); (case side1 => repeat (first | exact HR0.out | (with_reducible refine Kd.C_alloc ?_ _) | (with_reducible refine Kd.C_drewN ?_ _) | (with_reducible refine Kd.C_drew ?_))); (case side2 => exact HC0.out); rintro e w4 ⟨v374, rfl, ho0, hb⟩; refine ⟨_, rfl, ?_⟩; have n0_ := Aside0.mk (Kd.R_lower ho0 (below_size (by repeat (first | (with_reducible first | exact HB.out | apply below_alloc | apply pw_below_drewN | apply below_drew1) | exact HB.out)))); have n1_ := Aside0.mk (below_step (by repeat (first | (with_reducible first | exact HB.out | apply below_alloc | apply pw_below_drewN | apply below_drew1) | exact HB.out)) hb); clear HB; have HO375 := n0_; have HB := n1_; clear n0_ n1_; (try clear hb); (try clear hb2); (try clear hk); (try clear hi); (try clear ho0)) | ((with_reducible refine gate_dst (N := 26) rfl ?_); refine Kd.R_lit k44 _ 44 ?hg (N := 26) ?hd (xs := ([] : List (S44))) (inner := []) (ok := fun _ => True) (okp := fun _ => True) ?hr ?hp (fun _ hk => hk) trivial (Below.refl _ _) (Nat.le_refl _) (by simp) ?_; (case hd => rfl); (case hg => rfl); (case hr => first | (go_simp; done) | (go_simp; rfl)); (case hp => exact (Reps.none _ _)); intro v377 w5 ho6 hb hg_ hnew_; clear hg_ hnew_; (first | rw [← Ny376.out] at ho6 | (simp only [Int.reduceToNat] at ho6; rw [← Ny376.out] at ho6)); have n0_ := Aside0.mk (Kd.R_below (by (with_reducible repeat (first | apply Kd.R_alloc | apply Kd.R_drewN | apply Kd.R_drew)); exact HO375.out) hb); have n1_ := Aside0.mk (Kd.R_lower ho6 (below_size (by repeat (first | (with_reducible first | exact HB.out | apply below_alloc | apply pw_below_drewN | apply below_drew1) | exact HB.out)))); have n2_ := Aside0.mk (below_step (by repeat (first | (with_reducible first | exact HB.out | apply below_alloc | apply pw_below_drewN | apply below_drew1) | exact HB.out)) hb); clear HO375; clear HB; have HO375 := n0_; have HO378 := n1_; have HB := n2_; clear n0_ n1_ n2_; clear hb ho6))
 go_loopg [7, 9] k (fun kq v7 v9 w' => ∃ (x7_1 : List (S44)) (x9_1 : Int), v9 = .int .i64 x9_1 ∧ Aside0 (rf_Fill.l0 kq l0 l1 t373 x7_1 false x9_1 = some (r1, r2)) ∧ Aside0 (kq ≤ k) ∧ Aside0 (Kd.R (Kd.int .i64) 3 w' w.heap.size (fun _ => True) v374 t373) ∧ Aside0 (Kd.R k44 44 w' w.heap.size (fun _ => True) v7 x7_1) ∧ Aside0 (Below w.heap.size w w'))
 case atStart => exact ⟨(y376), (0), (by first | rfl | (simp; done) | (simp [*]; done)), H', ⟨Nat.le_refl _⟩, ⟨by (with_reducible repeat (first | apply Kd.R_alloc | apply Kd.R_drewN | apply Kd.R_drew)); exact HO375.out⟩, ⟨by (with_reducible repeat (first | apply Kd.R_alloc | apply Kd.R_drewN | apply Kd.R_drew)); exact HO378.out⟩, ⟨by repeat (first | (with_reducible first | exact HB.out | apply below_alloc | apply pw_below_drewN | apply below_drew1) | exact HB.out)⟩⟩
 case round =>
  clear H'; try clear c1
  try clear p2
  try clear c4
  obtain ⟨x7_1, x9_1, rfl, HA, HK1, HO_6, HO_7, HB⟩ := hrel
  cases gk with
  | zero => exact absurd HA.out (by simp [rf_Fill.l0])
  | succ k1 =>
   have H := HA.out
   clear HA; simp only [rf_Fill.l0] at H
   by_cases c7 : x9_1 < (t373.length : Int)
   ·rw [if_pos c7] at H
    have c7b0 : decide (x9_1 < (t373.length : Int)) = true := decide_eq_true c7
    clear c7
    by_cases c8 : x7_1.length < 8796093022208
    ·rw [if_pos c8] at H
     have LMc8 := Aside0.mk c8
     clear c8; obtain ⟨y379, hy379⟩ : ∃ y_ : List (S44), y_ = (x7_1 ++ [(⟨101, (-1)⟩ : S44)]) := ⟨_, rfl⟩
     replace H : (rf_Fill.l0 k1 l0 l1 t373 y379 false (wrap64 (x9_1 + 1))) = some (r1, r2) := by first | (rw [hy379]; with_reducible exact H) | (have H2_ := (Option.bind_some _ _).symm.trans H; rw [hy379]; with_reducible exact H2_) | (have H2_ := (Option.bind_some _ _).symm.trans H; with_reducible exact H2_) | with_reducible exact H | (rw [hy379]; exact H) | exact H
     have Ny379 := Aside0.mk hy379
     clear hy379; have H' := Aside0.mk H
     clear H; obtain ⟨Ao9, co9, eo9⟩ := Kd.R_slice HO_6.out
     subst eo9
     go_wp2_with (first | ((with_reducible refine gate_builtin (b := .append) (xs := #[.tmp 33, .tmp 35]) rfl ?_); at_builtin; refine Kd.R_append k44 (w0 := w) w.heap.size rfl (.tmp 33) (.tmp 35) 36 44 (.agg #[(.int .i64 0), (.int .i64 0)]) 16 rfl Try.underlying36 info44 rfl (by decide) (by omega) u7 x7_1 (⟨101, (-1)⟩ : S44) [.int .i64 101, .int .i64 (-1)] (fun _ => True) (fun _ => False) rfl rfl ?aP (fun _ hk => hk.elim) ?aF ?aO ?aB ?aS ?aL ?_; (case aP => exact k44_mkM _ _ _ (⟨101, (-1)⟩ : S44)); (case aB => exact (by repeat (first | (with_reducible first | exact HB.out | apply below_alloc | apply pw_below_drewN | apply below_drew1) | exact HB.out))); (case aF => exact (fun _ _ => trivial)); (case aO => exact (by (with_reducible repeat (first | apply Kd.R_alloc | apply Kd.R_drewN | apply Kd.R_drew)); exact HO_7.out)); (case aS => exact (below_size (by repeat (first | (with_reducible first | exact HB.out | apply below_alloc | apply pw_below_drewN | apply below_drew1) | exact HB.out)))); (case aL => have := LMc8.out; omega); intro v380 w10 ho hb hg hat; rw [← Ny379.out] at ho; have n0_ := Aside0.mk (Kd.R_over' (by (with_reducible repeat (first | apply Kd.R_alloc | apply Kd.R_drewN | apply Kd.R_drew)); exact HO_6.out) (Kd.R_typed (by (with_reducible repeat (first | apply Kd.R_alloc | apply Kd.R_drewN | apply Kd.R_drew)); exact HO_7.out)) (by decide) hg); have n1_ := Aside0.mk (hb); have n2_ := Aside0.mk (ho); clear HO_6; clear HB; clear HO_7; have HO_6 := n0_; have HB := n1_; have HO381 := n2_; clear n0_ n1_ n2_; clear ho hb hg hat))
     go_roundg k1
     case measure => have := HK1.out; omega
     case rel => exact ⟨(y379), (wrap64 (x9_1 + 1)), (by first | rfl | (simp; done) | (simp [*]; done)), H', ⟨by have := HK1.out; omega⟩, ⟨by (with_reducible repeat (first | apply Kd.R_alloc | apply Kd.R_drewN | apply Kd.R_drew)); exact HO_6.out⟩, ⟨by (with_reducible repeat (first | apply Kd.R_alloc | apply Kd.R_drewN | apply Kd.R_drew)); exact HO381.out⟩, ⟨by repeat (first | (with_reducible first | exact HB.out | apply below_alloc | apply pw_below_drewN | apply below_drew1) | exact HB.out)⟩⟩
    ·rw [if_neg c8] at H
     exact absurd H (by simp)
   ·rw [if_neg c7] at H
    have c7b0 : decide (x9_1 < (t373.length : Int)) = false := decide_eq_false c7
    clear c7
    by_cases c11 : (t373.length : Int) = 0
    ·rw [if_pos c11] at H
     have c11b0 : ((t373.length : Int) == 0) = true := beq_iff_eq.mpr c11
     have c11b1 : ((t373.length : Int) != 0) = false := bne_eq_false_iff_eq.mpr c11
     clear c11
     replace H := Option.bind_eq_some_iff.mp H
     obtain ⟨t382, A120, H⟩ := H
     replace H : ((rf_Ints.f k1 t382 l1).bind fun t385 => (some (x7_1, t385))) = some (r1, r2) := H
     have A12 := Aside0.mk A120
     clear A120
     replace H := Option.bind_eq_some_iff.mp H
     obtain ⟨t385, A130, H⟩ := H
     replace H : (some (x7_1, t385)) = some (r1, r2) := H
     have A13 := Aside0.mk A130
     clear A130; simp only [Option.some.injEq, Prod.mk.injEq] at H
     obtain ⟨rfl, rfl⟩ := H
     obtain ⟨Ao14, co14, eo14⟩ := Kd.R_slice HO_6.out
     subst eo14
     go_wp2_with (first | ((with_reducible refine gate_callee (f := 32) rfl ?_); refine goesL_ (some 42) rfl rfl Try.func32 (by kernel_rfl) rfl #[.slice A0 l0.length c0] rfl (by (try simp only [List.map_toArray, List.map_cons, List.map_nil]); first | done | rfl | (simp only [List.length_drop, List.length_take]; rfl)) ?_; (with_reducible refine (rf_Balances.calls _ _ l0 t382 _ ?side1 ?side2 A12.out).mono ?_); (case side1 => repeat (first | exact (Kd.C_below HR0.out HB.out) | (with_reducible refine Kd.C_alloc ?_ _) | (with_reducible refine Kd.C_drewN ?_ _) | (with_reducible refine Kd.C_drew ?_))); (case side2 => exact HC0.out); rintro e w15 ⟨v383, rfl, ho0, hb⟩; refine ⟨_, rfl, ?_⟩; have n0_ := Aside0.mk (Kd.R_elder' (by (with_reducible repeat (first | apply Kd.R_alloc | apply Kd.R_drewN | apply Kd.R_drew)); exact HO_6.out) (Kd.R_base ho0) hb); have n1_ := Aside0.mk (Kd.R_below (by (with_reducible repeat (first | apply Kd.R_alloc | apply Kd.R_drewN | apply Kd.R_drew)); exact HO_7.out) hb); have n2_ := Aside0.mk (Kd.R_lower (Kd.R_new' ho0 (Kd.R_lt (by (with_reducible repeat (first | apply Kd.R_alloc | apply Kd.R_drewN | apply Kd.R_drew)); exact HO_6.out))) (below_size (by repeat (first | (with_reducible first | exact HB.out | apply below_alloc | apply pw_below_drewN | apply below_drew1) | exact HB.out)))); have n3_ := Aside0.mk (below_step (by repeat (first | (with_reducible first | exact HB.out | apply below_alloc | apply pw_below_drewN | apply below_drew1) | exact HB.out)) hb); clear HO_6; clear HO_7; clear HB; have HO_6 := n0_; have HO_7 := n1_; have HO384 := n2_; have HB := n3_; clear n0_ n1_ n2_ n3_; (try clear hb); (try clear hb2); (try clear hk); (try clear hi); (try clear ho0); obtain ⟨Ao16, co16, eo16⟩ := Kd.R_slice HO384.out; subst eo16) | ((with_reducible refine gate_callee (f := 25) rfl ?_); refine goesL_ (some 44) rfl rfl Try.func25 (by kernel_rfl) rfl #[.slice Ao16 t382.length co16, .slice A1 l1.length c1] rfl (by (try simp only [List.map_toArray, List.map_cons, List.map_nil]); first | done | rfl | (simp only [List.length_drop, List.length_take]; rfl)) ?_; (with_reducible refine (rf_Ints.calls k1 _ _ t382 _ _ l1 t385 _ ?side1 ?side2 ?side3 ?side4 A13.out).mono ?_); (case side1 => repeat (first | exact (Kd.R_reads' HO384.out).2.2 | (with_reducible refine Kd.C_alloc ?_ _) | (with_reducible refine Kd.C_drewN ?_ _) | (with_reducible refine Kd.C_drew ?_))); (case side2 => exact (Kd.R_reads' HO384.out).2.1); (case side3 => repeat (first | exact (Kd.C_below HR1.out HB.out) | (with_reducible refine Kd.C_alloc ?_ _) | (with_reducible refine Kd.C_drewN ?_ _) | (with_reducible refine Kd.C_drew ?_))); (case side4 => exact HC1.out); rintro e w' ⟨rfl, ⟨nd, rfl⟩⟩; refine ⟨_, rfl, ?_⟩))
     go_ret2
     exact ⟨_, by first | rfl | (simp [errW_none, errW_some] <;> rfl) | (simp [*, errW_none, errW_some] <;> rfl), by (with_reducible repeat (first | apply Kd.R_alloc | apply Kd.R_drewN | apply Kd.R_drew)); exact HO_7.out, by repeat (first | (with_reducible first | exact HB.out | apply below_alloc | apply pw_below_drewN | apply below_drew1) | exact HB.out)⟩
    ·rw [if_neg c11] at H
     have c11b0 : ((t373.length : Int) == 0) = false := beq_eq_false_iff_ne.mpr c11
     have c11b1 : ((t373.length : Int) != 0) = true := bne_iff_ne.mpr c11
     have c11b2 : ¬ (t373 = []) := fun h_ => c11 (by rw [h_]; rfl)
     replace H := Option.bind_eq_some_iff.mp H
     obtain ⟨t386, A170, H⟩ := H
     replace H : (rf_Fill.l1 k1 l0 l1 t373 x7_1 false t386 (wrap64 ((t373.length : Int) - 1)) 1 0) = some (r1, r2) := H
     have A17 := Aside0.mk A170
     clear A170; have H' := Aside0.mk H
     clear H; obtain ⟨Ao18, co18, eo18⟩ := Kd.R_slice HO_6.out
     subst eo18
     go_wp2_with (first | ((with_reducible refine gate_callee (f := 32) rfl ?_); refine goesL_ (some 46) rfl rfl Try.func32 (by kernel_rfl) rfl #[.slice A0 l0.length c0] rfl (by (try simp only [List.map_toArray, List.map_cons, List.map_nil]); first | done | rfl | (simp only [List.length_drop, List.length_take]; rfl)) ?_; (with_reducible refine (rf_Balances.calls _ _ l0 t386 _ ?side1 ?side2 A17.out).mono ?_); (case side1 => repeat (first | exact (Kd.C_below HR0.out HB.out) | (with_reducible refine Kd.C_alloc ?_ _) | (with_reducible refine Kd.C_drewN ?_ _) | (with_reducible refine Kd.C_drew ?_))); (case side2 => exact HC0.out); rintro e w19 ⟨v387, rfl, ho0, hb⟩; refine ⟨_, rfl, ?_⟩; have n0_ := Aside0.mk (Kd.R_elder' (by (with_reducible repeat (first | apply Kd.R_alloc | apply Kd.R_drewN | apply Kd.R_drew)); exact HO_6.out) (Kd.R_base ho0) hb); have n1_ := Aside0.mk (Kd.R_below (by (with_reducible repeat (first | apply Kd.R_alloc | apply Kd.R_drewN | apply Kd.R_drew)); exact HO_7.out) hb); have n2_ := Aside0.mk (Kd.R_lower (Kd.R_new' ho0 (Kd.R_lt (by (with_reducible repeat (first | apply Kd.R_alloc | apply Kd.R_drewN | apply Kd.R_drew)); exact HO_6.out))) (below_size (by repeat (first | (with_reducible first | exact HB.out | apply below_alloc | apply pw_below_drewN | apply below_drew1) | exact HB.out)))); have n3_ := Aside0.mk (below_step (by repeat (first | (with_reducible first | exact HB.out | apply below_alloc | apply pw_below_drewN | apply below_drew1) | exact HB.out)) hb); clear HO_6; clear HO_7; clear HB; have HO_6 := n0_; have HO_7 := n1_; have HO388 := n2_; have HB := n3_; clear n0_ n1_ n2_ n3_; (try clear hb); (try clear hb2); (try clear hk); (try clear hi); (try clear ho0)))
     go_loopg [12, 13] k1 (fun kq v12 v13 w' => ∃ (x12_2 : Int) (x13_2 : Int), v12 = .int .i64 x12_2 ∧ v13 = .int .i64 x13_2 ∧ Aside0 (rf_Fill.l1 kq l0 l1 t373 x7_1 false t386 (wrap64 ((t373.length : Int) - 1)) x12_2 x13_2 = some (r1, r2)) ∧ Aside0 (kq ≤ k1) ∧ Aside0 (Kd.R (Kd.int .i64) 3 w' w.heap.size (fun k_ => some k_ ≠ (v387 : Value).ownBlock) (.slice Ao18 t373.length co18) t373) ∧ Aside0 (Kd.R k44 44 w' w.heap.size (fun _ => True) u7 x7_1) ∧ Aside0 (Kd.R (Kd.int .i64) 3 w' w.heap.size (fun k_ => some k_ ≠ ((.slice Ao18 t373.length co18) : Value).ownBlock) v387 t386) ∧ Aside0 (Below w.heap.size w w'))
     case atStart => exact ⟨(1), (0), (by first | rfl | (simp; done) | (simp [*]; done)), (by first | rfl | (simp; done) | (simp [*]; done)), H', ⟨Nat.le_refl _⟩, ⟨by (with_reducible repeat (first | apply Kd.R_alloc | apply Kd.R_drewN | apply Kd.R_drew)); exact Kd.R_mono HO_6.out (fun _ hk => hk.2)⟩, ⟨by (with_reducible repeat (first | apply Kd.R_alloc | apply Kd.R_drewN | apply Kd.R_drew)); exact HO_7.out⟩, ⟨by (with_reducible repeat (first | apply Kd.R_alloc | apply Kd.R_drewN | apply Kd.R_drew)); exact Kd.R_mono HO388.out (fun _ hk => hk.2)⟩, ⟨by repeat (first | (with_reducible first | exact HB.out | apply below_alloc | apply pw_below_drewN | apply below_drew1) | exact HB.out)⟩⟩
     case round =>
      clear H'; try clear c1
      try clear c2
      try clear p2
      try clear c3
      try clear c4
      try clear p6
      try clear c7
      try clear c7b0
      try clear c8
      try clear c11
      try clear c11b0
      try clear c11b1
      try clear c11b2
      try clear p2
      obtain ⟨x12_2, x13_2, rfl, rfl, HA, HK2, HO_6, HO_7, HO_10, HB⟩ := hrel
      cases gk with
      | zero => exact absurd HA.out (by simp [rf_Fill.l1])
      | succ k2 =>
       have H := HA.out
       clear HA; simp only [rf_Fill.l1] at H
       by_cases c20 : x13_2 < (wrap64 ((t373.length : Int) - 1))
       ·rw [if_pos c20] at H
        have c20b0 : decide (x13_2 < (wrap64 ((t373.length : Int) - 1))) = true := decide_eq_true c20
        clear c20; have H' := Aside0.mk H
        clear H; go_wp2
        go_roundg k2
        case measure => have := HK1.out; have := HK2.out; omega
        case rel => exact ⟨(wrap64 (x12_2 * 101)), (wrap64 (x13_2 + 1)), (by first | rfl | (simp; done) | (simp [*]; done)), (by first | rfl | (simp; done) | (simp [*]; done)), H', ⟨by have := HK1.out; have := HK2.out; omega⟩, ⟨by (with_reducible repeat (first | apply Kd.R_alloc | apply Kd.R_drewN | apply Kd.R_drew)); exact HO_6.out⟩, ⟨by (with_reducible repeat (first | apply Kd.R_alloc | apply Kd.R_drewN | apply Kd.R_drew)); exact HO_7.out⟩, ⟨by (with_reducible repeat (first | apply Kd.R_alloc | apply Kd.R_drewN | apply Kd.R_drew)); exact HO_10.out⟩, ⟨by repeat (first | (with_reducible first | exact HB.out | apply below_alloc | apply pw_below_drewN | apply below_drew1) | exact HB.out)⟩⟩
       ·rw [if_neg c20] at H
        have c20b0 : decide (x13_2 < (wrap64 ((t373.length : Int) - 1))) = false := decide_eq_false c20
        clear c20; have H' := Aside0.mk H
        clear H; go_wp2
        go_loopg [8, 14] k2 (fun kq v8 v14 w' => ∃ (x6_3 : List Int) (x7_3 : List (S44)) (x8_3 : Bool) (x10_3 : List Int) (x14_3 : Int), v8 = .bool x8_3 ∧ v14 = .int .i64 x14_3 ∧ Aside0 (rf_Fill.l2 kq l0 l1 x6_3 x7_3 x8_3 x10_3 (wrap64 ((t373.length : Int) - 1)) x12_2 x14_3 = some (r1, r2)) ∧ Aside0 (kq ≤ k2) ∧ Aside0 (Kd.R (Kd.int .i64) 3 w' w.heap.size (fun k_ => some k_ ≠ (v387 : Value).ownBlock) (.slice Ao18 t373.length co18) x6_3) ∧ Aside0 (Kd.R k44 44 w' w.heap.size (fun _ => True) u7 x7_3) ∧ Aside0 (Kd.R (Kd.int .i64) 3 w' w.heap.size (fun k_ => some k_ ≠ ((.slice Ao18 t373.length co18) : Value).ownBlock) v387 x10_3) ∧ Aside0 (Below w.heap.size w w'))
        case atStart => exact ⟨(t373), (x7_1), (false), (t386), (0), (by first | rfl | (simp; done) | (simp [*]; done)), (by first | rfl | (simp; done) | (simp [*]; done)), H', ⟨Nat.le_refl _⟩, ⟨by (with_reducible repeat (first | apply Kd.R_alloc | apply Kd.R_drewN | apply Kd.R_drew)); exact HO_6.out⟩, ⟨by (with_reducible repeat (first | apply Kd.R_alloc | apply Kd.R_drewN | apply Kd.R_drew)); exact HO_7.out⟩, ⟨by (with_reducible repeat (first | apply Kd.R_alloc | apply Kd.R_drewN | apply Kd.R_drew)); exact HO_10.out⟩, ⟨by repeat (first | (with_reducible first | exact HB.out | apply below_alloc | apply pw_below_drewN | apply below_drew1) | exact HB.out)⟩⟩
        case round =>
         clear H'; try clear c1
         try clear c2
         try clear p2
         try clear c3
         try clear c4
         try clear p6
         try clear c7
         try clear c7b0
         try clear c8
         try clear c11
         try clear c11b0
         try clear c11b1
         try clear c11b2
         try clear c20
         try clear c20b0
         try clear p2
         try clear p6
         obtain ⟨x6_3, x7_3, x8_3, x10_3, x14_3, rfl, rfl, HA, HK3, HO_6, HO_7, HO_10, HB⟩ := hrel
         have hl6_3 := (Kd.R_reads' HO_6.out).1
         rw [hl6_3] at HO_6
         (try simp only [hl6_3])
         (try simp only [hl6_3] at HO_7)
         (try simp only [hl6_3] at HO_10)
         cases gk with
         | zero => exact absurd HA.out (by simp [rf_Fill.l2])
         | succ k3 =>
          have H := HA.out
          clear HA; simp only [rf_Fill.l2] at H
          by_cases c21 : x14_3 < x12_2
          ·rw [if_pos c21] at H
           have c21b0 : decide (x14_3 < x12_2) = true := decide_eq_true c21
           clear c21; obtain ⟨y389, hy389⟩ : ∃ y_ : List Int, y_ = (([] : List Int)) := ⟨_, rfl⟩
           replace H : (if y389.length + x10_3.length < 17592186044416 then (rf_Fill.l3 k3 l0 l1 x6_3 x7_3 x8_3 x10_3 (wrap64 ((t373.length : Int) - 1)) x12_2 x14_3 (y389 ++ x10_3) (([] : List Int)) x14_3 0) else (none)) = some (r1, r2) := by first | (rw [hy389]; with_reducible exact H) | (have H2_ := (Option.bind_some _ _).symm.trans H; rw [hy389]; with_reducible exact H2_) | (have H2_ := (Option.bind_some _ _).symm.trans H; with_reducible exact H2_) | with_reducible exact H | (rw [hy389]; exact H) | exact H
           have Ny389 := Aside0.mk hy389
           clear hy389
           by_cases c22 : y389.length + x10_3.length < 17592186044416
           ·rw [if_pos c22] at H
            have LMc22 := Aside0.mk c22
            clear c22; obtain ⟨y392, hy392⟩ : ∃ y_ : List Int, y_ = (y389 ++ x10_3) := ⟨_, rfl⟩
            replace H : (rf_Fill.l3 k3 l0 l1 x6_3 x7_3 x8_3 x10_3 (wrap64 ((t373.length : Int) - 1)) x12_2 x14_3 y392 (([] : List Int)) x14_3 0) = some (r1, r2) := by first | (rw [hy392]; with_reducible exact H) | (have H2_ := (Option.bind_some _ _).symm.trans H; rw [hy392]; with_reducible exact H2_) | (have H2_ := (Option.bind_some _ _).symm.trans H; with_reducible exact H2_) | with_reducible exact H | (rw [hy392]; exact H) | exact H
            have Ny392 := Aside0.mk hy392
            clear hy392; obtain ⟨y395, hy395⟩ : ∃ y_ : List Int, y_ = (([] : List Int)) := ⟨_, rfl⟩
            replace H : (rf_Fill.l3 k3 l0 l1 x6_3 x7_3 x8_3 x10_3 (wrap64 ((t373.length : Int) - 1)) x12_2 x14_3 y392 y395 x14_3 0) = some (r1, r2) := by first | (rw [hy395]; with_reducible exact H) | (have H2_ := (Option.bind_some _ _).symm.trans H; rw [hy395]; with_reducible exact H2_) | (have H2_ := (Option.bind_some _ _).symm.trans H; with_reducible exact H2_) | with_reducible exact H | (rw [hy395]; exact H) | exact H
            have Ny395 := Aside0.mk hy395
            clear hy395; have H' := Aside0.mk H
            clear H; go_wp2_with (first | ((with_reducible refine gate_dst (N := 62) rfl ?_); refine Kd.R_lit (Kd.int .i64) _ 3 ?hg (N := 62) ?hd (xs := ([] : List Int)) (inner := []) (ok := fun _ => True) (okp := fun _ => True) ?hr ?hp (fun _ hk => hk) trivial (Below.refl _ _) (Nat.le_refl _) (by simp) ?_; (case hd => rfl); (case hg => rfl); (case hr => first | (go_simp; done) | (go_simp; rfl)); (case hp => exact (Reps.none _ _)); intro v390 w23 ho24 hb hg_ hnew_; clear hg_ hnew_; (first | rw [← Ny389.out] at ho24 | (simp only [Int.reduceToNat] at ho24; rw [← Ny389.out] at ho24)); have n0_ := Aside0.mk (Kd.R_elder' (by (with_reducible repeat (first | apply Kd.R_alloc | apply Kd.R_drewN | apply Kd.R_drew)); exact HO_6.out) (Kd.R_base ho24) hb); have n1_ := Aside0.mk (Kd.R_below (by (with_reducible repeat (first | apply Kd.R_alloc | apply Kd.R_drewN | apply Kd.R_drew)); exact HO_7.out) hb); have n2_ := Aside0.mk (Kd.R_elder' (by (with_reducible repeat (first | apply Kd.R_alloc | apply Kd.R_drewN | apply Kd.R_drew)); exact HO_10.out) (Kd.R_base ho24) hb); have n3_ := Aside0.mk (Kd.R_lower (Kd.R_new' (Kd.R_new' ho24 (Kd.R_lt (by (with_reducible repeat (first | apply Kd.R_alloc | apply Kd.R_drewN | apply Kd.R_drew)); exact HO_6.out))) (Kd.R_lt (by (with_reducible repeat (first | apply Kd.R_alloc | apply Kd.R_drewN | apply Kd.R_drew)); exact HO_10.out))) (below_size (by repeat (first | (with_reducible first | exact HB.out | apply below_alloc | apply pw_below_drewN | apply below_drew1) | exact HB.out)))); have n4_ := Aside0.mk (below_step (by repeat (first | (with_reducible first | exact HB.out | apply below_alloc | apply pw_below_drewN | apply below_drew1) | exact HB.out)) hb); clear HO_6; clear HO_7; clear HO_10; clear HB; have HO_6 := n0_; have HO_7 := n1_; have HO_10 := n2_; have HO391 := n3_; have HB := n4_; clear n0_ n1_ n2_ n3_ n4_; clear hb ho24; obtain ⟨Ao26, co26, eo26⟩ := Kd.R_slice HO_10.out; subst eo26) | ((with_reducible refine gate_builtin (b := .append) (xs := #[.tmp 62, .tmp 63]) rfl ?_); at_builtin; refine Kd.R_append_rows (Kd.int .i64) (w0 := w) w.heap.size rfl (.tmp 62) (.tmp 63) 35 3 (.int .i64 0) 8 rfl Try.underlying35 info3 rfl (by decide) (by omega) v390 y389 x10_3 _ _ _ (fun k_ => some k_ ≠ (.slice Ao18 x6_3.length co18 : Value).ownBlock ∧ some k_ ≠ (.slice Ao26 x10_3.length co26 : Value).ownBlock) (fun _ => False) rfl rfl ?aO ?aR (fun _ _ h => h) (fun _ h => h.elim) ?aF ?aB ?aS ?aL ?_; (case aR => repeat (first | exact (Kd.R_reads' HO_10.out).2.2 | (with_reducible refine Kd.C_alloc ?_ _) | (with_reducible refine Kd.C_drewN ?_ _) | (with_reducible refine Kd.C_drew ?_))); (case aB => exact (by repeat (first | (with_reducible first | exact HB.out | apply below_alloc | apply pw_below_drewN | apply below_drew1) | exact HB.out))); (case aF => exact (fun k_ hk => ⟨Kd.fresh' (Kd.R_lt (by (with_reducible repeat (first | apply Kd.R_alloc | apply Kd.R_drewN | apply Kd.R_drew)); exact HO_6.out)) k_ hk, Kd.fresh' (Kd.R_lt (by (with_reducible repeat (first | apply Kd.R_alloc | apply Kd.R_drewN | apply Kd.R_drew)); exact HO_10.out)) k_ hk⟩)); (case aO => exact (by (with_reducible repeat (first | apply Kd.R_alloc | apply Kd.R_drewN | apply Kd.R_drew)); exact Kd.R_mono HO391.out (fun _ hk => ⟨hk.1.2, hk.2⟩))); (case aS => exact (below_size (by repeat (first | (with_reducible first | exact HB.out | apply below_alloc | apply pw_below_drewN | apply below_drew1) | exact HB.out)))); (case aL => have := LMc22.out; omega); intro v393 w25 ho hb hg hat; rw [← Ny392.out] at ho; have n0_ := Aside0.mk (Kd.R_after (ok := (fun k_ => some k_ ≠ (.slice Ao26 x10_3.length co26 : Value).ownBlock)) (by (with_reducible repeat (first | apply Kd.R_alloc | apply Kd.R_drewN | apply Kd.R_drew)); exact HO_6.out) hg hat); have n1_ := Aside0.mk (Kd.R_over' (by (with_reducible repeat (first | apply Kd.R_alloc | apply Kd.R_drewN | apply Kd.R_drew)); exact HO_7.out) (Kd.R_typed (by (with_reducible repeat (first | apply Kd.R_alloc | apply Kd.R_drewN | apply Kd.R_drew)); exact HO391.out)) (by decide) hg); have n2_ := Aside0.mk (Kd.R_after (ok := (fun k_ => some k_ ≠ (.slice Ao18 x6_3.length co18 : Value).ownBlock)) (by (with_reducible repeat (first | apply Kd.R_alloc | apply Kd.R_drewN | apply Kd.R_drew)); exact HO_10.out) hg hat); have n3_ := Aside0.mk (hb); have n4_ := Aside0.mk (ho); clear HO_6; clear HO_7; clear HO_10; clear HB; clear HO391; have HO_6 := n0_; have HO_7 := n1_; have HO_10 := n2_; have HB := n3_; have HO394 := n4_; clear n0_ n1_ n2_ n3_ n4_; clear ho hb hg hat) | ((with_reducible refine gate_dst (N := 65) rfl ?_); refine Kd.R_lit (Kd.int .i64) _ 3 ?hg (N := 65) ?hd (xs := ([] : List Int)) (inner := []) (ok := fun _ => True) (okp := fun _ => True) ?hr ?hp (fun _ hk => hk) trivial (Below.refl _ _) (Nat.le_refl _) (by simp) ?_; (case hd => rfl); (case hg => rfl); (case hr => first | (go_simp; done) | (go_simp; rfl)); (case hp => exact (Reps.none _ _)); intro v396 w27 ho28 hb hg_ hnew_; clear hg_ hnew_; (first | rw [← Ny395.out] at ho28 | (simp only [Int.reduceToNat] at ho28; rw [← Ny395.out] at ho28)); have n0_ := Aside0.mk (Kd.R_elder' (by (with_reducible repeat (first | apply Kd.R_alloc | apply Kd.R_drewN | apply Kd.R_drew)); exact HO_6.out) (Kd.R_base ho28) hb); have n1_ := Aside0.mk (Kd.R_below (by (with_reducible repeat (first | apply Kd.R_alloc | apply Kd.R_drewN | apply Kd.R_drew)); exact HO_7.out) hb); have n2_ := Aside0.mk (Kd.R_elder' (by (with_reducible repeat (first | apply Kd.R_alloc | apply Kd.R_drewN | apply Kd.R_drew)); exact HO_10.out) (Kd.R_base ho28) hb); have n3_ := Aside0.mk (Kd.R_elder' (by (with_reducible repeat (first | apply Kd.R_alloc | apply Kd.R_drewN | apply Kd.R_drew)); exact HO394.out) (Kd.R_base ho28) hb); have n4_ := Aside0.mk (Kd.R_lower (Kd.R_new' (Kd.R_new' (Kd.R_new' ho28 (Kd.R_lt (by (with_reducible repeat (first | apply Kd.R_alloc | apply Kd.R_drewN | apply Kd.R_drew)); exact HO_6.out))) (Kd.R_lt (by (with_reducible repeat (first | apply Kd.R_alloc | apply Kd.R_drewN | apply Kd.R_drew)); exact HO_10.out))) (Kd.R_lt (by (with_reducible repeat (first | apply Kd.R_alloc | apply Kd.R_drewN | apply Kd.R_drew)); exact HO394.out))) (below_size (by repeat (first | (with_reducible first | exact HB.out | apply below_alloc | apply pw_below_drewN | apply below_drew1) | exact HB.out)))); have n5_ := Aside0.mk (below_step (by repeat (first | (with_reducible first | exact HB.out | apply below_alloc | apply pw_below_drewN | apply below_drew1) | exact HB.out)) hb); clear HO_6; clear HO_7; clear HO_10; clear HO394; clear HB; have HO_6 := n0_; have HO_7 := n1_; have HO_10 := n2_; have HO394 := n3_; have HO397 := n4_; have HB := n5_; clear n0_ n1_ n2_ n3_ n4_ n5_; clear hb ho28))
            go_loopg [16, 17, 18] k3 (fun kq v16 v17 v18 w' => ∃ (x15_4 : List Int) (x16_4 : List Int) (x17_4 : Int) (x18_4 : Int), v17 = .int .i64 x17_4 ∧ v18 = .int .i64 x18_4 ∧ Aside0 (rf_Fill.l3 kq l0 l1 x6_3 x7_3 x8_3 x10_3 (wrap64 ((t373.length : Int) - 1)) x12_2 x14_3 x15_4 x16_4 x17_4 x18_4 = some (r1, r2)) ∧ Aside0 (kq ≤ k3) ∧ Aside0 (Kd.R (Kd.int .i64) 3 w' w.heap.size (fun k_ => some k_ ≠ ((.slice Ao26 x10_3.length co26) : Value).ownBlock ∧ some k_ ≠ (v393 : Value).ownBlock ∧ some k_ ≠ (v16 : Value).ownBlock) (.slice Ao18 x6_3.length co18) x6_3) ∧ Aside0 (Kd.R k44 44 w' w.heap.size (fun _ => True) u7 x7_3) ∧ Aside0 (Kd.R (Kd.int .i64) 3 w' w.heap.size (fun k_ => some k_ ≠ ((.slice Ao18 x6_3.length co18) : Value).ownBlock ∧ some k_ ≠ (v393 : Value).ownBlock ∧ some k_ ≠ (v16 : Value).ownBlock) (.slice Ao26 x10_3.length co26) x10_3) ∧ Aside0 (Kd.R (Kd.int .i64) 3 w' w.heap.size (fun k_ => some k_ ≠ ((.slice Ao18 x6_3.length co18) : Value).ownBlock ∧ some k_ ≠ ((.slice Ao26 x10_3.length co26) : Value).ownBlock ∧ some k_ ≠ (v16 : Value).ownBlock) v393 x15_4) ∧ Aside0 (Kd.R (Kd.int .i64) 3 w' w.heap.size (fun k_ => some k_ ≠ ((.slice Ao18 x6_3.length co18) : Value).ownBlock ∧ some k_ ≠ ((.slice Ao26 x10_3.length co26) : Value).ownBlock ∧ some k_ ≠ (v393 : Value).ownBlock) v16 x16_4) ∧ Aside0 (Below w.heap.size w w'))
            case atStart => exact ⟨(y392), (y395), (x14_3), (0), (by first | rfl | (simp; done) | (simp [*]; done)), (by first | rfl | (simp; done) | (simp [*]; done)), H', ⟨Nat.le_refl _⟩, ⟨by (try simp only [hl6_3]); (with_reducible repeat (first | apply Kd.R_alloc | apply Kd.R_drewN | apply Kd.R_drew)); exact Kd.R_mono HO_6.out (fun _ hk => ⟨hk.1.1, ⟨hk.1.2, hk.2⟩⟩)⟩, ⟨by (try simp only [hl6_3]); (with_reducible repeat (first | apply Kd.R_alloc | apply Kd.R_drewN | apply Kd.R_drew)); exact HO_7.out⟩, ⟨by (try simp only [hl6_3]); (with_reducible repeat (first | apply Kd.R_alloc | apply Kd.R_drewN | apply Kd.R_drew)); exact Kd.R_mono HO_10.out (fun _ hk => ⟨hk.1.1, ⟨hk.1.2, hk.2⟩⟩)⟩, ⟨by (try simp only [hl6_3]); (with_reducible repeat (first | apply Kd.R_alloc | apply Kd.R_drewN | apply Kd.R_drew)); exact Kd.R_mono HO394.out (fun _ hk => ⟨hk.1.1, ⟨hk.1.2, hk.2⟩⟩)⟩, ⟨by (try simp only [hl6_3]); (with_reducible repeat (first | apply Kd.R_alloc | apply Kd.R_drewN | apply Kd.R_drew)); exact Kd.R_mono HO397.out (fun _ hk => ⟨hk.1.1.2, ⟨hk.1.2, hk.2⟩⟩)⟩, ⟨by repeat (first | (with_reducible first | exact HB.out | apply below_alloc | apply pw_below_drewN | apply below_drew1) | exact HB.out)⟩⟩
            case round =>
             clear H'; try clear c1
             try clear c2
             try clear p2
             try clear c3
             try clear c4
             try clear p6
             try clear c7
             try clear c7b0
             try clear c8
             try clear c11
             try clear c11b0
             try clear c11b1
             try clear c11b2
             try clear c20
             try clear c20b0
             try clear c21
             try clear c21b0
             try clear c22
             try clear c25
             try clear p2
             try clear p6
             obtain ⟨x15_4, x16_4, x17_4, x18_4, rfl, rfl, HA, HK4, HO_6, HO_7, HO_10, HO_15, HO_16, HB⟩ := hrel
             cases gk with
             | zero => exact absurd HA.out (by simp [rf_Fill.l3])
             | succ k4 =>
              have H := HA.out
              clear HA; simp only [rf_Fill.l3] at H
              by_cases c29 : x18_4 < (wrap64 ((t373.length : Int) - 1))
              ·rw [if_pos c29] at H
               have c29b0 : decide (x18_4 < (wrap64 ((t373.length : Int) - 1))) = true := decide_eq_true c29
               (try simp only [hl6_3] at c29b0)
               clear c29
               by_cases c30 : 0 ≤ x18_4
               ·rw [if_pos c30] at H
                have c30b0 : decide (0 ≤ x18_4) = true := decide_eq_true c30
                clear c30
                by_cases c31 : x18_4 < (x6_3.length : Int)
                ·rw [if_pos c31] at H
                 have c31b0 : decide (x18_4 < (x6_3.length : Int)) = true := decide_eq_true c31
                 clear c31
                 by_cases c32 : 0 ≤ (rd x6_3 x18_4)
                 ·rw [if_pos c32] at H
                  have c32b0 : decide (0 ≤ (rd x6_3 x18_4)) = true := decide_eq_true c32
                  clear c32
                  by_cases c33 : (rd x6_3 x18_4) < (l0.length : Int)
                  ·rw [if_pos c33] at H
                   have c33b0 : decide ((rd x6_3 x18_4) < (l0.length : Int)) = true := decide_eq_true c33
                   clear c33
                   by_cases c34 : 0 ≤ ((rd_T101 l0 (rd x6_3 x18_4)).f0)
                   ·rw [if_pos c34] at H
                    have c34b0 : decide (0 ≤ ((rd_T101 l0 (rd x6_3 x18_4)).f0)) = true := decide_eq_true c34
                    clear c34
                    by_cases c35 : ((rd_T101 l0 (rd x6_3 x18_4)).f0) < (x15_4.length : Int)
                    ·rw [if_pos c35] at H
                     have c35b0 : decide (((rd_T101 l0 (rd x6_3 x18_4)).f0) < (x15_4.length : Int)) = true := decide_eq_true c35
                     clear c35; obtain ⟨y402, hy402⟩ : ∃ y_ : List Int, y_ = (x15_4.set (((rd_T101 l0 (rd x6_3 x18_4)).f0) : Int).toNat (wrap64 ((rd x15_4 ((rd_T101 l0 (rd x6_3 x18_4)).f0)) - (Int.tmod x17_4 101)))) := ⟨_, rfl⟩
                     replace H : (if 0 ≤ ((rd_T101 l0 (rd x6_3 x18_4)).f1) then (if ((rd_T101 l0 (rd x6_3 x18_4)).f1) < (x15_4.length : Int) then (if x16_4.length < 17592186044416 then (rf_Fill.l3 k4 l0 l1 x6_3 x7_3 x8_3 x10_3 (wrap64 ((t373.length : Int) - 1)) x12_2 x14_3 (y402.set (((rd_T101 l0 (rd x6_3 x18_4)).f1) : Int).toNat (wrap64 ((rd y402 ((rd_T101 l0 (rd x6_3 x18_4)).f1)) + (Int.tmod x17_4 101)))) (x16_4 ++ [Int.tmod x17_4 101]) (wrap64 (Int.tdiv x17_4 101)) (wrap64 (x18_4 + 1))) else (none)) else (none)) else (none)) = some (r1, r2) := by first | (rw [hy402]; with_reducible exact H) | (have H2_ := (Option.bind_some _ _).symm.trans H; rw [hy402]; with_reducible exact H2_) | (have H2_ := (Option.bind_some _ _).symm.trans H; with_reducible exact H2_) | with_reducible exact H | (rw [hy402]; exact H) | exact H
                     have Ny402 := Aside0.mk hy402
                     clear hy402
                     by_cases c37 : 0 ≤ ((rd_T101 l0 (rd x6_3 x18_4)).f1)
                     ·rw [if_pos c37] at H
                      have c37b0 : decide (0 ≤ ((rd_T101 l0 (rd x6_3 x18_4)).f1)) = true := decide_eq_true c37
                      clear c37
                      by_cases c38 : ((rd_T101 l0 (rd x6_3 x18_4)).f1) < (x15_4.length : Int)
                      ·rw [if_pos c38] at H
                       have c38b0 : decide (((rd_T101 l0 (rd x6_3 x18_4)).f1) < (x15_4.length : Int)) = true := decide_eq_true c38
                       clear c38; obtain ⟨y404, hy404⟩ : ∃ y_ : List Int, y_ = (y402.set (((rd_T101 l0 (rd x6_3 x18_4)).f1) : Int).toNat (wrap64 ((rd y402 ((rd_T101 l0 (rd x6_3 x18_4)).f1)) + (Int.tmod x17_4 101)))) := ⟨_, rfl⟩
                       replace H : (if x16_4.length < 17592186044416 then (rf_Fill.l3 k4 l0 l1 x6_3 x7_3 x8_3 x10_3 (wrap64 ((t373.length : Int) - 1)) x12_2 x14_3 y404 (x16_4 ++ [Int.tmod x17_4 101]) (wrap64 (Int.tdiv x17_4 101)) (wrap64 (x18_4 + 1))) else (none)) = some (r1, r2) := by first | (rw [hy404]; with_reducible exact H) | (have H2_ := (Option.bind_some _ _).symm.trans H; rw [hy404]; with_reducible exact H2_) | (have H2_ := (Option.bind_some _ _).symm.trans H; with_reducible exact H2_) | with_reducible exact H | (rw [hy404]; exact H) | exact H
                       have Ny404 := Aside0.mk hy404
                       clear hy404
                       by_cases c40 : x16_4.length < 17592186044416
                       ·rw [if_pos c40] at H
                        have LMc40 := Aside0.mk c40
                        clear c40; obtain ⟨y405, hy405⟩ : ∃ y_ : List Int, y_ = (x16_4 ++ [Int.tmod x17_4 101]) := ⟨_, rfl⟩
                        replace H : (rf_Fill.l3 k4 l0 l1 x6_3 x7_3 x8_3 x10_3 (wrap64 ((t373.length : Int) - 1)) x12_2 x14_3 y404 y405 (wrap64 (Int.tdiv x17_4 101)) (wrap64 (x18_4 + 1))) = some (r1, r2) := by first | (rw [hy405]; with_reducible exact H) | (have H2_ := (Option.bind_some _ _).symm.trans H; rw [hy405]; with_reducible exact H2_) | (have H2_ := (Option.bind_some _ _).symm.trans H; with_reducible exact H2_) | with_reducible exact H | (rw [hy405]; exact H) | exact H
                        have Ny405 := Aside0.mk hy405
                        clear hy405; have H' := Aside0.mk H
                        clear H; have p398 : 0 ≤ (x18_4 : Int) := of_decide_eq_true (by first | (with_reducible assumption) | assumption)
                        have q398 : x18_4 < (x6_3.length : Int) := of_decide_eq_true (by first | (with_reducible assumption) | assumption)
                        obtain ⟨ad398, e398, hx398_0⟩ := Kd.at_int (Kd.R_reads' HO_6.out).2.2 x18_4 p398 q398
                        cases e398
                        replace p398 := eq_true p398
                        replace q398 := eq_true q398
                        have p399 : 0 ≤ ((rd x6_3 x18_4) : Int) := of_decide_eq_true (by first | (with_reducible assumption) | assumption)
                        have q399 : (rd x6_3 x18_4) < (l0.length : Int) := of_decide_eq_true (by first | (with_reducible assumption) | assumption)
                        obtain ⟨ad399, e399, hx399_0, hx399_1, hx399_2⟩ := at_T101 HR0.out (rd x6_3 x18_4) p399 q399
                        cases e399
                        replace hx399_0 := (HB.out.cell (World.block_lt_of_cell? w _ hx399_0)).trans hx399_0
                        replace hx399_1 := (HB.out.cell (World.block_lt_of_cell? w _ hx399_1)).trans hx399_1
                        replace hx399_2 := (HB.out.cell (World.block_lt_of_cell? w _ hx399_2)).trans hx399_2
                        replace p399 := eq_true p399
                        replace q399 := eq_true q399
                        go_wp2_with (first | ((with_reducible refine gate_dst (N := 19) rfl ?_); refine box_event ?hg (N := 19) ?hd (cs := #[.int .i64 0, .int .i64 0, .int .i64 0]) (t := 101) ?hr ?_; (case hd => rfl); (case hg => rfl); (case hr => first | (go_simp; done) | (go_simp; rfl)); intro gb400 hg w41 hbox hb; have n0_ := Aside0.mk (Kd.R_below (by (with_reducible repeat (first | apply Kd.R_alloc | apply Kd.R_drewN | apply Kd.R_drew)); exact HO_6.out) hb); have n1_ := Aside0.mk (Kd.R_below (by (with_reducible repeat (first | apply Kd.R_alloc | apply Kd.R_drewN | apply Kd.R_drew)); exact HO_7.out) hb); have n2_ := Aside0.mk (Kd.R_below (by (with_reducible repeat (first | apply Kd.R_alloc | apply Kd.R_drewN | apply Kd.R_drew)); exact HO_10.out) hb); have n3_ := Aside0.mk (Kd.R_below (by (with_reducible repeat (first | apply Kd.R_alloc | apply Kd.R_drewN | apply Kd.R_drew)); exact HO_15.out) hb); have n4_ := Aside0.mk (Kd.R_below (by (with_reducible repeat (first | apply Kd.R_alloc | apply Kd.R_drewN | apply Kd.R_drew)); exact HO_16.out) hb); have n5_ := Aside0.mk (below_step (by repeat (first | (with_reducible first | exact HB.out | apply below_alloc | apply pw_below_drewN | apply below_drew1) | exact HB.out)) hb); have n6_ := Aside0.mk (hbox); have n7_ := Aside0.mk ((by rw [hg]; exact (below_size (by repeat (first | (with_reducible first | exact HB.out | apply below_alloc | apply pw_below_drewN | apply below_drew1) | exact HB.out))) : w.heap.size ≤ gb400)); have n8_ := Aside0.mk ((by rw [hg]; exact (below_size (by repeat (first | (with_reducible first | exact HB.out | apply below_alloc | apply pw_below_drewN | apply below_drew1) | exact HB.out))) : w.heap.size ≤ gb400)); clear HO_6; clear HO_7; clear HO_10; clear HO_15; clear HO_16; clear HB; have HO_6 := n0_; have HO_7 := n1_; have HO_10 := n2_; have HO_15 := n3_; have HO_16 := n4_; have HB := n5_; have BK400 := n6_; have GW400 := n7_; have GE400 := n8_; clear n0_ n1_ n2_ n3_ n4_ n5_ n6_ n7_ n8_; clear hb hbox hg; have hcz42_0 : w41.cell? ⟨gb400, 0, none⟩ = some (.int .i64 0) := (blk_cell BK400.out 0).trans rfl; have hcz42_1 : w41.cell? ⟨gb400, 1, none⟩ = some (.int .i64 0) := (blk_cell BK400.out 1).trans rfl; have hcz42_2 : w41.cell? ⟨gb400, 2, none⟩ = some (.int .i64 0) := (blk_cell BK400.out 2).trans rfl; have hfz42_0 := blk_frozen BK400.out 0; have hfz42_1 := blk_frozen BK400.out 1; have hfz42_2 := blk_frozen BK400.out 2) | ((with_reducible refine gate_store (t := 101) (p := 19) rfl ?_); refine store_event (t := 101) (p := 19) (v := ?vo_w43) (w1 := (((w41.setCell ⟨gb400, 0, none⟩ (.int .i64 ((rd_T101 l0 (rd x6_3 x18_4)).f0))).setCell ⟨gb400, 1, none⟩ (.int .i64 ((rd_T101 l0 (rd x6_3 x18_4)).f1))).setCell ⟨gb400, 2, none⟩ (.int .i64 ((rd_T101 l0 (rd x6_3 x18_4)).f2)))) ?hg ?ho ?hn ?hr ?_; (case ho => rfl); (case hg => rfl); (case hn => rfl); (case hr => first | (go_simp; done) | (go_simp; rfl)); intro w43 hw; have n0_ : Aside0 (Kd.R (Kd.int .i64) 3 w43 w.heap.size (fun k_ => some k_ ≠ (.slice Ao26 x10_3.length co26 : Value).ownBlock ∧ some k_ ≠ (v393 : Value).ownBlock ∧ some k_ ≠ (u16 : Value).ownBlock) (.slice (some ad398) x6_3.length co18) x6_3) := ⟨(by rw [hw]; exact (by (with_reducible repeat (first | apply Kd.R_alloc | apply Kd.R_drewN | apply Kd.R_drew)); exact Kd.R_mono (Kd.R_far (p := ⟨gb400, 2, none⟩) (Kd.R_far (p := ⟨gb400, 1, none⟩) (Kd.R_far (p := ⟨gb400, 0, none⟩) (Kd.R_types HO_6.out BK400.out (by decide)) (fun _ hk => hk.2) (.int .i64 ((rd_T101 l0 (rd x6_3 x18_4)).f0))) (fun _ hk => hk.2) (.int .i64 ((rd_T101 l0 (rd x6_3 x18_4)).f1))) (fun _ hk => hk.2) (.int .i64 ((rd_T101 l0 (rd x6_3 x18_4)).f2))) (fun _ hk => ⟨hk.1.1, ⟨hk.1.2.1, hk.1.2.2⟩⟩)))⟩; have n1_ : Aside0 (Kd.R k44 44 w43 w.heap.size (fun _ => True) u7 x7_3) := ⟨(by rw [hw]; exact (by (with_reducible repeat (first | apply Kd.R_alloc | apply Kd.R_drewN | apply Kd.R_drew)); exact Kd.R_mono (Kd.R_far (p := ⟨gb400, 2, none⟩) (Kd.R_far (p := ⟨gb400, 1, none⟩) (Kd.R_far (p := ⟨gb400, 0, none⟩) (Kd.R_types HO_7.out BK400.out (by decide)) (fun _ hk => hk.2) (.int .i64 ((rd_T101 l0 (rd x6_3 x18_4)).f0))) (fun _ hk => hk.2) (.int .i64 ((rd_T101 l0 (rd x6_3 x18_4)).f1))) (fun _ hk => hk.2) (.int .i64 ((rd_T101 l0 (rd x6_3 x18_4)).f2))) (fun _ hk => trivial)))⟩; have n2_ : Aside0 (Kd.R (Kd.int .i64) 3 w43 w.heap.size (fun k_ => some k_ ≠ (.slice (some ad398) x6_3.length co18 : Value).ownBlock ∧ some k_ ≠ (v393 : Value).ownBlock ∧ some k_ ≠ (u16 : Value).ownBlock) (.slice Ao26 x10_3.length co26) x10_3) := ⟨(by rw [hw]; exact (by (with_reducible repeat (first | apply Kd.R_alloc | apply Kd.R_drewN | apply Kd.R_drew)); exact Kd.R_mono (Kd.R_far (p := ⟨gb400, 2, none⟩) (Kd.R_far (p := ⟨gb400, 1, none⟩) (Kd.R_far (p := ⟨gb400, 0, none⟩) (Kd.R_types HO_10.out BK400.out (by decide)) (fun _ hk => hk.2) (.int .i64 ((rd_T101 l0 (rd x6_3 x18_4)).f0))) (fun _ hk => hk.2) (.int .i64 ((rd_T101 l0 (rd x6_3 x18_4)).f1))) (fun _ hk => hk.2) (.int .i64 ((rd_T101 l0 (rd x6_3 x18_4)).f2))) (fun _ hk => ⟨hk.1.1, ⟨hk.1.2.1, hk.1.2.2⟩⟩)))⟩; have n3_ : Aside0 (Kd.R (Kd.int .i64) 3 w43 w.heap.size (fun k_ => some k_ ≠ (.slice (some ad398) x6_3.length co18 : Value).ownBlock ∧ some k_ ≠ (.slice Ao26 x10_3.length co26 : Value).ownBlock ∧ some k_ ≠ (u16 : Value).ownBlock) v393 x15_4) := ⟨(by rw [hw]; exact (by (with_reducible repeat (first | apply Kd.R_alloc | apply Kd.R_drewN | apply Kd.R_drew)); exact Kd.R_mono (Kd.R_far (p := ⟨gb400, 2, none⟩) (Kd.R_far (p := ⟨gb400, 1, none⟩) (Kd.R_far (p := ⟨gb400, 0, none⟩) (Kd.R_types HO_15.out BK400.out (by decide)) (fun _ hk => hk.2) (.int .i64 ((rd_T101 l0 (rd x6_3 x18_4)).f0))) (fun _ hk => hk.2) (.int .i64 ((rd_T101 l0 (rd x6_3 x18_4)).f1))) (fun _ hk => hk.2) (.int .i64 ((rd_T101 l0 (rd x6_3 x18_4)).f2))) (fun _ hk => ⟨hk.1.1, ⟨hk.1.2.1, hk.1.2.2⟩⟩)))⟩; have n4_ : Aside0 (Kd.R (Kd.int .i64) 3 w43 w.heap.size (fun k_ => some k_ ≠ (.slice (some ad398) x6_3.length co18 : Value).ownBlock ∧ some k_ ≠ (.slice Ao26 x10_3.length co26 : Value).ownBlock ∧ some k_ ≠ (v393 : Value).ownBlock) u16 x16_4) := ⟨(by rw [hw]; exact (by (with_reducible repeat (first | apply Kd.R_alloc | apply Kd.R_drewN | apply Kd.R_drew)); exact Kd.R_mono (Kd.R_far (p := ⟨gb400, 2, none⟩) (Kd.R_far (p := ⟨gb400, 1, none⟩) (Kd.R_far (p := ⟨gb400, 0, none⟩) (Kd.R_types HO_16.out BK400.out (by decide)) (fun _ hk => hk.2) (.int .i64 ((rd_T101 l0 (rd x6_3 x18_4)).f0))) (fun _ hk => hk.2) (.int .i64 ((rd_T101 l0 (rd x6_3 x18_4)).f1))) (fun _ hk => hk.2) (.int .i64 ((rd_T101 l0 (rd x6_3 x18_4)).f2))) (fun _ hk => ⟨hk.1.1, ⟨hk.1.2.1, hk.1.2.2⟩⟩)))⟩; have n5_ : Aside0 (w43.heap[gb400]? = some (.cells #[.int .i64 ((rd_T101 l0 (rd x6_3 x18_4)).f0), .int .i64 ((rd_T101 l0 (rd x6_3 x18_4)).f1), .int .i64 ((rd_T101 l0 (rd x6_3 x18_4)).f2)] 101 (0, 0))) := ⟨(by rw [hw]; exact (by (with_reducible repeat (first | refine blk_drewN ?_ _ | refine blk_drew ?_ | refine blk_alloc ?_ _)); refine blk_put (cs := #[.int .i64 ((rd_T101 l0 (rd x6_3 x18_4)).f0), .int .i64 ((rd_T101 l0 (rd x6_3 x18_4)).f1), .int .i64 0]) ?_ 2 _ rfl; (with_reducible repeat (first | refine blk_drewN ?_ _ | refine blk_drew ?_ | refine blk_alloc ?_ _)); refine blk_put (cs := #[.int .i64 ((rd_T101 l0 (rd x6_3 x18_4)).f0), .int .i64 0, .int .i64 0]) ?_ 1 _ rfl; (with_reducible repeat (first | refine blk_drewN ?_ _ | refine blk_drew ?_ | refine blk_alloc ?_ _)); refine blk_put (cs := #[.int .i64 0, .int .i64 0, .int .i64 0]) ?_ 0 _ rfl; (with_reducible repeat (first | refine blk_drewN ?_ _ | refine blk_drew ?_ | refine blk_alloc ?_ _)); exact BK400.out))⟩; have n6_ : Aside0 (Below w.heap.size w w43) := ⟨(by rw [hw]; exact (by repeat (first | (with_reducible first | exact HB.out | apply below_alloc | apply pw_below_drewN | apply below_drew1 | refine below_set ?_ GE400.out) | exact HB.out)))⟩; clear hw; clear HO_6; clear HO_7; clear HO_10; clear HO_15; clear HO_16; clear BK400; clear HB; have HO_6 := n0_; have HO_7 := n1_; have HO_10 := n2_; have HO_15 := n3_; have HO_16 := n4_; have BK400 := n5_; have HB := n6_; clear n0_ n1_ n2_ n3_ n4_ n5_ n6_; have hcz44_0 : w43.cell? ⟨gb400, 0, none⟩ = some (.int .i64 ((rd_T101 l0 (rd x6_3 x18_4)).f0)) := (blk_cell BK400.out 0).trans rfl; have hcz44_1 : w43.cell? ⟨gb400, 1, none⟩ = some (.int .i64 ((rd_T101 l0 (rd x6_3 x18_4)).f1)) := (blk_cell BK400.out 1).trans rfl; have hcz44_2 : w43.cell? ⟨gb400, 2, none⟩ = some (.int .i64 ((rd_T101 l0 (rd x6_3 x18_4)).f2)) := (blk_cell BK400.out 2).trans rfl; have hfz44_0 := blk_frozen BK400.out 0; have hfz44_1 := blk_frozen BK400.out 1; have hfz44_2 := blk_frozen BK400.out 2; obtain ⟨Ao45, co45, eo45⟩ := Kd.R_slice HO_15.out; subst eo45; have p401 : 0 ≤ (((rd_T101 l0 (rd x6_3 x18_4)).f0) : Int) := of_decide_eq_true (by first | (with_reducible assumption) | assumption); have q401 : ((rd_T101 l0 (rd x6_3 x18_4)).f0) < (x15_4.length : Int) := of_decide_eq_true (by first | (with_reducible assumption) | assumption); obtain ⟨ad401, e401, hx401_0⟩ := Kd.at_int (Kd.R_reads' HO_15.out).2.2 ((rd_T101 l0 (rd x6_3 x18_4)).f0) p401 q401; cases e401; replace p401 := eq_true p401; replace q401 := eq_true q401; have p36 : 0 ≤ (((rd_T101 l0 (rd x6_3 x18_4)).f0) : Int) := of_decide_eq_true (by first | (with_reducible assumption) | assumption); have q36 : (((rd_T101 l0 (rd x6_3 x18_4)).f0) : Int) < ((x15_4.length : Int) : Int) := of_decide_eq_true (by first | (with_reducible assumption) | assumption); obtain ⟨go36, co36, eo36, gb36, gl36, cl36, HG36⟩ := Kd.R_form HO_15.out (by omega); (first | cases eo36 | (injection eo36 with ea_ en_ ec_; (first | subst ea_ | (injection ea_ with ea_; subst ea_)); subst ec_; clear en_)); have GB36 := Aside0.mk gb36; have GG36 := Aside0.mk HG36; clear gb36 gl36 HG36; (first | simp only [add_plain] at hx401_0 | skip); obtain ⟨hx36_0, hf36_0⟩ := Kd.R_celln 0 HO_15.out (((rd_T101 l0 (rd x6_3 x18_4)).f0) : Int) p36 q36; replace p36 := eq_true p36; replace q36 := eq_true q36; obtain ⟨hy46_, hz46_⟩ := Kd.R_celln 0 HO_15.out (((rd_T101 l0 (rd x6_3 x18_4)).f0) : Int) (of_decide_eq_true (by first | (with_reducible assumption) | assumption)) (of_decide_eq_true (by first | (with_reducible assumption) | assumption)); have HP46 := Kd.R_putg HO_15.out (((rd_T101 l0 (rd x6_3 x18_4)).f0) : Int) (wrap64 ((rd x15_4 ((rd_T101 l0 (rd x6_3 x18_4)).f0)) - (Int.tmod x17_4 101)))) | ((with_reducible refine gate_store (t := 3) (p := 90) rfl ?_); refine store_event (t := 3) (p := 90) (v := ?vo_w47) (w1 := (w43.setCell ⟨go36, (((rd_T101 l0 (rd x6_3 x18_4)).f0) : Int).toNat, none⟩ (.int .i64 (wrap64 ((rd x15_4 ((rd_T101 l0 (rd x6_3 x18_4)).f0)) - (Int.tmod x17_4 101)))))) ?hg ?ho ?hn ?hr ?_; (case ho => rfl); (case hg => rfl); (case hn => rfl); (case hr => first | (go_simp; done) | (go_simp; rfl)); intro w47 hw; have hg : w43.grownBy w47 (some go36) := (by rw [hw]; exact HP46.2); have hp_ : Kd.R (Kd.int .i64) 3 w47 w.heap.size (fun k_ => some k_ ≠ (.slice (some ad398) x6_3.length co18 : Value).ownBlock ∧ some k_ ≠ (.slice Ao26 x10_3.length co26 : Value).ownBlock ∧ some k_ ≠ (u16 : Value).ownBlock) (.slice (some ⟨go36, 0, none⟩) x15_4.length co45) y402 := (by rw [hw, Ny402.out]; exact HP46.1); clear HP46; have n0_ := Aside0.mk (Kd.R_after (v := (.slice (some ⟨go36, 0, none⟩) x15_4.length co45)) (v1 := (.slice (some ⟨go36, 0, none⟩) x15_4.length co45)) (ok := (fun k_ => some k_ ≠ (.slice Ao26 x10_3.length co26 : Value).ownBlock ∧ some k_ ≠ (u16 : Value).ownBlock)) (by (with_reducible repeat (first | apply Kd.R_alloc | apply Kd.R_drewN | apply Kd.R_drew)); exact Kd.R_mono HO_6.out (fun _ hk => ⟨⟨hk.1, hk.2.2⟩, hk.2.1⟩)) hg (.inl rfl)); have n1_ := Aside0.mk (Kd.R_over' (v := (.slice (some ⟨go36, 0, none⟩) x15_4.length co45)) (by (with_reducible repeat (first | apply Kd.R_alloc | apply Kd.R_drewN | apply Kd.R_drew)); exact HO_7.out) (Kd.R_typed HO_15.out) (by decide) hg); have n2_ := Aside0.mk (Kd.R_after (v := (.slice (some ⟨go36, 0, none⟩) x15_4.length co45)) (v1 := (.slice (some ⟨go36, 0, none⟩) x15_4.length co45)) (ok := (fun k_ => some k_ ≠ (.slice (some ad398) x6_3.length co18 : Value).ownBlock ∧ some k_ ≠ (u16 : Value).ownBlock)) (by (with_reducible repeat (first | apply Kd.R_alloc | apply Kd.R_drewN | apply Kd.R_drew)); exact Kd.R_mono HO_10.out (fun _ hk => ⟨⟨hk.1, hk.2.2⟩, hk.2.1⟩)) hg (.inl rfl)); have n3_ := Aside0.mk (hp_); have n4_ := Aside0.mk (Kd.R_after (v := (.slice (some ⟨go36, 0, none⟩) x15_4.length co45)) (v1 := (.slice (some ⟨go36, 0, none⟩) x15_4.length co45)) (ok := (fun k_ => some k_ ≠ (.slice (some ad398) x6_3.length co18 : Value).ownBlock ∧ some k_ ≠ (.slice Ao26 x10_3.length co26 : Value).ownBlock)) (by (with_reducible repeat (first | apply Kd.R_alloc | apply Kd.R_drewN | apply Kd.R_drew)); exact Kd.R_mono HO_16.out (fun _ hk => ⟨⟨hk.1, hk.2.1⟩, hk.2.2⟩)) hg (.inl rfl)); have n5_ := Aside0.mk (blk_grown (g := gb400) (o := .cells #[.int .i64 ((rd_T101 l0 (rd x6_3 x18_4)).f0), .int .i64 ((rd_T101 l0 (rd x6_3 x18_4)).f1), .int .i64 ((rd_T101 l0 (rd x6_3 x18_4)).f2)] 101 (0, 0)) (by (with_reducible repeat (first | refine blk_drewN ?_ _ | refine blk_drew ?_ | refine blk_alloc ?_ _)); exact BK400.out) hg (Kd.R_ne HO_15.out BK400.out (by decide))); have n6_ := Aside0.mk ((by rw [hw]; exact below_set (HB.out) GB36.out : Below w.heap.size w w47)); clear HO_6; clear HO_7; clear HO_10; clear HO_15; clear HO_16; clear BK400; clear HB; have HO_6 := n0_; have HO_7 := n1_; have HO_10 := n2_; have HO_15 := n3_; have HO_16 := n4_; have BK400 := n5_; have HB := n6_; clear n0_ n1_ n2_ n3_ n4_ n5_ n6_; clear hg hw hp_; have hcz48_0 : w47.cell? ⟨gb400, 0, none⟩ = some (.int .i64 ((rd_T101 l0 (rd x6_3 x18_4)).f0)) := (blk_cell BK400.out 0).trans rfl; have hcz48_1 : w47.cell? ⟨gb400, 1, none⟩ = some (.int .i64 ((rd_T101 l0 (rd x6_3 x18_4)).f1)) := (blk_cell BK400.out 1).trans rfl; have hcz48_2 : w47.cell? ⟨gb400, 2, none⟩ = some (.int .i64 ((rd_T101 l0 (rd x6_3 x18_4)).f2)) := (blk_cell BK400.out 2).trans rfl; have hfz48_0 := blk_frozen BK400.out 0; have hfz48_1 := blk_frozen BK400.out 1; have hfz48_2 := blk_frozen BK400.out 2; have p403 : 0 ≤ (((rd_T101 l0 (rd x6_3 x18_4)).f1) : Int) := of_decide_eq_true (by first | (with_reducible assumption) | assumption); have q403 : ((rd_T101 l0 (rd x6_3 x18_4)).f1) < (y402.length : Int) := (by have h_ : (((rd_T101 l0 (rd x6_3 x18_4)).f1) : Int) < ((x15_4.length : Int) : Int) := of_decide_eq_true (by first | (with_reducible assumption) | assumption); first | (have e_ := (Kd.R_reads' HO_15.out).1; omega) | simpa only [Ny402.out, List.length_set] using h_); have ql403 : ((((rd_T101 l0 (rd x6_3 x18_4)).f1) : Int) < ((x15_4.length : Int) : Int)) = True := eq_true (of_decide_eq_true (by first | (with_reducible assumption) | assumption)); obtain ⟨ad403, e403, hx403_0⟩ := Kd.at_int (Kd.R_reads' HO_15.out).2.2 ((rd_T101 l0 (rd x6_3 x18_4)).f1) p403 q403; obtain rfl : (⟨go36, 0, none⟩ : Addr) = ad403 := (by injection e403); (first | simp only [add_plain] at hx403_0 | simp only [add_at] at hx403_0 | simp only [Addr.add, Nat.zero_add] at hx403_0 | skip); replace p403 := eq_true p403; replace q403 := eq_true q403; have p39 : 0 ≤ (((rd_T101 l0 (rd x6_3 x18_4)).f1) : Int) := of_decide_eq_true (by first | (with_reducible assumption) | assumption); have q39 : (((rd_T101 l0 (rd x6_3 x18_4)).f1) : Int) < ((x15_4.length : Int) : Int) := of_decide_eq_true (by first | (with_reducible assumption) | assumption); obtain ⟨hx39_0, hf39_0⟩ := Kd.R_celln 0 HO_15.out (((rd_T101 l0 (rd x6_3 x18_4)).f1) : Int) p39 q39; replace p39 := eq_true p39; replace q39 := eq_true q39; obtain ⟨hy49_, hz49_⟩ := Kd.R_celln 0 HO_15.out (((rd_T101 l0 (rd x6_3 x18_4)).f1) : Int) (of_decide_eq_true (by first | (with_reducible assumption) | assumption)) (of_decide_eq_true (by first | (with_reducible assumption) | assumption)); have HP49 := Kd.R_putg HO_15.out (((rd_T101 l0 (rd x6_3 x18_4)).f1) : Int) (wrap64 ((rd y402 ((rd_T101 l0 (rd x6_3 x18_4)).f1)) + (Int.tmod x17_4 101)))) | ((with_reducible refine gate_store (t := 3) (p := 98) rfl ?_); refine store_event (t := 3) (p := 98) (v := ?vo_w50) (w1 := (w47.setCell ⟨go36, (((rd_T101 l0 (rd x6_3 x18_4)).f1) : Int).toNat, none⟩ (.int .i64 (wrap64 ((rd y402 ((rd_T101 l0 (rd x6_3 x18_4)).f1)) + (Int.tmod x17_4 101)))))) ?hg ?ho ?hn ?hr ?_; (case ho => rfl); (case hg => rfl); (case hn => rfl); (case hr => first | (go_simp; done) | (go_simp; rfl)); intro w50 hw; have hg : w47.grownBy w50 (some go36) := (by rw [hw]; exact HP49.2); have hp_ : Kd.R (Kd.int .i64) 3 w50 w.heap.size (fun k_ => some k_ ≠ (.slice (some ad398) x6_3.length co18 : Value).ownBlock ∧ some k_ ≠ (.slice Ao26 x10_3.length co26 : Value).ownBlock ∧ some k_ ≠ (u16 : Value).ownBlock) (.slice (some ⟨go36, 0, none⟩) x15_4.length co45) y404 := (by rw [hw, Ny404.out]; exact HP49.1); clear HP49; have n0_ := Aside0.mk (Kd.R_after (v := (.slice (some ⟨go36, 0, none⟩) x15_4.length co45)) (v1 := (.slice (some ⟨go36, 0, none⟩) x15_4.length co45)) (ok := (fun k_ => some k_ ≠ (.slice Ao26 x10_3.length co26 : Value).ownBlock ∧ some k_ ≠ (u16 : Value).ownBlock)) (by (with_reducible repeat (first | apply Kd.R_alloc | apply Kd.R_drewN | apply Kd.R_drew)); exact HO_6.out) hg (.inl rfl)); have n1_ := Aside0.mk (Kd.R_over' (v := (.slice (some ⟨go36, 0, none⟩) x15_4.length co45)) (by (with_reducible repeat (first | apply Kd.R_alloc | apply Kd.R_drewN | apply Kd.R_drew)); exact HO_7.out) (Kd.R_typed HO_15.out) (by decide) hg); have n2_ := Aside0.mk (Kd.R_after (v := (.slice (some ⟨go36, 0, none⟩) x15_4.length co45)) (v1 := (.slice (some ⟨go36, 0, none⟩) x15_4.length co45)) (ok := (fun k_ => some k_ ≠ (.slice (some ad398) x6_3.length co18 : Value).ownBlock ∧ some k_ ≠ (u16 : Value).ownBlock)) (by (with_reducible repeat (first | apply Kd.R_alloc | apply Kd.R_drewN | apply Kd.R_drew)); exact HO_10.out) hg (.inl rfl)); have n3_ := Aside0.mk (hp_); have n4_ := Aside0.mk (Kd.R_after (v := (.slice (some ⟨go36, 0, none⟩) x15_4.length co45)) (v1 := (.slice (some ⟨go36, 0, none⟩) x15_4.length co45)) (ok := (fun k_ => some k_ ≠ (.slice (some ad398) x6_3.length co18 : Value).ownBlock ∧ some k_ ≠ (.slice Ao26 x10_3.length co26 : Value).ownBlock)) (by (with_reducible repeat (first | apply Kd.R_alloc | apply Kd.R_drewN | apply Kd.R_drew)); exact HO_16.out) hg (.inl rfl)); have n5_ := Aside0.mk (blk_grown (g := gb400) (o := .cells #[.int .i64 ((rd_T101 l0 (rd x6_3 x18_4)).f0), .int .i64 ((rd_T101 l0 (rd x6_3 x18_4)).f1), .int .i64 ((rd_T101 l0 (rd x6_3 x18_4)).f2)] 101 (0, 0)) (by (with_reducible repeat (first | refine blk_drewN ?_ _ | refine blk_drew ?_ | refine blk_alloc ?_ _)); exact BK400.out) hg (Kd.R_ne HO_15.out BK400.out (by decide))); have n6_ := Aside0.mk ((by rw [hw]; exact below_set (HB.out) GB36.out : Below w.heap.size w w50)); clear HO_6; clear HO_7; clear HO_10; clear HO_15; clear HO_16; clear BK400; clear HB; have HO_6 := n0_; have HO_7 := n1_; have HO_10 := n2_; have HO_15 := n3_; have HO_16 := n4_; have BK400 := n5_; have HB := n6_; clear n0_ n1_ n2_ n3_ n4_ n5_ n6_; clear hg hw hp_) | ((with_reducible refine gate_builtin (b := .append) (xs := #[.tmp 99, .tmp 101]) rfl ?_); at_builtin; refine Kd.R_append (Kd.int .i64) (w0 := w) w.heap.size rfl (.tmp 99) (.tmp 101) 35 3 (.int .i64 0) 8 rfl Try.underlying35 info3 rfl (by decide) (by omega) u16 x16_4 (Int.tmod x17_4 101) [.int .i64 (Int.tmod x17_4 101)] (fun k_ => some k_ ≠ (.slice (some ad398) x6_3.length co18 : Value).ownBlock ∧ some k_ ≠ (.slice Ao26 x10_3.length co26 : Value).ownBlock ∧ some k_ ≠ (.slice (some ⟨go36, 0, none⟩) x15_4.length co45 : Value).ownBlock) (fun _ => False) rfl rfl ?aP (fun _ hk => hk.elim) ?aF ?aO ?aB ?aS ?aL ?_; (case aP => exact rfl); (case aB => exact (by repeat (first | (with_reducible first | exact HB.out | apply below_alloc | apply pw_below_drewN | apply below_drew1 | refine below_set ?_ GE400.out) | exact HB.out))); (case aF => exact (fun k_ hk => ⟨Kd.fresh' (Kd.R_lt (by (with_reducible repeat (first | apply Kd.R_alloc | apply Kd.R_drewN | apply Kd.R_drew)); exact HO_6.out)) k_ hk, Kd.fresh' (Kd.R_lt (by (with_reducible repeat (first | apply Kd.R_alloc | apply Kd.R_drewN | apply Kd.R_drew)); exact HO_10.out)) k_ hk, Kd.fresh' (Kd.R_lt (by (with_reducible repeat (first | apply Kd.R_alloc | apply Kd.R_drewN | apply Kd.R_drew)); exact HO_15.out)) k_ hk⟩)); (case aO => exact (by (with_reducible repeat (first | apply Kd.R_alloc | apply Kd.R_drewN | apply Kd.R_drew)); exact Kd.R_mono HO_16.out (fun _ hk => ⟨hk.1.1, ⟨hk.1.2, hk.2⟩⟩))); (case aS => exact (below_size (by repeat (first | (with_reducible first | exact HB.out | apply below_alloc | apply pw_below_drewN | apply below_drew1 | refine below_set ?_ GE400.out) | exact HB.out)))); (case aL => have := LMc40.out; omega); intro v406 w51 ho hb hg hat; rw [← Ny405.out] at ho; have n0_ := Aside0.mk (Kd.R_after (ok := (fun k_ => some k_ ≠ (.slice Ao26 x10_3.length co26 : Value).ownBlock ∧ some k_ ≠ (.slice (some ⟨go36, 0, none⟩) x15_4.length co45 : Value).ownBlock)) (by (with_reducible repeat (first | apply Kd.R_alloc | apply Kd.R_drewN | apply Kd.R_drew)); exact Kd.R_mono HO_6.out (fun _ hk => ⟨⟨hk.1.1, hk.2⟩, hk.1.2⟩)) hg hat); have n1_ := Aside0.mk (Kd.R_over' (by (with_reducible repeat (first | apply Kd.R_alloc | apply Kd.R_drewN | apply Kd.R_drew)); exact HO_7.out) (Kd.R_typed (by (with_reducible repeat (first | apply Kd.R_alloc | apply Kd.R_drewN | apply Kd.R_drew)); exact HO_16.out)) (by decide) hg); have n2_ := Aside0.mk (Kd.R_after (ok := (fun k_ => some k_ ≠ (.slice (some ad398) x6_3.length co18 : Value).ownBlock ∧ some k_ ≠ (.slice (some ⟨go36, 0, none⟩) x15_4.length co45 : Value).ownBlock)) (by (with_reducible repeat (first | apply Kd.R_alloc | apply Kd.R_drewN | apply Kd.R_drew)); exact Kd.R_mono HO_10.out (fun _ hk => ⟨⟨hk.1.1, hk.2⟩, hk.1.2⟩)) hg hat); have n3_ := Aside0.mk (Kd.R_after (ok := (fun k_ => some k_ ≠ (.slice (some ad398) x6_3.length co18 : Value).ownBlock ∧ some k_ ≠ (.slice Ao26 x10_3.length co26 : Value).ownBlock)) (by (with_reducible repeat (first | apply Kd.R_alloc | apply Kd.R_drewN | apply Kd.R_drew)); exact Kd.R_mono HO_15.out (fun _ hk => ⟨⟨hk.1, hk.2.1⟩, hk.2.2⟩)) hg hat); have n4_ := Aside0.mk (blk_grown (g := gb400) (o := .cells #[.int .i64 ((rd_T101 l0 (rd x6_3 x18_4)).f0), .int .i64 ((rd_T101 l0 (rd x6_3 x18_4)).f1), .int .i64 ((rd_T101 l0 (rd x6_3 x18_4)).f2)] 101 (0, 0)) (by (with_reducible repeat (first | refine blk_drewN ?_ _ | refine blk_drew ?_ | refine blk_alloc ?_ _)); exact BK400.out) hg (Kd.R_ne HO_16.out BK400.out (by decide))); have n5_ := Aside0.mk (hb); have n6_ := Aside0.mk (ho); clear HO_6; clear HO_7; clear HO_10; clear HO_15; clear BK400; clear HB; clear HO_16; have HO_6 := n0_; have HO_7 := n1_; have HO_10 := n2_; have HO_15 := n3_; have BK400 := n4_; have HB := n5_; have HO407 := n6_; clear n0_ n1_ n2_ n3_ n4_ n5_ n6_; clear ho hb hg hat))
                        go_roundg k4
                        case measure => have := HK1.out; have := HK2.out; have := HK3.out; have := HK4.out; omega
                        case rel => exact ⟨(y404), (y405), (wrap64 (Int.tdiv x17_4 101)), (wrap64 (x18_4 + 1)), (by first | rfl | (simp; done) | (simp [*]; done)), (by first | rfl | (simp; done) | (simp [*]; done)), H', ⟨by have := HK1.out; have := HK2.out; have := HK3.out; have := HK4.out; omega⟩, ⟨by (try simp only [hl6_3]); (with_reducible repeat (first | apply Kd.R_alloc | apply Kd.R_drewN | apply Kd.R_drew)); exact Kd.R_mono HO_6.out (fun _ hk => ⟨hk.1.1, ⟨hk.1.2, hk.2⟩⟩)⟩, ⟨by (try simp only [hl6_3]); (with_reducible repeat (first | apply Kd.R_alloc | apply Kd.R_drewN | apply Kd.R_drew)); exact HO_7.out⟩, ⟨by (try simp only [hl6_3]); (with_reducible repeat (first | apply Kd.R_alloc | apply Kd.R_drewN | apply Kd.R_drew)); exact Kd.R_mono HO_10.out (fun _ hk => ⟨hk.1.1, ⟨hk.1.2, hk.2⟩⟩)⟩, ⟨by (try simp only [hl6_3]); (with_reducible repeat (first | apply Kd.R_alloc | apply Kd.R_drewN | apply Kd.R_drew)); exact Kd.R_mono HO_15.out (fun _ hk => ⟨hk.1.1, ⟨hk.1.2, hk.2⟩⟩)⟩, ⟨by (try simp only [hl6_3]); (with_reducible repeat (first | apply Kd.R_alloc | apply Kd.R_drewN | apply Kd.R_drew)); exact HO407.out⟩, ⟨by repeat (first | (with_reducible first | exact HB.out | apply below_alloc | apply pw_below_drewN | apply below_drew1 | refine below_set ?_ GE400.out) | exact HB.out)⟩⟩
                       ·rw [if_neg c40] at H
                        exact absurd H (by simp)
                      ·rw [if_neg c38] at H
                       exact absurd H (by simp)
                     ·rw [if_neg c37] at H
                      exact absurd H (by simp)
                    ·rw [if_neg c35] at H
                     exact absurd H (by simp)
                   ·rw [if_neg c34] at H
                    exact absurd H (by simp)
                  ·rw [if_neg c33] at H
                   exact absurd H (by simp)
                 ·rw [if_neg c32] at H
                  exact absurd H (by simp)
                ·rw [if_neg c31] at H
                 exact absurd H (by simp)
               ·rw [if_neg c30] at H
                exact absurd H (by simp)
              ·rw [if_neg c29] at H
               have c29b0 : decide (x18_4 < (wrap64 ((t373.length : Int) - 1))) = false := decide_eq_false c29
               (try simp only [hl6_3] at c29b0)
               clear c29; obtain ⟨ji52, hji52⟩ : ∃ j_ : Int, (wrap64 ((t373.length : Int) - 1)) = j_ := ⟨_, rfl⟩
               replace H : (if 0 ≤ (ji52) then (if (ji52) < (x6_3.length : Int) then (if 0 ≤ (rd x6_3 (ji52)) then (if (rd x6_3 (ji52)) < (l0.length : Int) then (if 0 ≤ ((rd_T101 l0 (rd x6_3 (ji52))).f1) then (if ((rd_T101 l0 (rd x6_3 (ji52))).f1) < (l1.length : Int) then (if ((rd_T101 l0 (rd x6_3 (ji52))).f1) < (x15_4.length : Int) then (if 0 ≤ ((rd_T101 l0 (rd x6_3 (ji52))).f0) then (if ((rd_T101 l0 (rd x6_3 (ji52))).f0) < (x15_4.length : Int) then ((some (x15_4.set (((rd_T101 l0 (rd x6_3 (ji52))).f0) : Int).toNat (wrap64 ((rd x15_4 ((rd_T101 l0 (rd x6_3 (ji52))).f0)) - (wrap64 ((rd l1 ((rd_T101 l0 (rd x6_3 (ji52))).f1)) - (rd x15_4 ((rd_T101 l0 (rd x6_3 (ji52))).f1)))))) : List Int)).bind fun y414 => ((rf_In.f (wrap64 ((rd l1 ((rd_T101 l0 (rd x6_3 (ji52))).f1)) - (rd x15_4 ((rd_T101 l0 (rd x6_3 (ji52))).f1)))) 0 100).bind fun t417 => (if t417 = true then ((rf_Ints.f k4 (y414.set (((rd_T101 l0 (rd x6_3 (ji52))).f1) : Int).toNat (wrap64 ((rd y414 ((rd_T101 l0 (rd x6_3 (ji52))).f1)) + (wrap64 ((rd l1 ((rd_T101 l0 (rd x6_3 (ji52))).f1)) - (rd x15_4 ((rd_T101 l0 (rd x6_3 (ji52))).f1))))))) l1).bind fun t418 => (rf_Fill.j4 k4 l0 l1 x6_3 x7_3 x8_3 x10_3 (ji52) x12_2 x14_3 x16_4 (wrap64 ((rd l1 ((rd_T101 l0 (rd x6_3 (ji52))).f1)) - (rd x15_4 ((rd_T101 l0 (rd x6_3 (ji52))).f1)))) (!t418))) else (rf_Fill.j4 k4 l0 l1 x6_3 x7_3 x8_3 x10_3 (ji52) x12_2 x14_3 x16_4 (wrap64 ((rd l1 ((rd_T101 l0 (rd x6_3 (ji52))).f1)) - (rd x15_4 ((rd_T101 l0 (rd x6_3 (ji52))).f1)))) true)))) else (none)) else (none)) else (none)) else (none)) else (none)) else (none)) else (none)) else (none)) else (none)) = some (r1, r2) := by first | (rw [hji52] at H; exact H) | (simp only [hji52] at H ⊢; exact H)
               (try rw [hji52] at c20b0)
               (try rw [hji52] at c29b0)
               have hji52w : (IntKind.i64.wrap ((t373.length : Int) - 1)) = ji52 := (i64_w _).trans hji52
               (try simp only [hl6_3] at hji52 hji52w)
               (try rw [hji52] at c20b0)
               (try rw [hji52] at c29b0)
               by_cases c53 : 0 ≤ (ji52)
               ·rw [if_pos c53] at H
                have c53b0 : decide (0 ≤ (ji52)) = true := decide_eq_true c53
                clear c53
                by_cases c54 : (ji52) < (x6_3.length : Int)
                ·rw [if_pos c54] at H
                 have c54b0 : decide ((ji52) < (x6_3.length : Int)) = true := decide_eq_true c54
                 clear c54
                 by_cases c55 : 0 ≤ (rd x6_3 (ji52))
                 ·rw [if_pos c55] at H
                  have c55b0 : decide (0 ≤ (rd x6_3 (ji52))) = true := decide_eq_true c55
                  clear c55
                  by_cases c56 : (rd x6_3 (ji52)) < (l0.length : Int)
                  ·rw [if_pos c56] at H
                   have c56b0 : decide ((rd x6_3 (ji52)) < (l0.length : Int)) = true := decide_eq_true c56
                   clear c56
                   by_cases c57 : 0 ≤ ((rd_T101 l0 (rd x6_3 (ji52))).f1)
                   ·rw [if_pos c57] at H
                    have c57b0 : decide (0 ≤ ((rd_T101 l0 (rd x6_3 (ji52))).f1)) = true := decide_eq_true c57
                    clear c57
                    by_cases c58 : ((rd_T101 l0 (rd x6_3 (ji52))).f1) < (l1.length : Int)
                    ·rw [if_pos c58] at H
                     have c58b0 : decide (((rd_T101 l0 (rd x6_3 (ji52))).f1) < (l1.length : Int)) = true := decide_eq_true c58
                     clear c58
                     by_cases c59 : ((rd_T101 l0 (rd x6_3 (ji52))).f1) < (x15_4.length : Int)
                     ·rw [if_pos c59] at H
                      have c59b0 : decide (((rd_T101 l0 (rd x6_3 (ji52))).f1) < (x15_4.length : Int)) = true := decide_eq_true c59
                      clear c59
                      by_cases c60 : 0 ≤ ((rd_T101 l0 (rd x6_3 (ji52))).f0)
                      ·rw [if_pos c60] at H
                       have c60b0 : decide (0 ≤ ((rd_T101 l0 (rd x6_3 (ji52))).f0)) = true := decide_eq_true c60
                       clear c60
                       by_cases c61 : ((rd_T101 l0 (rd x6_3 (ji52))).f0) < (x15_4.length : Int)
                       ·rw [if_pos c61] at H
                        have c61b0 : decide (((rd_T101 l0 (rd x6_3 (ji52))).f0) < (x15_4.length : Int)) = true := decide_eq_true c61
                        clear c61; obtain ⟨y414, hy414⟩ : ∃ y_ : List Int, y_ = (x15_4.set (((rd_T101 l0 (rd x6_3 (ji52))).f0) : Int).toNat (wrap64 ((rd x15_4 ((rd_T101 l0 (rd x6_3 (ji52))).f0)) - (wrap64 ((rd l1 ((rd_T101 l0 (rd x6_3 (ji52))).f1)) - (rd x15_4 ((rd_T101 l0 (rd x6_3 (ji52))).f1))))))) := ⟨_, rfl⟩
                        replace H : ((rf_In.f (wrap64 ((rd l1 ((rd_T101 l0 (rd x6_3 (ji52))).f1)) - (rd x15_4 ((rd_T101 l0 (rd x6_3 (ji52))).f1)))) 0 100).bind fun t417 => (if t417 = true then ((rf_Ints.f k4 (y414.set (((rd_T101 l0 (rd x6_3 (ji52))).f1) : Int).toNat (wrap64 ((rd y414 ((rd_T101 l0 (rd x6_3 (ji52))).f1)) + (wrap64 ((rd l1 ((rd_T101 l0 (rd x6_3 (ji52))).f1)) - (rd x15_4 ((rd_T101 l0 (rd x6_3 (ji52))).f1))))))) l1).bind fun t418 => (rf_Fill.j4 k4 l0 l1 x6_3 x7_3 x8_3 x10_3 (ji52) x12_2 x14_3 x16_4 (wrap64 ((rd l1 ((rd_T101 l0 (rd x6_3 (ji52))).f1)) - (rd x15_4 ((rd_T101 l0 (rd x6_3 (ji52))).f1)))) (!t418))) else (rf_Fill.j4 k4 l0 l1 x6_3 x7_3 x8_3 x10_3 (ji52) x12_2 x14_3 x16_4 (wrap64 ((rd l1 ((rd_T101 l0 (rd x6_3 (ji52))).f1)) - (rd x15_4 ((rd_T101 l0 (rd x6_3 (ji52))).f1)))) true))) = some (r1, r2) := by first | (rw [hy414]; with_reducible exact H) | (have H2_ := (Option.bind_some _ _).symm.trans H; rw [hy414]; with_reducible exact H2_) | (have H2_ := (Option.bind_some _ _).symm.trans H; with_reducible exact H2_) | with_reducible exact H | (rw [hy414]; exact H) | exact H
                        have Ny414 := Aside0.mk hy414
                        clear hy414; obtain ⟨y416, hy416⟩ : ∃ y_ : List Int, y_ = (y414.set (((rd_T101 l0 (rd x6_3 (ji52))).f1) : Int).toNat (wrap64 ((rd y414 ((rd_T101 l0 (rd x6_3 (ji52))).f1)) + (wrap64 ((rd l1 ((rd_T101 l0 (rd x6_3 (ji52))).f1)) - (rd x15_4 ((rd_T101 l0 (rd x6_3 (ji52))).f1))))))) := ⟨_, rfl⟩
                        replace H : ((rf_In.f (wrap64 ((rd l1 ((rd_T101 l0 (rd x6_3 (ji52))).f1)) - (rd x15_4 ((rd_T101 l0 (rd x6_3 (ji52))).f1)))) 0 100).bind fun t417 => (if t417 = true then ((rf_Ints.f k4 y416 l1).bind fun t418 => (rf_Fill.j4 k4 l0 l1 x6_3 x7_3 x8_3 x10_3 (ji52) x12_2 x14_3 x16_4 (wrap64 ((rd l1 ((rd_T101 l0 (rd x6_3 (ji52))).f1)) - (rd x15_4 ((rd_T101 l0 (rd x6_3 (ji52))).f1)))) (!t418))) else (rf_Fill.j4 k4 l0 l1 x6_3 x7_3 x8_3 x10_3 (ji52) x12_2 x14_3 x16_4 (wrap64 ((rd l1 ((rd_T101 l0 (rd x6_3 (ji52))).f1)) - (rd x15_4 ((rd_T101 l0 (rd x6_3 (ji52))).f1)))) true))) = some (r1, r2) := by first | (rw [hy416]; with_reducible exact H) | (have H2_ := (Option.bind_some _ _).symm.trans H; rw [hy416]; with_reducible exact H2_) | (have H2_ := (Option.bind_some _ _).symm.trans H; with_reducible exact H2_) | with_reducible exact H | (rw [hy416]; exact H) | exact H
                        have Ny416 := Aside0.mk hy416
                        clear hy416; have HC64 := Aside0.mk H
                        clear H; have p408 : 0 ≤ ((ji52) : Int) := of_decide_eq_true (by first | (with_reducible assumption) | assumption)
                        have q408 : (ji52) < (x6_3.length : Int) := of_decide_eq_true (by first | (with_reducible assumption) | assumption)
                        obtain ⟨ad408, e408, hx408_0⟩ := Kd.at_int (Kd.R_reads' HO_6.out).2.2 (ji52) p408 q408
                        cases e408
                        replace p408 := eq_true p408
                        replace q408 := eq_true q408
                        have p409 : 0 ≤ ((rd x6_3 (ji52)) : Int) := of_decide_eq_true (by first | (with_reducible assumption) | assumption)
                        have q409 : (rd x6_3 (ji52)) < (l0.length : Int) := of_decide_eq_true (by first | (with_reducible assumption) | assumption)
                        obtain ⟨ad409, e409, hx409_0, hx409_1, hx409_2⟩ := at_T101 HR0.out (rd x6_3 (ji52)) p409 q409
                        cases e409
                        replace hx409_0 := (HB.out.cell (World.block_lt_of_cell? w _ hx409_0)).trans hx409_0
                        replace hx409_1 := (HB.out.cell (World.block_lt_of_cell? w _ hx409_1)).trans hx409_1
                        replace hx409_2 := (HB.out.cell (World.block_lt_of_cell? w _ hx409_2)).trans hx409_2
                        replace p409 := eq_true p409
                        replace q409 := eq_true q409
                        try go_wp2_with (first | ((with_reducible refine gate_dst (N := 21) rfl ?_); refine box_event ?hg (N := 21) ?hd (cs := #[.int .i64 0, .int .i64 0, .int .i64 0]) (t := 101) ?hr ?_; (case hd => rfl); (case hg => rfl); (case hr => first | (go_simp; done) | (go_simp; rfl)); intro gb410 hg w65 hbox hb; have n0_ := Aside0.mk (Kd.R_below (by (with_reducible repeat (first | apply Kd.R_alloc | apply Kd.R_drewN | apply Kd.R_drew)); exact HO_6.out) hb); have n1_ := Aside0.mk (Kd.R_below (by (with_reducible repeat (first | apply Kd.R_alloc | apply Kd.R_drewN | apply Kd.R_drew)); exact HO_7.out) hb); have n2_ := Aside0.mk (Kd.R_below (by (with_reducible repeat (first | apply Kd.R_alloc | apply Kd.R_drewN | apply Kd.R_drew)); exact HO_10.out) hb); have n3_ := Aside0.mk (Kd.R_below (by (with_reducible repeat (first | apply Kd.R_alloc | apply Kd.R_drewN | apply Kd.R_drew)); exact HO_15.out) hb); have n4_ := Aside0.mk (Kd.R_below (by (with_reducible repeat (first | apply Kd.R_alloc | apply Kd.R_drewN | apply Kd.R_drew)); exact HO_16.out) hb); have n5_ := Aside0.mk (below_step (by repeat (first | (with_reducible first | exact HB.out | apply below_alloc | apply pw_below_drewN | apply below_drew1) | exact HB.out)) hb); have n6_ := Aside0.mk (hbox); have n7_ := Aside0.mk ((by rw [hg]; exact (below_size (by repeat (first | (with_reducible first | exact HB.out | apply below_alloc | apply pw_below_drewN | apply below_drew1) | exact HB.out))) : w.heap.size ≤ gb410)); have n8_ := Aside0.mk ((by rw [hg]; exact (below_size (by repeat (first | (with_reducible first | exact HB.out | apply below_alloc | apply pw_below_drewN | apply below_drew1) | exact HB.out))) : w.heap.size ≤ gb410)); clear HO_6; clear HO_7; clear HO_10; clear HO_15; clear HO_16; clear HB; have HO_6 := n0_; have HO_7 := n1_; have HO_10 := n2_; have HO_15 := n3_; have HO_16 := n4_; have HB := n5_; have BK410 := n6_; have GW410 := n7_; have GE410 := n8_; clear n0_ n1_ n2_ n3_ n4_ n5_ n6_ n7_ n8_; clear hb hbox hg; have hcz66_0 : w65.cell? ⟨gb410, 0, none⟩ = some (.int .i64 0) := (blk_cell BK410.out 0).trans rfl; have hcz66_1 : w65.cell? ⟨gb410, 1, none⟩ = some (.int .i64 0) := (blk_cell BK410.out 1).trans rfl; have hcz66_2 : w65.cell? ⟨gb410, 2, none⟩ = some (.int .i64 0) := (blk_cell BK410.out 2).trans rfl; have hfz66_0 := blk_frozen BK410.out 0; have hfz66_1 := blk_frozen BK410.out 1; have hfz66_2 := blk_frozen BK410.out 2))
                        have n0_ : Aside0 (Kd.R (Kd.int .i64) 3 (((w65.setCell ⟨gb410, 0, none⟩ (.int .i64 ((rd_T101 l0 (rd x6_3 (ji52))).f0))).setCell ⟨gb410, 1, none⟩ (.int .i64 ((rd_T101 l0 (rd x6_3 (ji52))).f1))).setCell ⟨gb410, 2, none⟩ (.int .i64 ((rd_T101 l0 (rd x6_3 (ji52))).f2))) w.heap.size (fun k_ => some k_ ≠ (.slice Ao26 x10_3.length co26 : Value).ownBlock ∧ some k_ ≠ (v393 : Value).ownBlock ∧ some k_ ≠ (u16 : Value).ownBlock) (.slice (some ad408) x6_3.length co18) x6_3) := ⟨by (with_reducible repeat (first | apply Kd.R_alloc | apply Kd.R_drewN | apply Kd.R_drew)); exact Kd.R_mono (Kd.R_far (p := ⟨gb410, 2, none⟩) (Kd.R_far (p := ⟨gb410, 1, none⟩) (Kd.R_far (p := ⟨gb410, 0, none⟩) (Kd.R_types HO_6.out BK410.out (by decide)) (fun _ hk => hk.2) (.int .i64 ((rd_T101 l0 (rd x6_3 (ji52))).f0))) (fun _ hk => hk.2) (.int .i64 ((rd_T101 l0 (rd x6_3 (ji52))).f1))) (fun _ hk => hk.2) (.int .i64 ((rd_T101 l0 (rd x6_3 (ji52))).f2))) (fun _ hk => ⟨hk.1.1, ⟨hk.1.2.1, hk.1.2.2⟩⟩)⟩
                        have n1_ : Aside0 (Kd.R k44 44 (((w65.setCell ⟨gb410, 0, none⟩ (.int .i64 ((rd_T101 l0 (rd x6_3 (ji52))).f0))).setCell ⟨gb410, 1, none⟩ (.int .i64 ((rd_T101 l0 (rd x6_3 (ji52))).f1))).setCell ⟨gb410, 2, none⟩ (.int .i64 ((rd_T101 l0 (rd x6_3 (ji52))).f2))) w.heap.size (fun _ => True) u7 x7_3) := ⟨by (with_reducible repeat (first | apply Kd.R_alloc | apply Kd.R_drewN | apply Kd.R_drew)); exact Kd.R_mono (Kd.R_far (p := ⟨gb410, 2, none⟩) (Kd.R_far (p := ⟨gb410, 1, none⟩) (Kd.R_far (p := ⟨gb410, 0, none⟩) (Kd.R_types HO_7.out BK410.out (by decide)) (fun _ hk => hk.2) (.int .i64 ((rd_T101 l0 (rd x6_3 (ji52))).f0))) (fun _ hk => hk.2) (.int .i64 ((rd_T101 l0 (rd x6_3 (ji52))).f1))) (fun _ hk => hk.2) (.int .i64 ((rd_T101 l0 (rd x6_3 (ji52))).f2))) (fun _ hk => trivial)⟩
                        have n2_ : Aside0 (Kd.R (Kd.int .i64) 3 (((w65.setCell ⟨gb410, 0, none⟩ (.int .i64 ((rd_T101 l0 (rd x6_3 (ji52))).f0))).setCell ⟨gb410, 1, none⟩ (.int .i64 ((rd_T101 l0 (rd x6_3 (ji52))).f1))).setCell ⟨gb410, 2, none⟩ (.int .i64 ((rd_T101 l0 (rd x6_3 (ji52))).f2))) w.heap.size (fun k_ => some k_ ≠ (.slice (some ad408) x6_3.length co18 : Value).ownBlock ∧ some k_ ≠ (v393 : Value).ownBlock ∧ some k_ ≠ (u16 : Value).ownBlock) (.slice Ao26 x10_3.length co26) x10_3) := ⟨by (with_reducible repeat (first | apply Kd.R_alloc | apply Kd.R_drewN | apply Kd.R_drew)); exact Kd.R_mono (Kd.R_far (p := ⟨gb410, 2, none⟩) (Kd.R_far (p := ⟨gb410, 1, none⟩) (Kd.R_far (p := ⟨gb410, 0, none⟩) (Kd.R_types HO_10.out BK410.out (by decide)) (fun _ hk => hk.2) (.int .i64 ((rd_T101 l0 (rd x6_3 (ji52))).f0))) (fun _ hk => hk.2) (.int .i64 ((rd_T101 l0 (rd x6_3 (ji52))).f1))) (fun _ hk => hk.2) (.int .i64 ((rd_T101 l0 (rd x6_3 (ji52))).f2))) (fun _ hk => ⟨hk.1.1, ⟨hk.1.2.1, hk.1.2.2⟩⟩)⟩
                        have n3_ : Aside0 (Kd.R (Kd.int .i64) 3 (((w65.setCell ⟨gb410, 0, none⟩ (.int .i64 ((rd_T101 l0 (rd x6_3 (ji52))).f0))).setCell ⟨gb410, 1, none⟩ (.int .i64 ((rd_T101 l0 (rd x6_3 (ji52))).f1))).setCell ⟨gb410, 2, none⟩ (.int .i64 ((rd_T101 l0 (rd x6_3 (ji52))).f2))) w.heap.size (fun k_ => some k_ ≠ (.slice (some ad408) x6_3.length co18 : Value).ownBlock ∧ some k_ ≠ (.slice Ao26 x10_3.length co26 : Value).ownBlock ∧ some k_ ≠ (u16 : Value).ownBlock) v393 x15_4) := ⟨by (with_reducible repeat (first | apply Kd.R_alloc | apply Kd.R_drewN | apply Kd.R_drew)); exact Kd.R_mono (Kd.R_far (p := ⟨gb410, 2, none⟩) (Kd.R_far (p := ⟨gb410, 1, none⟩) (Kd.R_far (p := ⟨gb410, 0, none⟩) (Kd.R_types HO_15.out BK410.out (by decide)) (fun _ hk => hk.2) (.int .i64 ((rd_T101 l0 (rd x6_3 (ji52))).f0))) (fun _ hk => hk.2) (.int .i64 ((rd_T101 l0 (rd x6_3 (ji52))).f1))) (fun _ hk => hk.2) (.int .i64 ((rd_T101 l0 (rd x6_3 (ji52))).f2))) (fun _ hk => ⟨hk.1.1, ⟨hk.1.2.1, hk.1.2.2⟩⟩)⟩
                        have n4_ : Aside0 (Kd.R (Kd.int .i64) 3 (((w65.setCell ⟨gb410, 0, none⟩ (.int .i64 ((rd_T101 l0 (rd x6_3 (ji52))).f0))).setCell ⟨gb410, 1, none⟩ (.int .i64 ((rd_T101 l0 (rd x6_3 (ji52))).f1))).setCell ⟨gb410, 2, none⟩ (.int .i64 ((rd_T101 l0 (rd x6_3 (ji52))).f2))) w.heap.size (fun k_ => some k_ ≠ (.slice (some ad408) x6_3.length co18 : Value).ownBlock ∧ some k_ ≠ (.slice Ao26 x10_3.length co26 : Value).ownBlock ∧ some k_ ≠ (v393 : Value).ownBlock) u16 x16_4) := ⟨by (with_reducible repeat (first | apply Kd.R_alloc | apply Kd.R_drewN | apply Kd.R_drew)); exact Kd.R_mono (Kd.R_far (p := ⟨gb410, 2, none⟩) (Kd.R_far (p := ⟨gb410, 1, none⟩) (Kd.R_far (p := ⟨gb410, 0, none⟩) (Kd.R_types HO_16.out BK410.out (by decide)) (fun _ hk => hk.2) (.int .i64 ((rd_T101 l0 (rd x6_3 (ji52))).f0))) (fun _ hk => hk.2) (.int .i64 ((rd_T101 l0 (rd x6_3 (ji52))).f1))) (fun _ hk => hk.2) (.int .i64 ((rd_T101 l0 (rd x6_3 (ji52))).f2))) (fun _ hk => ⟨hk.1.1, ⟨hk.1.2.1, hk.1.2.2⟩⟩)⟩
                        have n5_ : Aside0 ((((w65.setCell ⟨gb410, 0, none⟩ (.int .i64 ((rd_T101 l0 (rd x6_3 (ji52))).f0))).setCell ⟨gb410, 1, none⟩ (.int .i64 ((rd_T101 l0 (rd x6_3 (ji52))).f1))).setCell ⟨gb410, 2, none⟩ (.int .i64 ((rd_T101 l0 (rd x6_3 (ji52))).f2))).heap[gb410]? = some (.cells #[.int .i64 ((rd_T101 l0 (rd x6_3 (ji52))).f0), .int .i64 ((rd_T101 l0 (rd x6_3 (ji52))).f1), .int .i64 ((rd_T101 l0 (rd x6_3 (ji52))).f2)] 101 (0, 0))) := ⟨by (with_reducible repeat (first | refine blk_drewN ?_ _ | refine blk_drew ?_ | refine blk_alloc ?_ _)); refine blk_put (cs := #[.int .i64 ((rd_T101 l0 (rd x6_3 (ji52))).f0), .int .i64 ((rd_T101 l0 (rd x6_3 (ji52))).f1), .int .i64 0]) ?_ 2 _ rfl; (with_reducible repeat (first | refine blk_drewN ?_ _ | refine blk_drew ?_ | refine blk_alloc ?_ _)); refine blk_put (cs := #[.int .i64 ((rd_T101 l0 (rd x6_3 (ji52))).f0), .int .i64 0, .int .i64 0]) ?_ 1 _ rfl; (with_reducible repeat (first | refine blk_drewN ?_ _ | refine blk_drew ?_ | refine blk_alloc ?_ _)); refine blk_put (cs := #[.int .i64 0, .int .i64 0, .int .i64 0]) ?_ 0 _ rfl; (with_reducible repeat (first | refine blk_drewN ?_ _ | refine blk_drew ?_ | refine blk_alloc ?_ _)); exact BK410.out⟩
                        have n6_ : Aside0 (Below w.heap.size w (((w65.setCell ⟨gb410, 0, none⟩ (.int .i64 ((rd_T101 l0 (rd x6_3 (ji52))).f0))).setCell ⟨gb410, 1, none⟩ (.int .i64 ((rd_T101 l0 (rd x6_3 (ji52))).f1))).setCell ⟨gb410, 2, none⟩ (.int .i64 ((rd_T101 l0 (rd x6_3 (ji52))).f2)))) := ⟨by repeat (first | (with_reducible first | exact HB.out | apply below_alloc | apply pw_below_drewN | apply below_drew1 | refine below_set ?_ GE410.out) | exact HB.out)⟩
                        (try clear HO_6)
                        (try clear HO_7)
                        (try clear HO_10)
                        (try clear HO_15)
                        (try clear HO_16)
                        (try clear BK410)
                        (try clear HB)
                        generalize (((w65.setCell ⟨gb410, 0, none⟩ (.int .i64 ((rd_T101 l0 (rd x6_3 (ji52))).f0))).setCell ⟨gb410, 1, none⟩ (.int .i64 ((rd_T101 l0 (rd x6_3 (ji52))).f1))).setCell ⟨gb410, 2, none⟩ (.int .i64 ((rd_T101 l0 (rd x6_3 (ji52))).f2))) = w67 at n0_ n1_ n2_ n3_ n4_ n5_ n6_ ⊢
                        have HO_6 := n0_; have HO_7 := n1_; have HO_10 := n2_; have HO_15 := n3_; have HO_16 := n4_; have BK410 := n5_; have HB := n6_
                        clear n0_ n1_ n2_ n3_ n4_ n5_ n6_; have n0_ := Aside0.mk (Kd.R_drew HO_6.out)
                        have n1_ := Aside0.mk (Kd.R_drew HO_7.out)
                        have n2_ := Aside0.mk (Kd.R_drew HO_10.out)
                        have n3_ := Aside0.mk (Kd.R_drew HO_15.out)
                        have n4_ := Aside0.mk (Kd.R_drew HO_16.out)
                        have n5_ := Aside0.mk (blk_drew BK410.out)
                        have n6_ := Aside0.mk (below_drew1 HB.out)
                        clear HO_6 HO_7 HO_10 HO_15 HO_16 BK410 HB; have HO_6 := n0_
                        have HO_7 := n1_; have HO_10 := n2_; have HO_15 := n3_; have HO_16 := n4_; have BK410 := n5_; have HB := n6_
                        clear n0_ n1_ n2_ n3_ n4_ n5_ n6_; have p411 : 0 ≤ (((rd_T101 l0 (rd x6_3 (ji52))).f1) : Int) := of_decide_eq_true (by first | (with_reducible assumption) | assumption)
                        have q411 : ((rd_T101 l0 (rd x6_3 (ji52))).f1) < (l1.length : Int) := of_decide_eq_true (by first | (with_reducible assumption) | assumption)
                        obtain ⟨ad411, e411, hx411_0⟩ := Kd.at_int HR1.out ((rd_T101 l0 (rd x6_3 (ji52))).f1) p411 q411
                        have hw411_0 := hx411_0
                        cases e411
                        replace hx411_0 := (HB.out.cell (World.block_lt_of_cell? w _ hx411_0)).trans hx411_0
                        replace p411 := eq_true p411
                        replace q411 := eq_true q411
                        obtain ⟨Ao69, co69, eo69⟩ := Kd.R_slice HO_15.out
                        (first | subst eo69 | (injection eo69 with f1_ f2_ f3_; have f4_ := f1_.symm; have f5_ := f3_.symm; clear f1_ f2_ f3_; subst f4_; subst f5_))
                        have p412 : 0 ≤ (((rd_T101 l0 (rd x6_3 (ji52))).f1) : Int) := of_decide_eq_true (by first | (with_reducible assumption) | assumption)
                        have q412 : ((rd_T101 l0 (rd x6_3 (ji52))).f1) < (x15_4.length : Int) := of_decide_eq_true (by first | (with_reducible assumption) | assumption)
                        obtain ⟨ad412, e412, hx412_0⟩ := Kd.at_int (Kd.R_reads' HO_15.out).2.2 ((rd_T101 l0 (rd x6_3 (ji52))).f1) p412 q412
                        cases e412
                        replace p412 := eq_true p412
                        replace q412 := eq_true q412
                        refine start_ (n := 12) (S := fun w' => w'.cell? ⟨gb410, 0, none⟩ = some (.int .i64 ((rd_T101 l0 (rd x6_3 (ji52))).f0)) ∧ w'.cell? ⟨gb410, 1, none⟩ = some (.int .i64 ((rd_T101 l0 (rd x6_3 (ji52))).f1)) ∧ w'.cell? ⟨gb410, 2, none⟩ = some (.int .i64 ((rd_T101 l0 (rd x6_3 (ji52))).f2)) ∧ w'.cell? (ad411.add (((rd_T101 l0 (rd x6_3 (ji52))).f1)).toNat) = some (.int .i64 (rd l1 ((rd_T101 l0 (rd x6_3 (ji52))).f1))) ∧ w'.cell? (ad412.add (((rd_T101 l0 (rd x6_3 (ji52))).f1)).toNat) = some (.int .i64 (rd x15_4 ((rd_T101 l0 (rd x6_3 (ji52))).f1)))) (ds := []) #[false, false, false, false, false, false, false, false, false, false, false, false] (by kernel_rfl) rfl rfl ⟨(blk_cell BK410.out 0).trans rfl, (blk_cell BK410.out 1).trans rfl, (blk_cell BK410.out 2).trans rfl, ((HB.out.cell (World.block_lt_of_cell? w _ hw411_0)).trans hw411_0), hx412_0⟩ (fun hHeld => ?_); refine with_tabW rf_Fill.tab27 rf_Fill.bits27 (fun HT_ HW_ => ?_)
                        generalize w67.drew = w68 at HO_6 HO_7 HO_10 HO_15 HO_16 BK410 HB hx411_0 hx412_0 hHeld ⊢
                        refine pure_ (i := 0) (N := some 110) (v := ?_) (a' := ?_) #[true, false, false, false, false, false, false, false, false, false, false, false] rfl rfl (any_of HT_.out (by kernel_rfl)) (fun _ _ _ h => h) (Or.inl ⟨by rfl, ?_⟩) ?_ ?_
                        rotate_left
                        ·intro w'
                         go_simp
                         with_reducible rfl
                        rotate_left
                        ·simp only [Act.put, List.setIfInBounds_toArray, List.set_cons_zero, List.set_cons_succ, i64_w, i32_w]; rfl
                        refine pure_ (i := 1) (N := some 111) (v := ?_) (a' := ?_) #[true, true, false, false, false, false, false, false, false, false, false, false] rfl rfl (any_of HT_.out (by kernel_rfl)) (fun _ _ _ h => h) (Or.inl ⟨by rfl, ?_⟩) ?_ ?_
                        rotate_left
                        ·intro w'
                         go_simp
                         with_reducible rfl
                        rotate_left
                        ·simp only [Act.put, List.setIfInBounds_toArray, List.set_cons_zero, List.set_cons_succ, i64_w, i32_w]; rfl
                        refine pure_ (i := 5) (N := some 115) (v := ?_) (a' := ?_) #[true, true, false, false, false, true, false, false, false, false, false, false] rfl rfl (any_of HT_.out (by kernel_rfl)) (fun _ _ _ h => h) (Or.inl ⟨by rfl, ?_⟩) ?_ ?_
                        rotate_left
                        ·intro w'
                         go_simp
                         with_reducible rfl
                        rotate_left
                        ·simp only [Act.put, List.setIfInBounds_toArray, List.set_cons_zero, List.set_cons_succ, i64_w, i32_w]; rfl
                        refine pure_ (i := 6) (N := some 116) (v := ?_) (a' := ?_) #[true, true, false, false, false, true, true, false, false, false, false, false] rfl rfl (any_of HT_.out (by kernel_rfl)) (fun _ _ _ h => h) (Or.inl ⟨by rfl, ?_⟩) ?_ ?_
                        rotate_left
                        ·intro w'
                         go_simp
                         with_reducible rfl
                        rotate_left
                        ·simp only [Act.put, List.setIfInBounds_toArray, List.set_cons_zero, List.set_cons_succ, i64_w, i32_w]; rfl
                        refine take_ (i := 2) (N := some 112) (v := ?_) (a' := ?_) #[true, true, true, false, false, true, true, false, false, false, false, false] rfl rfl (take_ofW HT_.out HW_.out (by kernel_rfl)) (fun _ _ _ h => h) (Or.inl ⟨by rfl, ?_⟩) hHeld ?_ ?_
                        rotate_left
                        ·rintro w' ⟨s0, s1, s2, s3, s4⟩
                         go_simp
                         with_reducible rfl
                        rotate_left
                        ·simp only [Act.put, List.setIfInBounds_toArray, List.set_cons_zero, List.set_cons_succ, i64_w, i32_w]; rfl
                        refine pure_ (i := 3) (N := some 113) (v := ?_) (a' := ?_) #[true, true, true, true, false, true, true, false, false, false, false, false] rfl rfl (any_of HT_.out (by kernel_rfl)) (fun _ _ _ h => h) (Or.inl ⟨by rfl, ?_⟩) ?_ ?_
                        rotate_left
                        ·intro w'
                         go_simp
                         with_reducible rfl
                        rotate_left
                        ·simp only [Act.put, List.setIfInBounds_toArray, List.set_cons_zero, List.set_cons_succ, i64_w, i32_w]; rfl
                        refine take_ (i := 4) (N := some 114) (v := ?_) (a' := ?_) #[true, true, true, true, true, true, true, false, false, false, false, false] rfl rfl (take_ofW HT_.out HW_.out (by kernel_rfl)) (fun _ _ _ h => h) (Or.inl ⟨by rfl, ?_⟩) hHeld ?_ ?_
                        rotate_left
                        ·rintro w' ⟨s0, s1, s2, s3, s4⟩
                         go_simp
                         with_reducible rfl
                        rotate_left
                        ·simp only [Act.put, List.setIfInBounds_toArray, List.set_cons_zero, List.set_cons_succ, i64_w, i32_w]; rfl
                        refine take_ (i := 7) (N := some 117) (v := ?_) (a' := ?_) #[true, true, true, true, true, true, true, true, false, false, false, false] rfl rfl (take_ofW HT_.out HW_.out (by kernel_rfl)) (fun _ _ _ h => h) (Or.inl ⟨by rfl, ?_⟩) hHeld ?_ ?_
                        rotate_left
                        ·rintro w' ⟨s0, s1, s2, s3, s4⟩
                         go_simp
                         with_reducible rfl
                        rotate_left
                        ·simp only [Act.put, List.setIfInBounds_toArray, List.set_cons_zero, List.set_cons_succ, i64_w, i32_w]; rfl
                        refine pure_ (i := 8) (N := some 118) (v := ?_) (a' := ?_) #[true, true, true, true, true, true, true, true, true, false, false, false] rfl rfl (any_of HT_.out (by kernel_rfl)) (fun _ _ _ h => h) (Or.inl ⟨by rfl, ?_⟩) ?_ ?_
                        rotate_left
                        ·intro w'
                         go_simp
                         with_reducible rfl
                        rotate_left
                        ·simp only [Act.put, List.setIfInBounds_toArray, List.set_cons_zero, List.set_cons_succ, i64_w, i32_w]; rfl
                        refine take_ (i := 9) (N := some 119) (v := ?_) (a' := ?_) #[true, true, true, true, true, true, true, true, true, true, false, false] rfl rfl (take_ofW HT_.out HW_.out (by kernel_rfl)) (fun _ _ _ h => h) (Or.inl ⟨by rfl, ?_⟩) hHeld ?_ ?_
                        rotate_left
                        ·rintro w' ⟨s0, s1, s2, s3, s4⟩
                         go_simp
                         with_reducible rfl
                        rotate_left
                        ·simp only [Act.put, List.setIfInBounds_toArray, List.set_cons_zero, List.set_cons_succ, i64_w, i32_w]; rfl
                        refine pure_ (i := 10) (N := some 120) (v := ?_) (a' := ?_) #[true, true, true, true, true, true, true, true, true, true, true, false] rfl rfl (any_of HT_.out (by kernel_rfl)) (fun _ _ _ h => h) (Or.inl ⟨by rfl, ?_⟩) ?_ ?_
                        rotate_left
                        ·intro w'
                         go_simp
                         with_reducible rfl
                        rotate_left
                        ·simp only [Act.put, List.setIfInBounds_toArray, List.set_cons_zero, List.set_cons_succ, i64_w, i32_w]; rfl
                        refine pure_ (i := 11) (N := some 22) (v := ?_) (a' := ?_) #[true, true, true, true, true, true, true, true, true, true, true, true] rfl rfl (any_of HT_.out (by kernel_rfl)) (fun _ _ _ h => h) (Or.inl ⟨by rfl, ?_⟩) ?_ ?_
                        rotate_left
                        ·intro w'
                         go_simp
                         with_reducible rfl
                        rotate_left
                        ·simp only [Act.put, List.setIfInBounds_toArray, List.set_cons_zero, List.set_cons_succ, i64_w, i32_w]; rfl
                        refine done_ (done_of HT_.out (by kernel_rfl)) ?_
                        have hcz70_0 : w68.cell? ⟨gb410, 0, none⟩ = some (.int .i64 ((rd_T101 l0 (rd x6_3 (ji52))).f0)) := (blk_cell BK410.out 0).trans rfl
                        have hcz70_1 : w68.cell? ⟨gb410, 1, none⟩ = some (.int .i64 ((rd_T101 l0 (rd x6_3 (ji52))).f1)) := (blk_cell BK410.out 1).trans rfl
                        have hcz70_2 : w68.cell? ⟨gb410, 2, none⟩ = some (.int .i64 ((rd_T101 l0 (rd x6_3 (ji52))).f2)) := (blk_cell BK410.out 2).trans rfl
                        have hfz70_0 := blk_frozen BK410.out 0
                        have hfz70_1 := blk_frozen BK410.out 1
                        have hfz70_2 := blk_frozen BK410.out 2
                        have p413 : 0 ≤ (((rd_T101 l0 (rd x6_3 (ji52))).f0) : Int) := of_decide_eq_true (by first | (with_reducible assumption) | assumption)
                        have q413 : ((rd_T101 l0 (rd x6_3 (ji52))).f0) < (x15_4.length : Int) := of_decide_eq_true (by first | (with_reducible assumption) | assumption)
                        obtain ⟨ad413, e413, hx413_0⟩ := Kd.at_int (Kd.R_reads' HO_15.out).2.2 ((rd_T101 l0 (rd x6_3 (ji52))).f0) p413 q413
                        obtain rfl : ad412 = ad413 := (by injection e413)
                        replace p413 := eq_true p413
                        replace q413 := eq_true q413
                        have p62 : 0 ≤ (((rd_T101 l0 (rd x6_3 (ji52))).f0) : Int) := of_decide_eq_true (by first | (with_reducible assumption) | assumption)
                        have q62 : (((rd_T101 l0 (rd x6_3 (ji52))).f0) : Int) < ((x15_4.length : Int) : Int) := of_decide_eq_true (by first | (with_reducible assumption) | assumption)
                        obtain ⟨go62, co62, eo62, gb62, gl62, cl62, HG62⟩ := Kd.R_form HO_15.out (by omega)
                        (first | cases eo62 | (injection eo62 with ea_ en_ ec_; (first | subst ea_ | (injection ea_ with ea_; subst ea_)); subst ec_; clear en_))
                        have GB62 := Aside0.mk gb62
                        have GG62 := Aside0.mk HG62
                        clear gb62 gl62 HG62
                        (first | simp only [add_plain] at hx412_0 | skip)
                        (first | simp only [add_plain] at hx413_0 | skip)
                        obtain ⟨hx62_0, hf62_0⟩ := Kd.R_celln 0 HO_15.out (((rd_T101 l0 (rd x6_3 (ji52))).f0) : Int) p62 q62
                        replace p62 := eq_true p62
                        replace q62 := eq_true q62
                        obtain ⟨hy71_, hz71_⟩ := Kd.R_celln 0 HO_15.out (((rd_T101 l0 (rd x6_3 (ji52))).f0) : Int) (of_decide_eq_true (by first | (with_reducible assumption) | assumption)) (of_decide_eq_true (by first | (with_reducible assumption) | assumption))
                        have HP71 := Kd.R_putg HO_15.out (((rd_T101 l0 (rd x6_3 (ji52))).f0) : Int) (wrap64 ((rd x15_4 ((rd_T101 l0 (rd x6_3 (ji52))).f0)) - (wrap64 ((rd l1 ((rd_T101 l0 (rd x6_3 (ji52))).f1)) - (rd x15_4 ((rd_T101 l0 (rd x6_3 (ji52))).f1))))))
                        go_upto_region 30 with (first | ((with_reducible refine gate_store (t := 3) (p := 128) rfl ?_); refine store_event (t := 3) (p := 128) (v := ?vo_w72) (w1 := (w68.setCell ⟨go62, (((rd_T101 l0 (rd x6_3 (ji52))).f0) : Int).toNat, none⟩ (.int .i64 (wrap64 ((rd x15_4 ((rd_T101 l0 (rd x6_3 (ji52))).f0)) - (wrap64 ((rd l1 ((rd_T101 l0 (rd x6_3 (ji52))).f1)) - (rd x15_4 ((rd_T101 l0 (rd x6_3 (ji52))).f1))))))))) ?hg ?ho ?hn ?hr ?_; (case ho => rfl); (case hg => rfl); (case hn => rfl); (case hr => first | (go_simp; done) | (go_simp; rfl)); intro w72 hw; have hg : w68.grownBy w72 (some go62) := (by rw [hw]; exact HP71.2); have hp_ : Kd.R (Kd.int .i64) 3 w72 w.heap.size (fun k_ => some k_ ≠ (.slice (some ad408) x6_3.length co18 : Value).ownBlock ∧ some k_ ≠ (.slice Ao26 x10_3.length co26 : Value).ownBlock ∧ some k_ ≠ (u16 : Value).ownBlock) (.slice (some ⟨go62, 0, none⟩) x15_4.length co69) y414 := (by rw [hw, Ny414.out]; exact HP71.1); clear HP71; have n0_ := Aside0.mk (Kd.R_after (v := (.slice (some ⟨go62, 0, none⟩) x15_4.length co69)) (v1 := (.slice (some ⟨go62, 0, none⟩) x15_4.length co69)) (ok := (fun k_ => some k_ ≠ (.slice Ao26 x10_3.length co26 : Value).ownBlock ∧ some k_ ≠ (u16 : Value).ownBlock)) (by (with_reducible repeat (first | apply Kd.R_alloc | apply Kd.R_drewN | apply Kd.R_drew)); exact Kd.R_mono HO_6.out (fun _ hk => ⟨⟨hk.1, hk.2.2⟩, hk.2.1⟩)) hg (.inl rfl)); have n1_ := Aside0.mk (Kd.R_over' (v := (.slice (some ⟨go62, 0, none⟩) x15_4.length co69)) (by (with_reducible repeat (first | apply Kd.R_alloc | apply Kd.R_drewN | apply Kd.R_drew)); exact HO_7.out) (Kd.R_typed HO_15.out) (by decide) hg); have n2_ := Aside0.mk (Kd.R_after (v := (.slice (some ⟨go62, 0, none⟩) x15_4.length co69)) (v1 := (.slice (some ⟨go62, 0, none⟩) x15_4.length co69)) (ok := (fun k_ => some k_ ≠ (.slice (some ad408) x6_3.length co18 : Value).ownBlock ∧ some k_ ≠ (u16 : Value).ownBlock)) (by (with_reducible repeat (first | apply Kd.R_alloc | apply Kd.R_drewN | apply Kd.R_drew)); exact Kd.R_mono HO_10.out (fun _ hk => ⟨⟨hk.1, hk.2.2⟩, hk.2.1⟩)) hg (.inl rfl)); have n3_ := Aside0.mk (hp_); have n4_ := Aside0.mk (Kd.R_after (v := (.slice (some ⟨go62, 0, none⟩) x15_4.length co69)) (v1 := (.slice (some ⟨go62, 0, none⟩) x15_4.length co69)) (ok := (fun k_ => some k_ ≠ (.slice (some ad408) x6_3.length co18 : Value).ownBlock ∧ some k_ ≠ (.slice Ao26 x10_3.length co26 : Value).ownBlock)) (by (with_reducible repeat (first | apply Kd.R_alloc | apply Kd.R_drewN | apply Kd.R_drew)); exact Kd.R_mono HO_16.out (fun _ hk => ⟨⟨hk.1, hk.2.1⟩, hk.2.2⟩)) hg (.inl rfl)); have n5_ := Aside0.mk (blk_grown (g := gb410) (o := .cells #[.int .i64 ((rd_T101 l0 (rd x6_3 (ji52))).f0), .int .i64 ((rd_T101 l0 (rd x6_3 (ji52))).f1), .int .i64 ((rd_T101 l0 (rd x6_3 (ji52))).f2)] 101 (0, 0)) (by (with_reducible repeat (first | refine blk_drewN ?_ _ | refine blk_drew ?_ | refine blk_alloc ?_ _)); exact BK410.out) hg (Kd.R_ne HO_15.out BK410.out (by decide))); have n6_ := Aside0.mk ((by rw [hw]; exact below_set (HB.out) GB62.out : Below w.heap.size w w72)); clear HO_6; clear HO_7; clear HO_10; clear HO_15; clear HO_16; clear BK410; clear HB; have HO_6 := n0_; have HO_7 := n1_; have HO_10 := n2_; have HO_15 := n3_; have HO_16 := n4_; have BK410 := n5_; have HB := n6_; clear n0_ n1_ n2_ n3_ n4_ n5_ n6_; clear hg hw hp_; have hcz73_0 : w72.cell? ⟨gb410, 0, none⟩ = some (.int .i64 ((rd_T101 l0 (rd x6_3 (ji52))).f0)) := (blk_cell BK410.out 0).trans rfl; have hcz73_1 : w72.cell? ⟨gb410, 1, none⟩ = some (.int .i64 ((rd_T101 l0 (rd x6_3 (ji52))).f1)) := (blk_cell BK410.out 1).trans rfl; have hcz73_2 : w72.cell? ⟨gb410, 2, none⟩ = some (.int .i64 ((rd_T101 l0 (rd x6_3 (ji52))).f2)) := (blk_cell BK410.out 2).trans rfl; have hfz73_0 := blk_frozen BK410.out 0; have hfz73_1 := blk_frozen BK410.out 1; have hfz73_2 := blk_frozen BK410.out 2; have p415 : 0 ≤ (((rd_T101 l0 (rd x6_3 (ji52))).f1) : Int) := of_decide_eq_true (by first | (with_reducible assumption) | assumption); have q415 : ((rd_T101 l0 (rd x6_3 (ji52))).f1) < (y414.length : Int) := (by have h_ : (((rd_T101 l0 (rd x6_3 (ji52))).f1) : Int) < ((x15_4.length : Int) : Int) := of_decide_eq_true (by first | (with_reducible assumption) | assumption); first | (have e_ := (Kd.R_reads' HO_15.out).1; omega) | simpa only [Ny414.out, List.length_set] using h_); have ql415 : ((((rd_T101 l0 (rd x6_3 (ji52))).f1) : Int) < ((x15_4.length : Int) : Int)) = True := eq_true (of_decide_eq_true (by first | (with_reducible assumption) | assumption)); obtain ⟨ad415, e415, hx415_0⟩ := Kd.at_int (Kd.R_reads' HO_15.out).2.2 ((rd_T101 l0 (rd x6_3 (ji52))).f1) p415 q415; obtain rfl : (⟨go62, 0, none⟩ : Addr) = ad415 := (by injection e415); (first | simp only [add_plain] at hx415_0 | simp only [add_at] at hx415_0 | simp only [Addr.add, Nat.zero_add] at hx415_0 | skip); replace p415 := eq_true p415; replace q415 := eq_true q415; have p63 : 0 ≤ (((rd_T101 l0 (rd x6_3 (ji52))).f1) : Int) := of_decide_eq_true (by first | (with_reducible assumption) | assumption); have q63 : (((rd_T101 l0 (rd x6_3 (ji52))).f1) : Int) < ((x15_4.length : Int) : Int) := of_decide_eq_true (by first | (with_reducible assumption) | assumption); obtain ⟨hx63_0, hf63_0⟩ := Kd.R_celln 0 HO_15.out (((rd_T101 l0 (rd x6_3 (ji52))).f1) : Int) p63 q63; replace p63 := eq_true p63; replace q63 := eq_true q63; obtain ⟨hy74_, hz74_⟩ := Kd.R_celln 0 HO_15.out (((rd_T101 l0 (rd x6_3 (ji52))).f1) : Int) (of_decide_eq_true (by first | (with_reducible assumption) | assumption)) (of_decide_eq_true (by first | (with_reducible assumption) | assumption)); have HP74 := Kd.R_putg HO_15.out (((rd_T101 l0 (rd x6_3 (ji52))).f1) : Int) (wrap64 ((rd y414 ((rd_T101 l0 (rd x6_3 (ji52))).f1)) + (wrap64 ((rd l1 ((rd_T101 l0 (rd x6_3 (ji52))).f1)) - (rd x15_4 ((rd_T101 l0 (rd x6_3 (ji52))).f1))))))) | ((with_reducible refine gate_store (t := 3) (p := 136) rfl ?_); refine store_event (t := 3) (p := 136) (v := ?vo_w75) (w1 := (w72.setCell ⟨go62, (((rd_T101 l0 (rd x6_3 (ji52))).f1) : Int).toNat, none⟩ (.int .i64 (wrap64 ((rd y414 ((rd_T101 l0 (rd x6_3 (ji52))).f1)) + (wrap64 ((rd l1 ((rd_T101 l0 (rd x6_3 (ji52))).f1)) - (rd x15_4 ((rd_T101 l0 (rd x6_3 (ji52))).f1))))))))) ?hg ?ho ?hn ?hr ?_; (case ho => rfl); (case hg => rfl); (case hn => rfl); (case hr => first | (go_simp; done) | (go_simp; rfl)); intro w75 hw; have hg : w72.grownBy w75 (some go62) := (by rw [hw]; exact HP74.2); have hp_ : Kd.R (Kd.int .i64) 3 w75 w.heap.size (fun k_ => some k_ ≠ (.slice (some ad408) x6_3.length co18 : Value).ownBlock ∧ some k_ ≠ (.slice Ao26 x10_3.length co26 : Value).ownBlock ∧ some k_ ≠ (u16 : Value).ownBlock) (.slice (some ⟨go62, 0, none⟩) x15_4.length co69) y416 := (by rw [hw, Ny416.out]; exact HP74.1); clear HP74; have n0_ := Aside0.mk (Kd.R_after (v := (.slice (some ⟨go62, 0, none⟩) x15_4.length co69)) (v1 := (.slice (some ⟨go62, 0, none⟩) x15_4.length co69)) (ok := (fun k_ => some k_ ≠ (.slice Ao26 x10_3.length co26 : Value).ownBlock ∧ some k_ ≠ (u16 : Value).ownBlock)) (by (with_reducible repeat (first | apply Kd.R_alloc | apply Kd.R_drewN | apply Kd.R_drew)); exact HO_6.out) hg (.inl rfl)); have n1_ := Aside0.mk (Kd.R_over' (v := (.slice (some ⟨go62, 0, none⟩) x15_4.length co69)) (by (with_reducible repeat (first | apply Kd.R_alloc | apply Kd.R_drewN | apply Kd.R_drew)); exact HO_7.out) (Kd.R_typed HO_15.out) (by decide) hg); have n2_ := Aside0.mk (Kd.R_after (v := (.slice (some ⟨go62, 0, none⟩) x15_4.length co69)) (v1 := (.slice (some ⟨go62, 0, none⟩) x15_4.length co69)) (ok := (fun k_ => some k_ ≠ (.slice (some ad408) x6_3.length co18 : Value).ownBlock ∧ some k_ ≠ (u16 : Value).ownBlock)) (by (with_reducible repeat (first | apply Kd.R_alloc | apply Kd.R_drewN | apply Kd.R_drew)); exact HO_10.out) hg (.inl rfl)); have n3_ := Aside0.mk (hp_); have n4_ := Aside0.mk (Kd.R_after (v := (.slice (some ⟨go62, 0, none⟩) x15_4.length co69)) (v1 := (.slice (some ⟨go62, 0, none⟩) x15_4.length co69)) (ok := (fun k_ => some k_ ≠ (.slice (some ad408) x6_3.length co18 : Value).ownBlock ∧ some k_ ≠ (.slice Ao26 x10_3.length co26 : Value).ownBlock)) (by (with_reducible repeat (first | apply Kd.R_alloc | apply Kd.R_drewN | apply Kd.R_drew)); exact HO_16.out) hg (.inl rfl)); have n5_ := Aside0.mk (blk_grown (g := gb410) (o := .cells #[.int .i64 ((rd_T101 l0 (rd x6_3 (ji52))).f0), .int .i64 ((rd_T101 l0 (rd x6_3 (ji52))).f1), .int .i64 ((rd_T101 l0 (rd x6_3 (ji52))).f2)] 101 (0, 0)) (by (with_reducible repeat (first | refine blk_drewN ?_ _ | refine blk_drew ?_ | refine blk_alloc ?_ _)); exact BK410.out) hg (Kd.R_ne HO_15.out BK410.out (by decide))); have n6_ := Aside0.mk ((by rw [hw]; exact below_set (HB.out) GB62.out : Below w.heap.size w w75)); clear HO_6; clear HO_7; clear HO_10; clear HO_15; clear HO_16; clear BK410; clear HB; have HO_6 := n0_; have HO_7 := n1_; have HO_10 := n2_; have HO_15 := n3_; have HO_16 := n4_; have BK410 := n5_; have HB := n6_; clear n0_ n1_ n2_ n3_ n4_ n5_ n6_; clear hg hw hp_))
                        (try simp only [Act.put, List.setIfInBounds_toArray, List.set_cons_zero, List.set_cons_succ])
                        go_cut [145] (fun v145 wc => ∃ (kq : Nat) (x145_63 : Bool), v145 = .bool x145_63 ∧ Aside0 (rf_Fill.j4 kq l0 l1 x6_3 x7_3 x8_3 x10_3 (ji52) x12_2 x14_3 x16_4 (wrap64 ((rd l1 ((rd_T101 l0 (rd x6_3 (ji52))).f1)) - (rd x15_4 ((rd_T101 l0 (rd x6_3 (ji52))).f1)))) x145_63 = some (r1, r2)) ∧ Aside0 (kq ≤ k4) ∧ Aside0 (Kd.R (Kd.int .i64) 3 wc w.heap.size (fun k_ => some k_ ≠ ((.slice Ao26 x10_3.length co26) : Value).ownBlock ∧ some k_ ≠ (u16 : Value).ownBlock) (.slice (some ad408) x6_3.length co18) x6_3) ∧ Aside0 (Kd.R k44 44 wc w.heap.size (fun _ => True) u7 x7_3) ∧ Aside0 (Kd.R (Kd.int .i64) 3 wc w.heap.size (fun k_ => some k_ ≠ ((.slice (some ad408) x6_3.length co18) : Value).ownBlock ∧ some k_ ≠ (u16 : Value).ownBlock) (.slice Ao26 x10_3.length co26) x10_3) ∧ Aside0 (Kd.R (Kd.int .i64) 3 wc w.heap.size (fun k_ => some k_ ≠ ((.slice (some ad408) x6_3.length co18) : Value).ownBlock ∧ some k_ ≠ ((.slice Ao26 x10_3.length co26) : Value).ownBlock) u16 x16_4) ∧ Aside0 (wc.heap[gb410]? = some (.cells #[.int .i64 ((rd_T101 l0 (rd x6_3 (ji52))).f0), .int .i64 ((rd_T101 l0 (rd x6_3 (ji52))).f1), .int .i64 ((rd_T101 l0 (rd x6_3 (ji52))).f2)] 101 (0, 0))) ∧ Aside0 (Below w.heap.size w wc))
                        case first =>
                         have H := HC64.out
                         clear HC64
                         replace H := Option.bind_eq_some_iff.mp H
                         obtain ⟨t417, A760, H⟩ := H
                         replace H : (if t417 = true then ((rf_Ints.f k4 y416 l1).bind fun t418 => (rf_Fill.j4 k4 l0 l1 x6_3 x7_3 x8_3 x10_3 (ji52) x12_2 x14_3 x16_4 (wrap64 ((rd l1 ((rd_T101 l0 (rd x6_3 (ji52))).f1)) - (rd x15_4 ((rd_T101 l0 (rd x6_3 (ji52))).f1)))) (!t418))) else (rf_Fill.j4 k4 l0 l1 x6_3 x7_3 x8_3 x10_3 (ji52) x12_2 x14_3 x16_4 (wrap64 ((rd l1 ((rd_T101 l0 (rd x6_3 (ji52))).f1)) - (rd x15_4 ((rd_T101 l0 (rd x6_3 (ji52))).f1)))) true)) = some (r1, r2) := H
                         have A76 := Aside0.mk A760
                         clear A760
                         by_cases c77 : t417 = true
                         ·subst c77
                          have H1 : ((rf_Ints.f k4 y416 l1).bind fun t418 => (rf_Fill.j4 k4 l0 l1 x6_3 x7_3 x8_3 x10_3 (ji52) x12_2 x14_3 x16_4 (wrap64 ((rd l1 ((rd_T101 l0 (rd x6_3 (ji52))).f1)) - (rd x15_4 ((rd_T101 l0 (rd x6_3 (ji52))).f1)))) (!t418))) = some (r1, r2) := by rw [if_pos rfl] at H; exact H
                          clear H; have H := H1
                          clear H1
                          replace H := Option.bind_eq_some_iff.mp H
                          obtain ⟨t418, A780, H⟩ := H
                          replace H : (rf_Fill.j4 k4 l0 l1 x6_3 x7_3 x8_3 x10_3 (ji52) x12_2 x14_3 x16_4 (wrap64 ((rd l1 ((rd_T101 l0 (rd x6_3 (ji52))).f1)) - (rd x15_4 ((rd_T101 l0 (rd x6_3 (ji52))).f1)))) (!t418)) = some (r1, r2) := H
                          have A78 := Aside0.mk A780
                          clear A780; have H' := Aside0.mk H
                          clear H; go_wp2_with (first | ((with_reducible refine gate_callee (f := 62) rfl ?_); refine goesL_ (some 138) rfl rfl Try.func62 (by kernel_rfl) rfl #[.int .i64 (wrap64 ((rd l1 ((rd_T101 l0 (rd x6_3 (ji52))).f1)) - (rd x15_4 ((rd_T101 l0 (rd x6_3 (ji52))).f1)))), .int .i64 0, .int .i64 100] rfl (by (try simp only [List.map_toArray, List.map_cons, List.map_nil]); first | done | (simp only [hji52]; rfl) | rfl | (simp only [List.length_drop, List.length_take]; rfl)) ?_; (with_reducible refine (rf_In.calls (wrap64 ((rd l1 ((rd_T101 l0 (rd x6_3 (ji52))).f1)) - (rd x15_4 ((rd_T101 l0 (rd x6_3 (ji52))).f1)))) 0 100 true _ A76.out).mono ?_); rintro e w' ⟨rfl, ⟨nd, rfl⟩⟩; refine ⟨_, rfl, ?_⟩) | (go_at_call 25; refine calls_of_args (args' := #[.slice (some ⟨go62, 0, none⟩) y416.length co69, .slice (some ad411) l1.length c1]) (by first | (rw [show y416.length = x15_4.length from (Kd.R_reads' HO_15.out).1.symm] <;> rfl) | rfl) ?_; (with_reducible refine (rf_Ints.calls k4 _ _ y416 _ _ l1 t418 _ ?side1 ?side2 ?side3 ?side4 A78.out).mono ?_); (case side1 => repeat (first | exact (Kd.R_reads' HO_15.out).2.2 | (with_reducible refine Kd.C_alloc ?_ _) | (with_reducible refine Kd.C_drewN ?_ _) | (with_reducible refine Kd.C_drew ?_))); (case side2 => rw [show y416.length = x15_4.length from (Kd.R_reads' HO_15.out).1.symm]; exact (Kd.R_reads' HO_15.out).2.1); (case side3 => repeat (first | exact (Kd.C_below HR1.out (by repeat (first | (with_reducible first | exact HB.out | apply below_alloc | apply pw_below_drewN | apply below_drew1 | refine below_set ?_ GE410.out) | exact HB.out))) | (with_reducible refine Kd.C_alloc ?_ _) | (with_reducible refine Kd.C_drewN ?_ _) | (with_reducible refine Kd.C_drew ?_))); (case side4 => exact HC1.out); rintro e w' ⟨rfl, ⟨nd, rfl⟩⟩))
                          go_meet
                          case rel => exact ⟨_, (!t418), (by first | rfl | (simp; done) | (simp [*]; done)), H', ⟨by have := HK1.out; have := HK2.out; have := HK3.out; have := HK4.out; first | omega | exact Nat.le_refl _⟩, ⟨by (try simp only [hl6_3]); (with_reducible repeat (first | apply Kd.R_alloc | apply Kd.R_drewN | apply Kd.R_drew)); exact Kd.R_mono HO_6.out (fun _ hk => ⟨hk.1.1, hk.1.2⟩)⟩, ⟨by (try simp only [hl6_3]); (with_reducible repeat (first | apply Kd.R_alloc | apply Kd.R_drewN | apply Kd.R_drew)); exact HO_7.out⟩, ⟨by (try simp only [hl6_3]); (with_reducible repeat (first | apply Kd.R_alloc | apply Kd.R_drewN | apply Kd.R_drew)); exact Kd.R_mono HO_10.out (fun _ hk => ⟨hk.1.1, hk.1.2⟩)⟩, ⟨by (try simp only [hl6_3]); (with_reducible repeat (first | apply Kd.R_alloc | apply Kd.R_drewN | apply Kd.R_drew)); exact Kd.R_mono HO_16.out (fun _ hk => ⟨hk.1.1, hk.1.2⟩)⟩, ⟨by (try simp only [hl6_3]); (with_reducible repeat (first | refine blk_drewN ?_ _ | refine blk_drew ?_ | refine blk_alloc ?_ _)); exact BK410.out⟩, ⟨by repeat (first | (with_reducible first | exact HB.out | apply below_alloc | apply pw_below_drewN | apply below_drew1 | refine below_set ?_ GE410.out) | exact HB.out)⟩⟩
                         ·replace c77 := Bool.eq_false_iff.mpr c77
                          subst c77
                          have H1 : (rf_Fill.j4 k4 l0 l1 x6_3 x7_3 x8_3 x10_3 (ji52) x12_2 x14_3 x16_4 (wrap64 ((rd l1 ((rd_T101 l0 (rd x6_3 (ji52))).f1)) - (rd x15_4 ((rd_T101 l0 (rd x6_3 (ji52))).f1)))) true) = some (r1, r2) := by rw [if_neg (show ¬ (false = true) by decide)] at H; exact H
                          clear H; have H := H1
                          clear H1; have H' := Aside0.mk H
                          clear H; go_wp2_with (first | ((with_reducible refine gate_callee (f := 62) rfl ?_); refine goesL_ (some 138) rfl rfl Try.func62 (by kernel_rfl) rfl #[.int .i64 (wrap64 ((rd l1 ((rd_T101 l0 (rd x6_3 (ji52))).f1)) - (rd x15_4 ((rd_T101 l0 (rd x6_3 (ji52))).f1)))), .int .i64 0, .int .i64 100] rfl (by (try simp only [List.map_toArray, List.map_cons, List.map_nil]); first | done | (simp only [hji52]; rfl) | rfl | (simp only [List.length_drop, List.length_take]; rfl)) ?_; (with_reducible refine (rf_In.calls (wrap64 ((rd l1 ((rd_T101 l0 (rd x6_3 (ji52))).f1)) - (rd x15_4 ((rd_T101 l0 (rd x6_3 (ji52))).f1)))) 0 100 false _ A76.out).mono ?_); rintro e w' ⟨rfl, ⟨nd, rfl⟩⟩; refine ⟨_, rfl, ?_⟩))
                          go_meet
                          case rel => exact ⟨_, (true), (by first | rfl | (simp; done) | (simp [*]; done)), H', ⟨by have := HK1.out; have := HK2.out; have := HK3.out; have := HK4.out; first | omega | exact Nat.le_refl _⟩, ⟨by (try simp only [hl6_3]); (with_reducible repeat (first | apply Kd.R_alloc | apply Kd.R_drewN | apply Kd.R_drew)); exact Kd.R_mono HO_6.out (fun _ hk => ⟨hk.1.1, hk.1.2⟩)⟩, ⟨by (try simp only [hl6_3]); (with_reducible repeat (first | apply Kd.R_alloc | apply Kd.R_drewN | apply Kd.R_drew)); exact HO_7.out⟩, ⟨by (try simp only [hl6_3]); (with_reducible repeat (first | apply Kd.R_alloc | apply Kd.R_drewN | apply Kd.R_drew)); exact Kd.R_mono HO_10.out (fun _ hk => ⟨hk.1.1, hk.1.2⟩)⟩, ⟨by (try simp only [hl6_3]); (with_reducible repeat (first | apply Kd.R_alloc | apply Kd.R_drewN | apply Kd.R_drew)); exact Kd.R_mono HO_16.out (fun _ hk => ⟨hk.1.1, hk.1.2⟩)⟩, ⟨by (try simp only [hl6_3]); (with_reducible repeat (first | refine blk_drewN ?_ _ | refine blk_drew ?_ | refine blk_alloc ?_ _)); exact BK410.out⟩, ⟨by repeat (first | (with_reducible first | exact HB.out | apply below_alloc | apply pw_below_drewN | apply below_drew1 | refine below_set ?_ GE410.out) | exact HB.out)⟩⟩
                        case rest =>
                         clear HC64; try clear c1
                         try clear c2
                         try clear p2
                         try clear c3
                         try clear p3
                         try clear q3
                         try clear hx3
                         try clear hf3
                         try clear c4
                         try clear p4
                         try clear q4
                         try clear hx4
                         try clear c5
                         try clear c6
                         try clear p6
                         try clear q6
                         try clear hx6
                         try clear hf6
                         try clear c7
                         try clear c7b0
                         try clear c8
                         try clear c11
                         try clear c11b0
                         try clear c11b1
                         try clear c11b2
                         try clear c20
                         try clear c20b0
                         try clear c21
                         try clear c21b0
                         try clear c22
                         try clear c25
                         try clear c29
                         try clear c29b0
                         try clear c30
                         try clear c30b0
                         try clear c31
                         try clear c31b0
                         try clear c32
                         try clear c32b0
                         try clear c33
                         try clear c33b0
                         try clear c34
                         try clear c34b0
                         try clear c35
                         try clear c35b0
                         try clear p36
                         try clear q36
                         try clear hx36
                         try clear hf36
                         try clear c37
                         try clear c37b0
                         try clear c38
                         try clear c38b0
                         try clear p39
                         try clear q39
                         try clear hx39
                         try clear hf39
                         try clear c40
                         try clear p40
                         try clear q40
                         try clear hx40
                         try clear c41
                         try clear p41
                         try clear q41
                         try clear hx41
                         try clear c53
                         try clear c53b0
                         try clear c54
                         try clear c54b0
                         try clear c55
                         try clear c55b0
                         try clear c56
                         try clear c56b0
                         try clear c57
                         try clear c57b0
                         try clear c58
                         try clear c58b0
                         try clear c59
                         try clear c59b0
                         try clear c60
                         try clear c60b0
                         try clear c61
                         try clear c61b0
                         try clear c62
                         try clear p62
                         try clear q62
                         try clear hx62
                         try clear hf62
                         try clear p63
                         try clear q63
                         try clear hx63
                         try clear hf63
                         try clear p64
                         try clear c77
                         try clear hcz42_0
                         try clear hcz42_1
                         try clear hcz42_2
                         try clear hcz44_0
                         try clear hcz44_1
                         try clear hcz44_2
                         try clear hcz48_0
                         try clear hcz48_1
                         try clear hcz48_2
                         try clear hcz66_0
                         try clear hcz66_1
                         try clear hcz66_2
                         try clear hcz70_0
                         try clear hcz70_1
                         try clear hcz70_2
                         try clear hcz73_0
                         try clear hcz73_1
                         try clear hcz73_2
                         try clear hfz42_0
                         try clear hfz42_1
                         try clear hfz42_2
                         try clear hfz44_0
                         try clear hfz44_1
                         try clear hfz44_2
                         try clear hfz48_0
                         try clear hfz48_1
                         try clear hfz48_2
                         try clear hfz66_0
                         try clear hfz66_1
                         try clear hfz66_2
                         try clear hfz70_0
                         try clear hfz70_1
                         try clear hfz70_2
                         try clear hfz73_0
                         try clear hfz73_1
                         try clear hfz73_2
                         try clear hx36_0
                         try clear hx398_0
                         try clear hx399_0
                         try clear hx399_1
                         try clear hx399_2
                         try clear hx39_0
                         try clear hx401_0
                         try clear hx403_0
                         try clear hx408_0
                         try clear hx409_0
                         try clear hx409_1
                         try clear hx409_2
                         try clear hx411_0
                         try clear hx412_0
                         try clear hx413_0
                         try clear hx415_0
                         try clear hx62_0
                         try clear hx63_0
                         try clear p2
                         try clear p36
                         try clear p39
                         try clear p398
                         try clear p399
                         try clear p401
                         try clear p403
                         try clear p408
                         try clear p409
                         try clear p411
                         try clear p412
                         try clear p413
                         try clear p415
                         try clear p6
                         try clear p62
                         try clear p63
                         try clear q36
                         try clear q39
                         try clear q398
                         try clear q399
                         try clear q401
                         try clear q403
                         try clear q408
                         try clear q409
                         try clear q411
                         try clear q412
                         try clear q413
                         try clear q415
                         try clear q62
                         try clear q63
                         obtain ⟨kq, x145_63, rfl, HA, HJ63, HO_6, HO_7, HO_10, HO_16, BK410, HB⟩ := hcut
                         cases kq with
                         | zero => exact absurd HA.out (by simp [rf_Fill.j4])
                         | succ kj63 =>
                          have H := HA.out
                          clear HA; simp only [rf_Fill.j4] at H
                          by_cases c79 : x145_63 = true
                          ·subst c79
                           have H1 : (rf_Fill.l2 kj63 l0 l1 x6_3 x7_3 x8_3 x10_3 (ji52) x12_2 (wrap64 (x14_3 + 1))) = some (r1, r2) := by rw [if_pos rfl] at H; exact H
                           clear H; have H := H1
                           clear H1; have H' := Aside0.mk H
                           clear H; go_wp2
                           (try simp only [← hl6_3])
                           (try simp only [← hji52])
                           (try simp only [← hl6_3])
                           (try simp only [← hji52, ← hl6_3] at H')
                           go_roundg kj63
                           case measure => have := HK1.out; have := HK2.out; have := HK3.out; have := HK4.out; have := HJ63.out; omega
                           case rel => exact ⟨(x6_3), (x7_3), (x8_3), (x10_3), (wrap64 (x14_3 + 1)), (by first | rfl | (simp; done) | (simp [*]; done)), (by first | rfl | (simp; done) | (simp [*]; done)), H', ⟨by have := HK1.out; have := HK2.out; have := HK3.out; have := HK4.out; have := HJ63.out; omega⟩, ⟨by (try simp only [hl6_3]); (with_reducible repeat (first | apply Kd.R_alloc | apply Kd.R_drewN | apply Kd.R_drew)); exact Kd.R_mono HO_6.out (fun _ hk => hk.1)⟩, ⟨by (try simp only [hl6_3]); (with_reducible repeat (first | apply Kd.R_alloc | apply Kd.R_drewN | apply Kd.R_drew)); exact HO_7.out⟩, ⟨by (try simp only [hl6_3]); (with_reducible repeat (first | apply Kd.R_alloc | apply Kd.R_drewN | apply Kd.R_drew)); exact Kd.R_mono HO_10.out (fun _ hk => hk.1)⟩, ⟨by repeat (first | (with_reducible first | exact HB.out | apply below_alloc | apply pw_below_drewN | apply below_drew1 | refine below_set ?_ GE410.out) | exact HB.out)⟩⟩
                          ·replace c79 := Bool.eq_false_iff.mpr c79
                           subst c79
                           have H1 : (if x16_4.length < 17592186044416 then (rf_Fill.l4 kj63 l0 l1 x6_3 x7_3 true x10_3 (ji52) x12_2 x14_3 (x16_4 ++ [(wrap64 ((rd l1 ((rd_T101 l0 (rd x6_3 (ji52))).f1)) - (rd x15_4 ((rd_T101 l0 (rd x6_3 (ji52))).f1))))]) 0) else (none)) = some (r1, r2) := by rw [if_neg (show ¬ (false = true) by decide)] at H; exact H
                           clear H; have H := H1
                           clear H1
                           by_cases c80 : x16_4.length < 17592186044416
                           ·rw [if_pos c80] at H
                            have LMc80 := Aside0.mk c80
                            clear c80; obtain ⟨y419, hy419⟩ : ∃ y_ : List Int, y_ = (x16_4 ++ [(wrap64 ((rd l1 ((rd_T101 l0 (rd x6_3 (ji52))).f1)) - (rd x15_4 ((rd_T101 l0 (rd x6_3 (ji52))).f1))))]) := ⟨_, rfl⟩
                            replace H : (rf_Fill.l4 kj63 l0 l1 x6_3 x7_3 true x10_3 (ji52) x12_2 x14_3 y419 0) = some (r1, r2) := by first | (rw [hy419]; with_reducible exact H) | (have H2_ := (Option.bind_some _ _).symm.trans H; rw [hy419]; with_reducible exact H2_) | (have H2_ := (Option.bind_some _ _).symm.trans H; with_reducible exact H2_) | with_reducible exact H | (rw [hy419]; exact H) | exact H
                            have Ny419 := Aside0.mk hy419
                            clear hy419; have H' := Aside0.mk H
                            clear H; go_wp2_with (first | ((with_reducible refine gate_builtin (b := .append) (xs := #[.tmp 146, .tmp 148]) rfl ?_); at_builtin; refine Kd.R_append (Kd.int .i64) (w0 := w) w.heap.size rfl (.tmp 146) (.tmp 148) 35 3 (.int .i64 0) 8 rfl Try.underlying35 info3 rfl (by decide) (by omega) u16 x16_4 (wrap64 ((rd l1 ((rd_T101 l0 (rd x6_3 (ji52))).f1)) - (rd x15_4 ((rd_T101 l0 (rd x6_3 (ji52))).f1)))) [.int .i64 (wrap64 ((rd l1 ((rd_T101 l0 (rd x6_3 (ji52))).f1)) - (rd x15_4 ((rd_T101 l0 (rd x6_3 (ji52))).f1))))] (fun k_ => some k_ ≠ (.slice (some ad408) x6_3.length co18 : Value).ownBlock ∧ some k_ ≠ (.slice Ao26 x10_3.length co26 : Value).ownBlock) (fun _ => False) rfl rfl ?aP (fun _ hk => hk.elim) ?aF ?aO ?aB ?aS ?aL ?_; (case aP => exact rfl); (case aB => exact (by repeat (first | (with_reducible first | exact HB.out | apply below_alloc | apply pw_below_drewN | apply below_drew1 | refine below_set ?_ GE410.out) | exact HB.out))); (case aF => exact (fun k_ hk => ⟨Kd.fresh' (Kd.R_lt (by (with_reducible repeat (first | apply Kd.R_alloc | apply Kd.R_drewN | apply Kd.R_drew)); exact HO_6.out)) k_ hk, Kd.fresh' (Kd.R_lt (by (with_reducible repeat (first | apply Kd.R_alloc | apply Kd.R_drewN | apply Kd.R_drew)); exact HO_10.out)) k_ hk⟩)); (case aO => exact (by (with_reducible repeat (first | apply Kd.R_alloc | apply Kd.R_drewN | apply Kd.R_drew)); exact HO_16.out)); (case aS => exact (below_size (by repeat (first | (with_reducible first | exact HB.out | apply below_alloc | apply pw_below_drewN | apply below_drew1 | refine below_set ?_ GE410.out) | exact HB.out)))); (case aL => have := LMc80.out; omega); intro v420 w81 ho hb hg hat; rw [← Ny419.out] at ho; have n0_ := Aside0.mk (Kd.R_after (ok := (fun k_ => some k_ ≠ (.slice Ao26 x10_3.length co26 : Value).ownBlock)) (by (with_reducible repeat (first | apply Kd.R_alloc | apply Kd.R_drewN | apply Kd.R_drew)); exact HO_6.out) hg hat); have n1_ := Aside0.mk (Kd.R_over' (by (with_reducible repeat (first | apply Kd.R_alloc | apply Kd.R_drewN | apply Kd.R_drew)); exact HO_7.out) (Kd.R_typed (by (with_reducible repeat (first | apply Kd.R_alloc | apply Kd.R_drewN | apply Kd.R_drew)); exact HO_16.out)) (by decide) hg); have n2_ := Aside0.mk (Kd.R_after (ok := (fun k_ => some k_ ≠ (.slice (some ad408) x6_3.length co18 : Value).ownBlock)) (by (with_reducible repeat (first | apply Kd.R_alloc | apply Kd.R_drewN | apply Kd.R_drew)); exact HO_10.out) hg hat); have n3_ := Aside0.mk (blk_grown (g := gb410) (o := .cells #[.int .i64 ((rd_T101 l0 (rd x6_3 (ji52))).f0), .int .i64 ((rd_T101 l0 (rd x6_3 (ji52))).f1), .int .i64 ((rd_T101 l0 (rd x6_3 (ji52))).f2)] 101 (0, 0)) (by (with_reducible repeat (first | refine blk_drewN ?_ _ | refine blk_drew ?_ | refine blk_alloc ?_ _)); exact BK410.out) hg (Kd.R_ne HO_16.out BK410.out (by decide))); have n4_ := Aside0.mk (hb); have n5_ := Aside0.mk (ho); clear HO_6; clear HO_7; clear HO_10; clear BK410; clear HB; clear HO_16; have HO_6 := n0_; have HO_7 := n1_; have HO_10 := n2_; have BK410 := n3_; have HB := n4_; have HO421 := n5_; clear n0_ n1_ n2_ n3_ n4_ n5_; clear ho hb hg hat))
                            go_loopg [23] kj63 (fun kq v23 w' => ∃ (x7_6 : List (S44)) (x23_6 : Int), v23 = .int .i64 x23_6 ∧ Aside0 (rf_Fill.l4 kq l0 l1 x6_3 x7_6 true x10_3 (ji52) x12_2 x14_3 y419 x23_6 = some (r1, r2)) ∧ Aside0 (kq ≤ kj63) ∧ Aside0 (Kd.R (Kd.int .i64) 3 w' w.heap.size (fun k_ => some k_ ≠ ((.slice Ao26 x10_3.length co26) : Value).ownBlock ∧ some k_ ≠ (v420 : Value).ownBlock) (.slice (some ad408) x6_3.length co18) x6_3) ∧ Aside0 (Kd.R k44 44 w' w.heap.size (fun _ => True) u7 x7_6) ∧ Aside0 (Kd.R (Kd.int .i64) 3 w' w.heap.size (fun k_ => some k_ ≠ ((.slice (some ad408) x6_3.length co18) : Value).ownBlock ∧ some k_ ≠ (v420 : Value).ownBlock) (.slice Ao26 x10_3.length co26) x10_3) ∧ Aside0 (Kd.R (Kd.int .i64) 3 w' w.heap.size (fun k_ => some k_ ≠ ((.slice (some ad408) x6_3.length co18) : Value).ownBlock ∧ some k_ ≠ ((.slice Ao26 x10_3.length co26) : Value).ownBlock) v420 y419) ∧ Aside0 (w'.heap[gb410]? = some (.cells #[.int .i64 ((rd_T101 l0 (rd x6_3 (ji52))).f0), .int .i64 ((rd_T101 l0 (rd x6_3 (ji52))).f1), .int .i64 ((rd_T101 l0 (rd x6_3 (ji52))).f2)] 101 (0, 0))) ∧ Aside0 (Below w.heap.size w w'))
                            case atStart => exact ⟨(x7_3), (0), (by first | rfl | (simp; done) | (simp [*]; done)), H', ⟨Nat.le_refl _⟩, ⟨by (try simp only [hl6_3]); (with_reducible repeat (first | apply Kd.R_alloc | apply Kd.R_drewN | apply Kd.R_drew)); exact HO_6.out⟩, ⟨by (try simp only [hl6_3]); (with_reducible repeat (first | apply Kd.R_alloc | apply Kd.R_drewN | apply Kd.R_drew)); exact HO_7.out⟩, ⟨by (try simp only [hl6_3]); (with_reducible repeat (first | apply Kd.R_alloc | apply Kd.R_drewN | apply Kd.R_drew)); exact HO_10.out⟩, ⟨by (try simp only [hl6_3]); (with_reducible repeat (first | apply Kd.R_alloc | apply Kd.R_drewN | apply Kd.R_drew)); exact HO421.out⟩, ⟨by (try simp only [hl6_3]); (with_reducible repeat (first | refine blk_drewN ?_ _ | refine blk_drew ?_ | refine blk_alloc ?_ _)); exact BK410.out⟩, ⟨by repeat (first | (with_reducible first | exact HB.out | apply below_alloc | apply pw_below_drewN | apply below_drew1 | refine below_set ?_ GE410.out) | exact HB.out)⟩⟩
                            case round =>
                             clear H'; try clear c1
                             try clear c2
                             try clear p2
                             try clear c3
                             try clear p3
                             try clear q3
                             try clear hx3
                             try clear hf3
                             try clear c4
                             try clear p4
                             try clear q4
                             try clear hx4
                             try clear c5
                             try clear c6
                             try clear p6
                             try clear q6
                             try clear hx6
                             try clear hf6
                             try clear c7
                             try clear c7b0
                             try clear c8
                             try clear c11
                             try clear c11b0
                             try clear c11b1
                             try clear c11b2
                             try clear c20
                             try clear c20b0
                             try clear c21
                             try clear c21b0
                             try clear c22
                             try clear c25
                             try clear c29
                             try clear c29b0
                             try clear c30
                             try clear c30b0
                             try clear c31
                             try clear c31b0
                             try clear c32
                             try clear c32b0
                             try clear c33
                             try clear c33b0
                             try clear c34
                             try clear c34b0
                             try clear c35
                             try clear c35b0
                             try clear p36
                             try clear q36
                             try clear hx36
                             try clear hf36
                             try clear c37
                             try clear c37b0
                             try clear c38
                             try clear c38b0
                             try clear p39
                             try clear q39
                             try clear hx39
                             try clear hf39
                             try clear c40
                             try clear p40
                             try clear q40
                             try clear hx40
                             try clear c41
                             try clear p41
                             try clear q41
                             try clear hx41
                             try clear c53
                             try clear c53b0
                             try clear c54
                             try clear c54b0
                             try clear c55
                             try clear c55b0
                             try clear c56
                             try clear c56b0
                             try clear c57
                             try clear c57b0
                             try clear c58
                             try clear c58b0
                             try clear c59
                             try clear c59b0
                             try clear c60
                             try clear c60b0
                             try clear c61
                             try clear c61b0
                             try clear c62
                             try clear p62
                             try clear q62
                             try clear hx62
                             try clear hf62
                             try clear p63
                             try clear q63
                             try clear hx63
                             try clear hf63
                             try clear p64
                             try clear c77
                             try clear c79
                             try clear c80
                             try clear hcz42_0
                             try clear hcz42_1
                             try clear hcz42_2
                             try clear hcz44_0
                             try clear hcz44_1
                             try clear hcz44_2
                             try clear hcz48_0
                             try clear hcz48_1
                             try clear hcz48_2
                             try clear hcz66_0
                             try clear hcz66_1
                             try clear hcz66_2
                             try clear hcz70_0
                             try clear hcz70_1
                             try clear hcz70_2
                             try clear hcz73_0
                             try clear hcz73_1
                             try clear hcz73_2
                             try clear hfz42_0
                             try clear hfz42_1
                             try clear hfz42_2
                             try clear hfz44_0
                             try clear hfz44_1
                             try clear hfz44_2
                             try clear hfz48_0
                             try clear hfz48_1
                             try clear hfz48_2
                             try clear hfz66_0
                             try clear hfz66_1
                             try clear hfz66_2
                             try clear hfz70_0
                             try clear hfz70_1
                             try clear hfz70_2
                             try clear hfz73_0
                             try clear hfz73_1
                             try clear hfz73_2
                             try clear hx36_0
                             try clear hx398_0
                             try clear hx399_0
                             try clear hx399_1
                             try clear hx399_2
                             try clear hx39_0
                             try clear hx401_0
                             try clear hx403_0
                             try clear hx408_0
                             try clear hx409_0
                             try clear hx409_1
                             try clear hx409_2
                             try clear hx411_0
                             try clear hx412_0
                             try clear hx413_0
                             try clear hx415_0
                             try clear hx62_0
                             try clear hx63_0
                             try clear p2
                             try clear p3
                             try clear p36
                             try clear p39
                             try clear p398
                             try clear p399
                             try clear p4
                             try clear p40
                             try clear p401
                             try clear p403
                             try clear p408
                             try clear p409
                             try clear p41
                             try clear p411
                             try clear p412
                             try clear p413
                             try clear p415
                             try clear p6
                             try clear p62
                             try clear p63
                             try clear p64
                             try clear q3
                             try clear q36
                             try clear q39
                             try clear q398
                             try clear q399
                             try clear q4
                             try clear q40
                             try clear q401
                             try clear q403
                             try clear q408
                             try clear q409
                             try clear q41
                             try clear q411
                             try clear q412
                             try clear q413
                             try clear q415
                             try clear q6
                             try clear q62
                             try clear q63
                             obtain ⟨x7_6, x23_6, rfl, HA, HK6, HO_6, HO_7, HO_10, HO_16, BK410, HB⟩ := hrel
                             cases gk with
                             | zero => exact absurd HA.out (by simp [rf_Fill.l4])
                             | succ k6 =>
                              have H := HA.out
                              clear HA; simp only [rf_Fill.l4] at H
                              by_cases c82 : x23_6 < (y419.length : Int)
                              ·rw [if_pos c82] at H
                               have c82b0 : decide (x23_6 < (y419.length : Int)) = true := decide_eq_true c82
                               clear c82
                               by_cases c83 : 0 ≤ x23_6
                               ·rw [if_pos c83] at H
                                have c83b0 : decide (0 ≤ x23_6) = true := decide_eq_true c83
                                clear c83
                                by_cases c84 : x23_6 < (x7_6.length : Int)
                                ·rw [if_pos c84] at H
                                 have c84b0 : decide (x23_6 < (x7_6.length : Int)) = true := decide_eq_true c84
                                 clear c84; obtain ⟨ji85, hji85⟩ : ∃ j_ : Int, (mn ((rd_T44 x7_6 x23_6).f0) (rd y419 x23_6)) = j_ := ⟨_, rfl⟩
                                 replace H : (rf_Fill.l4 k6 l0 l1 x6_3 (x7_6.set (x23_6 : Int).toNat (⟨ji85, mx ((rd_T44 x7_6 x23_6).f1) (rd y419 x23_6)⟩ : S44)) true x10_3 (ji52) x12_2 x14_3 y419 (wrap64 (x23_6 + 1))) = some (r1, r2) := by first | (rw [hji85] at H; exact H) | (simp only [hji85] at H ⊢; exact H)
                                 have hji85_ : (if (rd y419 x23_6) < ((rd_T44 x7_6 x23_6).f0) then (rd y419 x23_6) else ((rd_T44 x7_6 x23_6).f0)) = ji85 := hji85
                                 obtain ⟨ji86, hji86⟩ : ∃ j_ : Int, (mx ((rd_T44 x7_6 x23_6).f1) (rd y419 x23_6)) = j_ := ⟨_, rfl⟩
                                 replace H : (rf_Fill.l4 k6 l0 l1 x6_3 (x7_6.set (x23_6 : Int).toNat (⟨ji85, ji86⟩ : S44)) true x10_3 (ji52) x12_2 x14_3 y419 (wrap64 (x23_6 + 1))) = some (r1, r2) := by first | (rw [hji86] at H; exact H) | (simp only [hji86] at H ⊢; exact H)
                                 have hji86_ : (if ((rd_T44 x7_6 x23_6).f1) < (rd y419 x23_6) then (rd y419 x23_6) else ((rd_T44 x7_6 x23_6).f1)) = ji86 := hji86
                                 obtain ⟨y426, hy426⟩ : ∃ y_ : List (S44), y_ = (x7_6.set (x23_6 : Int).toNat (⟨ji85, ji86⟩ : S44)) := ⟨_, rfl⟩
                                 replace H : (rf_Fill.l4 k6 l0 l1 x6_3 y426 true x10_3 (ji52) x12_2 x14_3 y419 (wrap64 (x23_6 + 1))) = some (r1, r2) := by first | (rw [hy426]; with_reducible exact H) | (have H2_ := (Option.bind_some _ _).symm.trans H; rw [hy426]; with_reducible exact H2_) | (have H2_ := (Option.bind_some _ _).symm.trans H; with_reducible exact H2_) | with_reducible exact H | (rw [hy426]; exact H) | exact H
                                 have Ny426 := Aside0.mk hy426
                                 clear hy426; have H' := Aside0.mk H
                                 clear H; obtain ⟨Ao88, co88, eo88⟩ := Kd.R_slice HO_16.out
                                 subst eo88
                                 try go_wp2
                                 have n0_ := Aside0.mk (Kd.R_drew HO_6.out)
                                 have n1_ := Aside0.mk (Kd.R_drew HO_7.out)
                                 have n2_ := Aside0.mk (Kd.R_drew HO_10.out)
                                 have n3_ := Aside0.mk (Kd.R_drew HO_16.out)
                                 have n4_ := Aside0.mk (blk_drew BK410.out)
                                 have n5_ := Aside0.mk (below_drew1 HB.out)
                                 clear HO_6 HO_7 HO_10 HO_16 BK410 HB; have HO_6 := n0_
                                 have HO_7 := n1_; have HO_10 := n2_; have HO_16 := n3_; have BK410 := n4_; have HB := n5_
                                 clear n0_ n1_ n2_ n3_ n4_ n5_; obtain ⟨Ao90, co90, eo90⟩ := Kd.R_slice HO_7.out
                                 (first | subst eo90 | (injection eo90 with f1_ f2_ f3_; have f4_ := f1_.symm; have f5_ := f3_.symm; clear f1_ f2_ f3_; subst f4_; subst f5_))
                                 have p422 : 0 ≤ (x23_6 : Int) := of_decide_eq_true (by first | (with_reducible assumption) | assumption)
                                 have q422 : x23_6 < (x7_6.length : Int) := of_decide_eq_true (by first | (with_reducible assumption) | assumption)
                                 obtain ⟨ad422, e422, hx422_0, hx422_1⟩ := at_T44 (Kd.R_reads' HO_7.out).2.2 x23_6 p422 q422
                                 cases e422
                                 replace p422 := eq_true p422
                                 replace q422 := eq_true q422
                                 have p423 : 0 ≤ (x23_6 : Int) := of_decide_eq_true (by first | (with_reducible assumption) | assumption)
                                 have q423 : x23_6 < (y419.length : Int) := of_decide_eq_true (by first | (with_reducible assumption) | assumption)
                                 obtain ⟨ad423, e423, hx423_0⟩ := Kd.at_int (Kd.R_reads' HO_16.out).2.2 x23_6 p423 q423
                                 cases e423
                                 replace p423 := eq_true p423
                                 replace q423 := eq_true q423
                                 have p424 : 0 ≤ (x23_6 : Int) := of_decide_eq_true (by first | (with_reducible assumption) | assumption)
                                 have q424 : x23_6 < (x7_6.length : Int) := of_decide_eq_true (by first | (with_reducible assumption) | assumption)
                                 obtain ⟨ad424, e424, hx424_0, hx424_1⟩ := at_T44 (Kd.R_reads' HO_7.out).2.2 x23_6 p424 q424
                                 obtain rfl : ad422 = ad424 := (by injection e424)
                                 replace p424 := eq_true p424
                                 replace q424 := eq_true q424
                                 have p425 : 0 ≤ (x23_6 : Int) := of_decide_eq_true (by first | (with_reducible assumption) | assumption)
                                 have q425 : x23_6 < (y419.length : Int) := of_decide_eq_true (by first | (with_reducible assumption) | assumption)
                                 obtain ⟨ad425, e425, hx425_0⟩ := Kd.at_int (Kd.R_reads' HO_16.out).2.2 x23_6 p425 q425
                                 obtain rfl : ad423 = ad425 := (by injection e425)
                                 replace p425 := eq_true p425
                                 replace q425 := eq_true q425
                                 have p87 : 0 ≤ (x23_6 : Int) := of_decide_eq_true (by first | (with_reducible assumption) | assumption)
                                 have q87 : (x23_6 : Int) < ((x7_6.length : Int) : Int) := of_decide_eq_true (by first | (with_reducible assumption) | assumption)
                                 obtain ⟨go87, co87, eo87, gb87, gl87, cl87, HG87⟩ := Kd.R_form HO_7.out (by omega)
                                 (first | cases eo87 | (injection eo87 with ea_ en_ ec_; (first | subst ea_ | (injection ea_ with ea_; subst ea_)); subst ec_; clear en_))
                                 have GB87 := Aside0.mk gb87
                                 have GG87 := Aside0.mk HG87
                                 clear gb87 gl87 HG87
                                 (first | simp only [add_plain] at hx422_0 | skip)
                                 (first | simp only [add_plain] at hx422_1 | skip)
                                 (first | simp only [add_plain] at hx424_0 | skip)
                                 (first | simp only [add_plain] at hx424_1 | skip)
                                 obtain ⟨ce87, hcl87, hM87, hcc87, hfr87⟩ := Kd.R_elem HO_7.out z44 (x23_6 : Int) p87 q87
                                 obtain rfl := k44_openM hM87
                                 have hx87_0 : World.cell? _ ⟨go87, (x23_6 : Int).toNat * 2, none⟩ = some (.int .i64 ((rd_T44 x7_6 x23_6).f0)) := hcc87 0 _ rfl
                                 have hx87_1 : World.cell? _ ⟨go87, (x23_6 : Int).toNat * 2 + 1, none⟩ = some (.int .i64 ((rd_T44 x7_6 x23_6).f1)) := hcc87 1 _ rfl
                                 have hf87_0 : World.frozen? _ ⟨go87, (x23_6 : Int).toNat * 2, none⟩ = false := hfr87 0
                                 have hf87_1 : World.frozen? _ ⟨go87, (x23_6 : Int).toNat * 2 + 1, none⟩ = false := hfr87 1
                                 clear hcl87 hcc87 hfr87; (try clear hM87)
                                 replace p87 := eq_true p87
                                 replace q87 := eq_true q87
                                 obtain ⟨ce91, hcl91, hM91, hcc91, hfr91⟩ := Kd.R_elem HO_7.out z44 (x23_6 : Int) (of_decide_eq_true (by first | (with_reducible assumption) | assumption)) (by have h_ : (x23_6 : Int) < ((x7_6.length : Int) : Int) := of_decide_eq_true (by first | (with_reducible assumption) | assumption); first | exact h_ | (have e_ := (Kd.R_reads' HO_7.out).1; omega) | simpa using h_)
                                 obtain rfl := k44_openM hM91
                                 have HP91 := (Kd.R_seg HO_7.out (x23_6 : Int) (of_decide_eq_true (by first | (with_reducible assumption) | assumption)) (by have h_ : (x23_6 : Int) < ((x7_6.length : Int) : Int) := of_decide_eq_true (by first | (with_reducible assumption) | assumption); first | exact h_ | (have e_ := (Kd.R_reads' HO_7.out).1; omega) | simpa using h_) (seg := [.int .i64 ji85, .int .i64 ji86]) (j := 0) hcl91 hcc91 (show 2 ≤ 2 from by decide) (x' := (⟨ji85, ji86⟩ : S44)) (k44_mkM _ _ _ (⟨ji85, ji86⟩ : S44) ) (fun _ hk => hk)).1
                                 rw [← Ny426.out] at HP91
                                 have HQ91 := Aside0.mk HP91
                                 clear hcl91 hcc91 hfr91 HP91; (try clear hM91)
                                 refine start_ (n := 25) (S := fun w' => w'.cell? ⟨go87, ((x23_6).toNat * 2), none⟩ = some (.int .i64 ((rd_T44 x7_6 x23_6).f0)) ∧ w'.cell? ⟨go87, ((x23_6).toNat * 2) + 1, none⟩ = some (.int .i64 ((rd_T44 x7_6 x23_6).f1)) ∧ w'.cell? (ad423.add (x23_6).toNat) = some (.int .i64 (rd y419 x23_6)) ∧ w'.cell? ⟨go87, ((x23_6).toNat * 2), none⟩ = some (.int .i64 ((rd_T44 x7_6 x23_6).f0)) ∧ w'.cell? ⟨go87, ((x23_6).toNat * 2) + 1, none⟩ = some (.int .i64 ((rd_T44 x7_6 x23_6).f1)) ∧ w'.cell? (ad423.add (x23_6).toNat) = some (.int .i64 (rd y419 x23_6))) (ds := [24]) #[false, false, false, false, false, false, false, false, false, false, false, false, false, false, false, false, false, false, false, false, false, false, false, false, false] (by kernel_rfl) rfl rfl ⟨hx422_0, hx422_1, hx423_0, hx424_0, hx424_1, hx425_0⟩ (fun hHeld => ?_); refine with_tabW rf_Fill.tab35 rf_Fill.bits35 (fun HT_ HW_ => ?_)
                                 generalize wr.drew = w89 at HO_6 HO_7 HO_10 HO_16 BK410 HB GG87 HQ91 hf87_0 hf87_1 hx422_0 hx422_1 hx423_0 hx424_0 hx424_1 hx425_0 hx87_0 hx87_1 hHeld ⊢
                                 refine pure_ (i := 0) (N := some 156) (v := ?_) (a' := ?_) #[true, false, false, false, false, false, false, false, false, false, false, false, false, false, false, false, false, false, false, false, false, false, false, false, false] rfl rfl (any_of HT_.out (by kernel_rfl)) (fun _ _ _ h => h) (Or.inl ⟨by rfl, ?_⟩) ?_ ?_
                                 rotate_left
                                 ·intro w'
                                  go_simp
                                  with_reducible rfl
                                 rotate_left
                                 ·simp only [Act.put, List.setIfInBounds_toArray, List.set_cons_zero, List.set_cons_succ, i64_w, i32_w]; rfl
                                 refine pure_ (i := 1) (N := some 157) (v := ?_) (a' := ?_) #[true, true, false, false, false, false, false, false, false, false, false, false, false, false, false, false, false, false, false, false, false, false, false, false, false] rfl rfl (any_of HT_.out (by kernel_rfl)) (fun _ _ _ h => h) (Or.inl ⟨by rfl, ?_⟩) ?_ ?_
                                 rotate_left
                                 ·intro w'
                                  go_simp
                                  with_reducible rfl
                                 rotate_left
                                 ·simp only [Act.put, List.setIfInBounds_toArray, List.set_cons_zero, List.set_cons_succ, i64_w, i32_w]; rfl
                                 refine pure_ (i := 2) (N := some 158) (v := ?_) (a' := ?_) #[true, true, true, false, false, false, false, false, false, false, false, false, false, false, false, false, false, false, false, false, false, false, false, false, false] rfl rfl (any_of HT_.out (by kernel_rfl)) (fun _ _ _ h => h) (Or.inl ⟨by rfl, ?_⟩) ?_ ?_
                                 rotate_left
                                 ·intro w'
                                  go_simp
                                  with_reducible rfl
                                 rotate_left
                                 ·simp only [Act.put, List.setIfInBounds_toArray, List.set_cons_zero, List.set_cons_succ, i64_w, i32_w]; rfl
                                 refine pure_ (i := 3) (N := some 159) (v := ?_) (a' := ?_) #[true, true, true, true, false, false, false, false, false, false, false, false, false, false, false, false, false, false, false, false, false, false, false, false, false] rfl rfl (any_of HT_.out (by kernel_rfl)) (fun _ _ _ h => h) (Or.inl ⟨by rfl, ?_⟩) ?_ ?_
                                 rotate_left
                                 ·intro w'
                                  go_simp
                                  with_reducible rfl
                                 rotate_left
                                 ·simp only [Act.put, List.setIfInBounds_toArray, List.set_cons_zero, List.set_cons_succ, i64_w, i32_w]; rfl
                                 refine pure_ (i := 4) (N := some 160) (v := ?_) (a' := ?_) #[true, true, true, true, true, false, false, false, false, false, false, false, false, false, false, false, false, false, false, false, false, false, false, false, false] rfl rfl (any_of HT_.out (by kernel_rfl)) (fun _ _ _ h => h) (Or.inl ⟨by rfl, ?_⟩) ?_ ?_
                                 rotate_left
                                 ·intro w'
                                  go_simp
                                  with_reducible rfl
                                 rotate_left
                                 ·simp only [Act.put, List.setIfInBounds_toArray, List.set_cons_zero, List.set_cons_succ, i64_w, i32_w]; rfl
                                 refine pure_ (i := 5) (N := some 161) (v := ?_) (a' := ?_) #[true, true, true, true, true, true, false, false, false, false, false, false, false, false, false, false, false, false, false, false, false, false, false, false, false] rfl rfl (any_of HT_.out (by kernel_rfl)) (fun _ _ _ h => h) (Or.inl ⟨by rfl, ?_⟩) ?_ ?_
                                 rotate_left
                                 ·intro w'
                                  go_simp
                                  with_reducible rfl
                                 rotate_left
                                 ·simp only [Act.put, List.setIfInBounds_toArray, List.set_cons_zero, List.set_cons_succ, i64_w, i32_w]; rfl
                                 refine pure_ (i := 7) (N := some 163) (v := ?_) (a' := ?_) #[true, true, true, true, true, true, false, true, false, false, false, false, false, false, false, false, false, false, false, false, false, false, false, false, false] rfl rfl (any_of HT_.out (by kernel_rfl)) (fun _ _ _ h => h) (Or.inl ⟨by rfl, ?_⟩) ?_ ?_
                                 rotate_left
                                 ·intro w'
                                  go_simp
                                  with_reducible rfl
                                 rotate_left
                                 ·simp only [Act.put, List.setIfInBounds_toArray, List.set_cons_zero, List.set_cons_succ, i64_w, i32_w]; rfl
                                 refine pure_ (i := 8) (N := some 164) (v := ?_) (a' := ?_) #[true, true, true, true, true, true, false, true, true, false, false, false, false, false, false, false, false, false, false, false, false, false, false, false, false] rfl rfl (any_of HT_.out (by kernel_rfl)) (fun _ _ _ h => h) (Or.inl ⟨by rfl, ?_⟩) ?_ ?_
                                 rotate_left
                                 ·intro w'
                                  go_simp
                                  with_reducible rfl
                                 rotate_left
                                 ·simp only [Act.put, List.setIfInBounds_toArray, List.set_cons_zero, List.set_cons_succ, i64_w, i32_w]; rfl
                                 refine pure_ (i := 9) (N := some 165) (v := ?_) (a' := ?_) #[true, true, true, true, true, true, false, true, true, true, false, false, false, false, false, false, false, false, false, false, false, false, false, false, false] rfl rfl (any_of HT_.out (by kernel_rfl)) (fun _ _ _ h => h) (Or.inl ⟨by rfl, ?_⟩) ?_ ?_
                                 rotate_left
                                 ·intro w'
                                  go_simp
                                  with_reducible rfl
                                 rotate_left
                                 ·simp only [Act.put, List.setIfInBounds_toArray, List.set_cons_zero, List.set_cons_succ, i64_w, i32_w]; rfl
                                 refine pure_ (i := 12) (N := some 168) (v := ?_) (a' := ?_) #[true, true, true, true, true, true, false, true, true, true, false, false, true, false, false, false, false, false, false, false, false, false, false, false, false] rfl rfl (any_of HT_.out (by kernel_rfl)) (fun _ _ _ h => h) (Or.inl ⟨by rfl, ?_⟩) ?_ ?_
                                 rotate_left
                                 ·intro w'
                                  go_simp
                                  with_reducible rfl
                                 rotate_left
                                 ·simp only [Act.put, List.setIfInBounds_toArray, List.set_cons_zero, List.set_cons_succ, i64_w, i32_w]; rfl
                                 refine pure_ (i := 13) (N := some 169) (v := ?_) (a' := ?_) #[true, true, true, true, true, true, false, true, true, true, false, false, true, true, false, false, false, false, false, false, false, false, false, false, false] rfl rfl (any_of HT_.out (by kernel_rfl)) (fun _ _ _ h => h) (Or.inl ⟨by rfl, ?_⟩) ?_ ?_
                                 rotate_left
                                 ·intro w'
                                  go_simp
                                  with_reducible rfl
                                 rotate_left
                                 ·simp only [Act.put, List.setIfInBounds_toArray, List.set_cons_zero, List.set_cons_succ, i64_w, i32_w]; rfl
                                 refine pure_ (i := 14) (N := some 170) (v := ?_) (a' := ?_) #[true, true, true, true, true, true, false, true, true, true, false, false, true, true, true, false, false, false, false, false, false, false, false, false, false] rfl rfl (any_of HT_.out (by kernel_rfl)) (fun _ _ _ h => h) (Or.inl ⟨by rfl, ?_⟩) ?_ ?_
                                 rotate_left
                                 ·intro w'
                                  go_simp
                                  with_reducible rfl
                                 rotate_left
                                 ·simp only [Act.put, List.setIfInBounds_toArray, List.set_cons_zero, List.set_cons_succ, i64_w, i32_w]; rfl
                                 refine pure_ (i := 15) (N := some 171) (v := ?_) (a' := ?_) #[true, true, true, true, true, true, false, true, true, true, false, false, true, true, true, true, false, false, false, false, false, false, false, false, false] rfl rfl (any_of HT_.out (by kernel_rfl)) (fun _ _ _ h => h) (Or.inl ⟨by rfl, ?_⟩) ?_ ?_
                                 rotate_left
                                 ·intro w'
                                  go_simp
                                  with_reducible rfl
                                 rotate_left
                                 ·simp only [Act.put, List.setIfInBounds_toArray, List.set_cons_zero, List.set_cons_succ, i64_w, i32_w]; rfl
                                 refine pure_ (i := 17) (N := some 173) (v := ?_) (a' := ?_) #[true, true, true, true, true, true, false, true, true, true, false, false, true, true, true, true, false, true, false, false, false, false, false, false, false] rfl rfl (any_of HT_.out (by kernel_rfl)) (fun _ _ _ h => h) (Or.inl ⟨by rfl, ?_⟩) ?_ ?_
                                 rotate_left
                                 ·intro w'
                                  go_simp
                                  with_reducible rfl
                                 rotate_left
                                 ·simp only [Act.put, List.setIfInBounds_toArray, List.set_cons_zero, List.set_cons_succ, i64_w, i32_w]; rfl
                                 refine pure_ (i := 18) (N := some 174) (v := ?_) (a' := ?_) #[true, true, true, true, true, true, false, true, true, true, false, false, true, true, true, true, false, true, true, false, false, false, false, false, false] rfl rfl (any_of HT_.out (by kernel_rfl)) (fun _ _ _ h => h) (Or.inl ⟨by rfl, ?_⟩) ?_ ?_
                                 rotate_left
                                 ·intro w'
                                  go_simp
                                  with_reducible rfl
                                 rotate_left
                                 ·simp only [Act.put, List.setIfInBounds_toArray, List.set_cons_zero, List.set_cons_succ, i64_w, i32_w]; rfl
                                 refine pure_ (i := 19) (N := some 175) (v := ?_) (a' := ?_) #[true, true, true, true, true, true, false, true, true, true, false, false, true, true, true, true, false, true, true, true, false, false, false, false, false] rfl rfl (any_of HT_.out (by kernel_rfl)) (fun _ _ _ h => h) (Or.inl ⟨by rfl, ?_⟩) ?_ ?_
                                 rotate_left
                                 ·intro w'
                                  go_simp
                                  with_reducible rfl
                                 rotate_left
                                 ·simp only [Act.put, List.setIfInBounds_toArray, List.set_cons_zero, List.set_cons_succ, i64_w, i32_w]; rfl
                                 refine take_ (i := 6) (N := some 162) (v := ?_) (a' := ?_) #[true, true, true, true, true, true, true, true, true, true, false, false, true, true, true, true, false, true, true, true, false, false, false, false, false] rfl rfl (take_ofW HT_.out HW_.out (by kernel_rfl)) (fun _ _ _ h => h) (Or.inl ⟨by rfl, ?_⟩) hHeld ?_ ?_
                                 rotate_left
                                 ·rintro w' ⟨s0, s1, s2, s3, s4, s5⟩
                                  go_simp
                                  with_reducible rfl
                                 rotate_left
                                 ·simp only [Act.put, List.setIfInBounds_toArray, List.set_cons_zero, List.set_cons_succ, i64_w, i32_w]; rfl
                                 refine take_ (i := 10) (N := some 166) (v := ?_) (a' := ?_) #[true, true, true, true, true, true, true, true, true, true, true, false, true, true, true, true, false, true, true, true, false, false, false, false, false] rfl rfl (take_ofW HT_.out HW_.out (by kernel_rfl)) (fun _ _ _ h => h) (Or.inl ⟨by rfl, ?_⟩) hHeld ?_ ?_
                                 rotate_left
                                 ·rintro w' ⟨s0, s1, s2, s3, s4, s5⟩
                                  go_simp
                                  with_reducible rfl
                                 rotate_left
                                 ·simp only [Act.put, List.setIfInBounds_toArray, List.set_cons_zero, List.set_cons_succ, i64_w, i32_w]; rfl
                                 refine pure_ (i := 11) (N := some 167) (v := ?_) (a' := ?_) #[true, true, true, true, true, true, true, true, true, true, true, true, true, true, true, true, false, true, true, true, false, false, false, false, false] rfl rfl (any_of HT_.out (by kernel_rfl)) (fun _ _ _ h => h) (Or.inl ⟨by rfl, ?_⟩) ?_ ?_
                                 rotate_left
                                 ·intro w'
                                  go_simp
                                  with_reducible rfl
                                 rotate_left
                                 ·simp only [Act.put, List.setIfInBounds_toArray, List.set_cons_zero, List.set_cons_succ, i64_w, i32_w]; rfl
                                 refine take_ (i := 16) (N := some 172) (v := ?_) (a' := ?_) #[true, true, true, true, true, true, true, true, true, true, true, true, true, true, true, true, true, true, true, true, false, false, false, false, false] rfl rfl (take_ofW HT_.out HW_.out (by kernel_rfl)) (fun _ _ _ h => h) (Or.inl ⟨by rfl, ?_⟩) hHeld ?_ ?_
                                 rotate_left
                                 ·rintro w' ⟨s0, s1, s2, s3, s4, s5⟩
                                  go_simp
                                  with_reducible rfl
                                 rotate_left
                                 ·simp only [Act.put, List.setIfInBounds_toArray, List.set_cons_zero, List.set_cons_succ, i64_w, i32_w]; rfl
                                 refine take_ (i := 20) (N := some 176) (v := ?_) (a' := ?_) #[true, true, true, true, true, true, true, true, true, true, true, true, true, true, true, true, true, true, true, true, true, false, false, false, false] rfl rfl (take_ofW HT_.out HW_.out (by kernel_rfl)) (fun _ _ _ h => h) (Or.inl ⟨by rfl, ?_⟩) hHeld ?_ ?_
                                 rotate_left
                                 ·rintro w' ⟨s0, s1, s2, s3, s4, s5⟩
                                  go_simp
                                  with_reducible rfl
                                 rotate_left
                                 ·simp only [Act.put, List.setIfInBounds_toArray, List.set_cons_zero, List.set_cons_succ, i64_w, i32_w]; rfl
                                 refine pure_ (i := 21) (N := some 177) (v := ?_) (a' := ?_) #[true, true, true, true, true, true, true, true, true, true, true, true, true, true, true, true, true, true, true, true, true, true, false, false, false] rfl rfl (any_of HT_.out (by kernel_rfl)) (fun _ _ _ h => h) (Or.inl ⟨by rfl, ?_⟩) ?_ ?_
                                 rotate_left
                                 ·intro w'
                                  go_simp
                                  with_reducible rfl
                                 rotate_left
                                 ·simp only [Act.put, List.setIfInBounds_toArray, List.set_cons_zero, List.set_cons_succ, i64_w, i32_w]; rfl
                                 refine pure_ (i := 22) (N := some 178) (v := ?_) (a' := ?_) #[true, true, true, true, true, true, true, true, true, true, true, true, true, true, true, true, true, true, true, true, true, true, true, false, false] rfl rfl (any_of HT_.out (by kernel_rfl)) (fun _ _ _ h => h) (Or.inl ⟨by rfl, ?_⟩) ?_ ?_
                                 rotate_left
                                 ·intro w'
                                  go_simp
                                  with_reducible rfl
                                 rotate_left
                                 ·simp only [Act.put, List.setIfInBounds_toArray, List.set_cons_zero, List.set_cons_succ, i64_w, i32_w]; rfl
                                 refine pure_ (i := 23) (N := some 179) (v := ?_) (a' := ?_) #[true, true, true, true, true, true, true, true, true, true, true, true, true, true, true, true, true, true, true, true, true, true, true, true, false] rfl rfl (any_of HT_.out (by kernel_rfl)) (fun _ _ _ h => h) (Or.inl ⟨by rfl, ?_⟩) ?_ ?_
                                 rotate_left
                                 ·intro w'
                                  go_simp
                                  with_reducible rfl
                                 rotate_left
                                 ·simp only [Act.put, List.setIfInBounds_toArray, List.set_cons_zero, List.set_cons_succ, i64_w, i32_w]; rfl
                                 refine last_ (i := 24) (N := none) #[true, true, true, true, true, true, true, true, true, true, true, true, true, true, true, true, true, true, true, true, true, true, true, true, true] rfl rfl (one_of HT_.out (by kernel_rfl)) (by decide) (fun K hK => ?_)
                                 refine skip_ (w1 := ?_) (by rfl) rfl ?_ ?_
                                 rotate_left
                                 ·go_simp
                                  rfl
                                 refine hK.out _ _ ?_
                                 clear hK K; refine done_ (done_of HT_.out (by kernel_rfl)) ?_
                                 try go_wp2
                                 (try simp only [hl6_3])
                                 (try simp only [hji52])
                                 go_roundg k6
                                 case measure => have := HK1.out; have := HK2.out; have := HK3.out; have := HK4.out; have := HJ63.out; have := HK6.out; omega
                                 case rel => exact ⟨(y426), (wrap64 (x23_6 + 1)), (by first | rfl | (simp; done) | (simp [*]; done)), H', ⟨by have := HK1.out; have := HK2.out; have := HK3.out; have := HK4.out; have := HJ63.out; have := HK6.out; omega⟩, ⟨by (try simp only [hl6_3]); (with_reducible repeat (first | apply Kd.R_alloc | apply Kd.R_drewN | apply Kd.R_drew)); exact Kd.R_mono (Kd.R_far (p := ⟨go87, (x23_6 : Int).toNat * 2 + 1, none⟩) (Kd.R_far (p := ⟨go87, (x23_6 : Int).toNat * 2, none⟩) (Kd.R_types HO_6.out GG87.out (by decide)) (fun _ hk => hk.2) (.int .i64 ji85)) (fun _ hk => hk.2) (.int .i64 ji86)) (fun _ hk => ⟨hk.1.1, hk.1.2⟩)⟩, ⟨by (try simp only [hl6_3]); (with_reducible repeat (first | apply Kd.R_alloc | apply Kd.R_drewN | apply Kd.R_drew)); exact HQ91.out⟩, ⟨by (try simp only [hl6_3]); (with_reducible repeat (first | apply Kd.R_alloc | apply Kd.R_drewN | apply Kd.R_drew)); exact Kd.R_mono (Kd.R_far (p := ⟨go87, (x23_6 : Int).toNat * 2 + 1, none⟩) (Kd.R_far (p := ⟨go87, (x23_6 : Int).toNat * 2, none⟩) (Kd.R_types HO_10.out GG87.out (by decide)) (fun _ hk => hk.2) (.int .i64 ji85)) (fun _ hk => hk.2) (.int .i64 ji86)) (fun _ hk => ⟨hk.1.1, hk.1.2⟩)⟩, ⟨by (try simp only [hl6_3]); (with_reducible repeat (first | apply Kd.R_alloc | apply Kd.R_drewN | apply Kd.R_drew)); exact Kd.R_mono (Kd.R_far (p := ⟨go87, (x23_6 : Int).toNat * 2 + 1, none⟩) (Kd.R_far (p := ⟨go87, (x23_6 : Int).toNat * 2, none⟩) (Kd.R_types HO_16.out GG87.out (by decide)) (fun _ hk => hk.2) (.int .i64 ji85)) (fun _ hk => hk.2) (.int .i64 ji86)) (fun _ hk => ⟨hk.1.1, hk.1.2⟩)⟩, ⟨by (try simp only [hl6_3]); (with_reducible repeat (first | refine blk_drewN ?_ _ | refine blk_drew ?_ | refine blk_alloc ?_ _)); refine blk_far ?_ (by have h_ := Kd.R_ne HO_7.out BK410.out (by decide); intro e_; exact h_ (by rw [e_]; rfl)) _; (with_reducible repeat (first | refine blk_drewN ?_ _ | refine blk_drew ?_ | refine blk_alloc ?_ _)); refine blk_far ?_ (by have h_ := Kd.R_ne HO_7.out BK410.out (by decide); intro e_; exact h_ (by rw [e_]; rfl)) _; (with_reducible repeat (first | refine blk_drewN ?_ _ | refine blk_drew ?_ | refine blk_alloc ?_ _)); exact BK410.out⟩, ⟨by repeat (first | (with_reducible first | exact HB.out | apply below_alloc | apply pw_below_drewN | apply below_drew1 | refine below_set ?_ GB87.out | refine below_set ?_ GB87.out | refine below_set ?_ GE410.out) | exact HB.out)⟩⟩
                                ·rw [if_neg c84] at H
                                 exact absurd H (by simp)
                               ·rw [if_neg c83] at H
                                exact absurd H (by simp)
                              ·rw [if_neg c82] at H
                               have c82b0 : decide (x23_6 < (y419.length : Int)) = false := decide_eq_false c82
                               clear c82; have H' := Aside0.mk H
                               clear H; obtain ⟨Ao92, co92, eo92⟩ := Kd.R_slice HO_16.out
                               subst eo92
                               go_wp2
                               (try simp only [← hl6_3])
                               (try simp only [← hji52])
                               (try simp only [← hl6_3])
                               (try simp only [← hji52, ← hl6_3] at H')
                               go_roundg k6
                               case measure => have := HK1.out; have := HK2.out; have := HK3.out; have := HK4.out; have := HJ63.out; have := HK6.out; omega
                               case rel => exact ⟨(x6_3), (x7_6), (true), (x10_3), (wrap64 (x14_3 + 1)), (by first | rfl | (simp; done) | (simp [*]; done)), (by first | rfl | (simp; done) | (simp [*]; done)), H', ⟨by have := HK1.out; have := HK2.out; have := HK3.out; have := HK4.out; have := HJ63.out; have := HK6.out; omega⟩, ⟨by (try simp only [hl6_3]); (with_reducible repeat (first | apply Kd.R_alloc | apply Kd.R_drewN | apply Kd.R_drew)); exact Kd.R_mono HO_6.out (fun _ hk => hk.1)⟩, ⟨by (try simp only [hl6_3]); (with_reducible repeat (first | apply Kd.R_alloc | apply Kd.R_drewN | apply Kd.R_drew)); exact HO_7.out⟩, ⟨by (try simp only [hl6_3]); (with_reducible repeat (first | apply Kd.R_alloc | apply Kd.R_drewN | apply Kd.R_drew)); exact Kd.R_mono HO_10.out (fun _ hk => hk.1)⟩, ⟨by repeat (first | (with_reducible first | exact HB.out | apply below_alloc | apply pw_below_drewN | apply below_drew1 | refine below_set ?_ GE410.out) | exact HB.out)⟩⟩
                           ·rw [if_neg c80] at H
                            exact absurd H (by simp)
                       ·rw [if_neg c61] at H
                        exact absurd H (by simp)
                      ·rw [if_neg c60] at H
                       exact absurd H (by simp)
                     ·rw [if_neg c59] at H
                      exact absurd H (by simp)
                    ·rw [if_neg c58] at H
                     exact absurd H (by simp)
                   ·rw [if_neg c57] at H
                    exact absurd H (by simp)
                  ·rw [if_neg c56] at H
                   exact absurd H (by simp)
                 ·rw [if_neg c55] at H
                  exact absurd H (by simp)
                ·rw [if_neg c54] at H
                 exact absurd H (by simp)
               ·rw [if_neg c53] at H
                exact absurd H (by simp)
           ·rw [if_neg c22] at H
            exact absurd H (by simp)
          ·rw [if_neg c21] at H
           have c21b0 : decide (x14_3 < x12_2) = false := decide_eq_false c21
           clear c21; simp only [Option.some.injEq, Prod.mk.injEq] at H
           obtain ⟨rfl, rfl⟩ := H
           go_wp2
           go_ret2
           exact ⟨_, by first | rfl | (simp [errW_none, errW_some] <;> rfl) | (simp [*, errW_none, errW_some] <;> rfl), by (with_reducible repeat (first | apply Kd.R_alloc | apply Kd.R_drewN | apply Kd.R_drew)); exact HO_7.out, by repeat (first | (with_reducible first | exact HB.out | apply below_alloc | apply pw_below_drewN | apply below_drew1) | exact HB.out)⟩
end Go.Proofs.Ytdlekcdedahbhaa.Q
