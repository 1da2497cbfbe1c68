/- Functions printed by the kit's printer over these walks, and the plain law. No condition. -/
import Derived.Test.YtemingmeidmjkaaDoorV0
import Derived.Test.YtemingmeidmjkaaDoorGWoolWeights0
import Derived.Test.YtemingmeidmjkaaDoorV3
import Derived.Test.YtemingmeidmjkaaDoorV2
import Derived.WalkKit
import Derived.ProofKit
import Derived.OpenShut
import Derived.ShutString
import Derived.ChangeOld
import Derived.Below
import Derived.SizedLaws
import Derived.ChangeArms
import Derived.WideShapes
import Derived.Carry
import Derived.Test.YtemingmeidmjkaaDoorV1
import Derived.Test.YtemingmeidmjkaaDoorRows
import Derived.LaidLaws
import Derived.LaidHandle
import Derived.Handed
import Derived.ChangeSame
set_option linter.unusedVariables false
set_option linter.unusedSimpArgs false
namespace Go.Proofs.YtemingmeidmjkaaDoor.Q
open Go.RowKit Go.Proofs.YtemingmeidmjkaaDoorW.PrintWords Go.Proofs.YtemingmeidmjkaaDoorW.PrintLast Go.Proofs.YtemingmeidmjkaaDoorW.PrintMore
attribute [local go_sem] max2_int min2_int max_two min_two max_three min_three max_four min_four   -- for this text's walks alone
set_option linter.unusedVariables false
set_option linter.unusedSimpArgs false
def rf_Is.f (k : Nat) (l0 : List (List Bool)) : Option (Bool) := if 0 < (l0.length : Int) then ((rf_Ends.f k (rd_L9 l0 0)).bind fun bt246 => (some (decide (bt246.1 ≥ 0)))) else (none)
set_option maxHeartbeats 8000000 in
set_option maxRecDepth 100000 in
theorem rf_Is.calls (k : Nat) (A0 : Option Addr) (c0 : Nat) (l0 : List (List Bool)) (r : Bool) (w : World) (hr0 : Kd.C (Kd.slice 4 Kd.bool) w A0 l0.length l0) (hc0 : l0.length ≤ c0) (h : rf_Is.f k l0 = some r) :
  Calls Tryd.prog 25 #[.slice A0 l0.length c0] w fun e w' => e = .returned (.bool r) ∧ Below w.heap.size w w' := by
 have HR0 := Aside0.mk hr0; have HC0 := Aside0.mk hc0
 have hfd0_ : ∀ (w_ : World) (a0_ a1_ : Int), (Instr.field 41 (.agg #[.int .i64 a0_, .int .i64 a1_]) 0).run Tryd.prog w_ = .ok (.int .i64 a0_) w_ := by intros; kernel_rfl
 have hfd1_ : ∀ (w_ : World) (a0_ a1_ : Int), (Instr.field 41 (.agg #[.int .i64 a0_, .int .i64 a1_]) 1).run Tryd.prog w_ = .ok (.int .i64 a1_) w_ := by intros; kernel_rfl
 clear hr0 hc0; have HB := Aside0.mk (Below.refl w.heap.size w); have H : (if 0 < (l0.length : Int) then ((rf_Ends.f k (rd_L9 l0 0)).bind fun bt246 => (some (decide (bt246.1 ≥ 0)))) else (none)) = some r := h; clear h
 by_cases c2 : 0 < (l0.length : Int)
 ·rw [if_pos c2] at H
  have c2b0 : decide (0 < (l0.length : Int)) = true := decide_eq_true c2; have c2b1 : decide (0 < l0.length) = true := decide_eq_true (by omega); clear c2; obtain ⟨⟨t246, t247⟩, A30, H⟩ := Option.bind_eq_some_iff.mp H; replace H : (some (decide (t246 ≥ 0))) = some r := H; have A3 := Aside0.mk A30; clear A30; obtain rfl := Option.some.inj H; have p245 : 0 ≤ (0 : Int) := (by omega); have q245 : 0 < (l0.length : Int) := sqD; obtain ⟨ad245, A245_0, c245_0, e245, hx245_0, hl245_0, hi245_0⟩ := at_L9 HR0.out 0 p245 q245
  cases e245
  have qi245 : (0 < l0.length) = True := eq_true (by omega)
  (try rw [show ((0 : Int)).toNat = 0 from rfl] at hx245_0)
  (try rw [Addr.add_zero'] at hx245_0)
  have HR245_0 := Aside0.mk hi245_0; have HC245_0 := Aside0.mk hl245_0; clear hi245_0 hl245_0; replace p245 := eq_true p245; replace q245 := eq_true q245
  go_enter Tryd.func25, Tryd.ntmps25
  go_wp2_with (first | ((with_reducible refine gate_callee (f := 66) rfl ?_); refine goesL_ (some 6) rfl rfl Tryd.func66 sqF rfl #[.slice A245_0 (rd_L9 l0 0).length c245_0] rfl sqM ?_; (with_reducible refine (rf_Ends.calls k _ _ (rd_L9 l0 0) t246 t247 _ ?side1 ?side2 A3.out).mono ?_); (case side1 => repeat (first | exact HR245_0.out | (with_reducible refine Kd.C_alloc ?_ _) | (with_reducible refine Kd.C_drewN ?_ _) | (with_reducible refine Kd.C_drew ?_))); (case side2 => exact HC245_0.out); rintro e w4 ⟨rfl, hb⟩; refine ⟨_, rfl, ?_⟩; replace HB := sqb hb HB; (try clear hb); (try clear hb2); (try clear hk); (try clear hi)))
  go_ret
  exact ⟨by first | rfl | (simp [errW_none, errW_some] <;> rfl) | (simp [*, errW_none, errW_some] <;> rfl), sqB HB⟩
 ·rw [if_neg c2] at H
  exact absurd H (by simp)
def rf_Weights.l0 : Nat → List (List Bool) → List (S41) → Int → Option ((List (S41)))
 | 0, _, _, _ => none
 | k + 1, x0, x3, x4 => if x4 < (x0.length : Int) then (if 0 ≤ x4 then ((rf_Ends.f k (rd_L9 x0 x4)).bind fun bt252 => (if x3.length < 8796093022208 then (rf_Weights.l0 k x0 (x3 ++ [(⟨bt252.1, bt252.2⟩ : S41)]) (wrap64 (x4 + 1))) else (none))) else (none)) else (some x3)
def rf_Weights.f (k : Nat) (l0 : List (List Bool)) : Option ((List (S41))) := rf_Weights.l0 k l0 (([] : List (S41))) 0
set_option maxHeartbeats 8000000 in
set_option maxRecDepth 100000 in
theorem rf_Weights.calls (k : Nat) (A0 : Option Addr) (c0 : Nat) (l0 : List (List Bool)) (r : List (S41)) (w : World) (hr0 : Kd.C (Kd.slice 4 Kd.bool) w A0 l0.length l0) (hc0 : l0.length ≤ c0) (h : rf_Weights.f k l0 = some r) :
  Calls Tryd.prog 27 #[.slice A0 l0.length c0] w fun e w' => ∃ v0_ : Value, e = .returned (v0_) ∧ Kd.R k41 41 w' w.heap.size (fun _ => True) v0_ r ∧ Below w.heap.size w w' := by
 have HR0 := Aside0.mk hr0; have HC0 := Aside0.mk hc0; clear hr0 hc0; have HB := Aside0.mk (Below.refl w.heap.size w); have H : (rf_Weights.l0 k l0 (([] : List (S41))) 0) = some r := h; clear h; replace H : ∃ y_ : List (S41), y_ = (([] : List (S41))) ∧ (rf_Weights.l0 k l0 y_ 0) = some r := ⟨_, rfl, sqJ H⟩; obtain ⟨y248, hy248, H⟩ := H; have Ny248 := Aside0.mk hy248; clear hy248; have H' := Aside0.mk H; clear H; go_enter Tryd.func27, Tryd.ntmps27
 go_wp2_with (first | ((with_reducible refine gate_dst (N := 5) rfl ?_); refine Kd.R_lit k41 _ 41 ?hg (N := 5) ?hd (xs := ([] : List (S41))) (inner := []) (ok := fun _ => True) (okp := fun _ => True) ?hr ?hp (fun _ hk => hk) trivial (Below.refl _ _) (Nat.le_refl _) (by simp) ?_; (case hd => rfl); (case hg => rfl); (case hr => first | (go_simp; done) | (go_simp; rfl)); (case hp => exact (Reps.none _ _)); intro v249 w2 ho3 hb hg_ hnew_; clear hg_ hnew_; (first | rw [← Ny248.out] at ho3 | (simp only [Int.reduceToNat] at ho3; rw [← Ny248.out] at ho3)); have HO250 := Aside0.mk (Kd.R_lower ho3 (below_size (sqB HB))); replace HB := sqb hb HB; clear hb ho3))
 go_loopg [3, 4] k (fun kq v3 v4 w' => ∃ (x3_1 : List (S41)) (x4_1 : Int), v4 = .int .i64 x4_1 ∧ Aside0 (rf_Weights.l0 kq l0 x3_1 x4_1 = some r) ∧ Aside0 (kq ≤ k) ∧ Aside0 (Kd.R k41 41 w' w.heap.size (fun _ => True) v3 x3_1) ∧ Aside0 (Below w.heap.size w w'))
 case atStart => exact ⟨(y248), (0), sqE, H', ⟨Nat.le_refl _⟩, ⟨sqR HO250⟩, ⟨sqB HB⟩⟩
 case round =>
  clear H'; obtain ⟨x3_1, x4_1, rfl, HA, HK1, HO_3, HB⟩ := hrel
  cases gk with
  | zero => exact absurd HA.out (by simp [rf_Weights.l0])
  | succ k1 =>
   have H := HA.out; clear HA; simp only [rf_Weights.l0] at H
   by_cases c4 : x4_1 < (l0.length : Int)
   ·rw [if_pos c4] at H
    have c4b0 : decide (x4_1 < (l0.length : Int)) = true := decide_eq_true c4; clear c4
    by_cases c5 : 0 ≤ x4_1
    ·rw [if_pos c5] at H
     have c5b0 : decide (0 ≤ x4_1) = true := decide_eq_true c5; clear c5; obtain ⟨⟨t252, t253⟩, A60, H⟩ := Option.bind_eq_some_iff.mp H; replace H : (if x3_1.length < 8796093022208 then (rf_Weights.l0 k1 l0 (x3_1 ++ [(⟨t252, t253⟩ : S41)]) (wrap64 (x4_1 + 1))) else (none)) = some r := H; have A6 := Aside0.mk A60; clear A60
     by_cases c7 : x3_1.length < 8796093022208
     ·rw [if_pos c7] at H
      have LMc7 := Aside0.mk c7; clear c7; replace H : ∃ y_ : List (S41), y_ = (x3_1 ++ [(⟨t252, t253⟩ : S41)]) ∧ (rf_Weights.l0 k1 l0 y_ (wrap64 (x4_1 + 1))) = some r := ⟨_, rfl, sqJ H⟩; obtain ⟨y254, hy254, H⟩ := H; have Ny254 := Aside0.mk hy254; clear hy254; have H' := Aside0.mk H; clear H; have p251 : 0 ≤ (x4_1 : Int) := sqD; have q251 : x4_1 < (l0.length : Int) := sqD; obtain ⟨ad251, A251_0, c251_0, e251, hx251_0, hl251_0, hi251_0⟩ := at_L9 HR0.out x4_1 p251 q251
      cases e251
      replace hx251_0 := (HB.out.cell (World.block_lt_of_cell? w _ hx251_0)).trans hx251_0; have HR251_0 := Aside0.mk hi251_0; have HC251_0 := Aside0.mk hl251_0; clear hi251_0 hl251_0; replace p251 := eq_true p251; replace q251 := eq_true q251
      go_wp2_with (first | ((with_reducible refine gate_callee (f := 66) rfl ?_); refine goesL_ (some 17) rfl rfl Tryd.func66 sqF rfl #[.slice A251_0 (rd_L9 l0 x4_1).length c251_0] rfl sqM ?_; (with_reducible refine (rf_Ends.calls k1 _ _ (rd_L9 l0 x4_1) t252 t253 _ ?side1 ?side2 A6.out).mono ?_); (case side1 => exact sqQ HR251_0 HB); (case side2 => exact HC251_0.out); rintro e w8 ⟨rfl, hb⟩; refine ⟨_, rfl, ?_⟩; replace HO_3 := Aside0.mk (Kd.R_below (sqR HO_3) hb); replace HB := sqb hb HB; (try clear hb); (try clear hb2); (try clear hk); (try clear hi)) | ((with_reducible refine gate_builtin (b := .append) (xs := #[.tmp 12, .tmp 18]) rfl ?_); at_builtin; refine Kd.R_append k41 (w0 := w) w.heap.size rfl (.tmp 12) (.tmp 18) 22 41 (.agg #[(.int .i64 0), (.int .i64 0)]) 16 rfl Tryd.underlying22 info41 rfl (by decide) (by omega) u3 x3_1 (⟨t252, t253⟩ : S41) [.int .i64 t252, .int .i64 t253] (fun _ => True) (fun _ => False) rfl rfl ?aP (fun _ hk => hk.elim) ?aF ?aO ?aB ?aS ?aL ?_; (case aP => exact k41_mkM _ _ _ (⟨t252, t253⟩ : S41)); (case aB => exact (sqB HB)); (case aF => exact (fun _ _ => trivial)); (case aO => exact (sqR HO_3)); (case aS => exact (below_size (sqB HB))); (case aL => have := LMc7.out; omega); intro v255 w9 ho hb hg hat; rw [← Ny254.out] at ho; replace HB := Aside0.mk (hb); have HO256 := Aside0.mk (ho); clear HO_3; clear ho hb hg hat))
      go_roundg k1
      case measure => have := HK1.out; omega
      case rel => exact ⟨(y254), (wrap64 (x4_1 + 1)), sqE, H', ⟨by have := HK1.out; omega⟩, ⟨sqR HO256⟩, ⟨sqB HB⟩⟩
     ·rw [if_neg c7] at H
      exact absurd H (by simp)
    ·rw [if_neg c5] at H
     exact absurd H (by simp)
   ·rw [if_neg c4] at H
    have c4b0 : decide (x4_1 < (l0.length : Int)) = false := decide_eq_false c4; clear c4; obtain rfl := Option.some.inj H
    go_wp2
    go_ret
    exact ⟨_, by first | rfl | (simp [errW_none, errW_some] <;> rfl) | (simp [*, errW_none, errW_some] <;> rfl), by (with_reducible repeat (first | apply Kd.R_alloc | apply Kd.R_drewN | apply Kd.R_drew)); exact HO_3.out, sqB HB⟩
end Go.Proofs.YtemingmeidmjkaaDoor.Q
namespace Go.Proofs.YtemingmeidmjkaaDoor.Q
open Go.RowKit Go.Proofs.YtemingmeidmjkaaDoorW.PrintWords Go.Proofs.YtemingmeidmjkaaDoorW.PrintLast Go.Proofs.YtemingmeidmjkaaDoorW.PrintMore
attribute [local go_sem] max2_int min2_int max_two min_two max_three min_three max_four min_four   -- for this text's walks alone
set_option linter.unusedVariables false
set_option linter.unusedSimpArgs false
mutual
def rf_Flocks.l0 : Nat → List (List Bool) → List (S41) → Int → List (S41) → List (S80) → Option ((List (S41)))
 | 0, _, _, _, _, _ => none
 | k + 1, x1, x5, x6, x258000, x258001 => if x6 < (x258000.length : Int) then (rf_Flocks.l1 k x1 x5 x6 0 x258000 x258001 401 (-1)) else (some x5)
def rf_Flocks.l1 : Nat → List (List Bool) → List (S41) → Int → Int → List (S41) → List (S80) → Int → Int → Option ((List (S41)))
 | 0, _, _, _, _, _, _, _, _ => none
 | k + 1, x1, x5, x6, x8, x258000, x258001, x262000, x262001 => if x8 ≤ 400 then (rf_Flocks.l2 k x1 x5 x6 x8 0 x258000 x258001 x262000 x262001) else (if x5.length < 8796093022208 then (rf_Flocks.l0 k x1 (x5 ++ [(⟨x262000, x262001⟩ : S41)]) (wrap64 (x6 + 1)) x258000 x258001) else (none))
def rf_Flocks.l2 : Nat → List (List Bool) → List (S41) → Int → Int → Int → List (S41) → List (S80) → Int → Int → Option ((List (S41)))
 | 0, _, _, _, _, _, _, _, _, _ => none
 | k + 1, x1, x5, x6, x8, x9, x258000, x258001, x262000, x262001 => if x9 ≤ x8 then (if 0 ≤ x6 then (if x6 < (x1.length : Int) then (if 0 ≤ x8 then (if x8 < ((rd_L9 x1 x6).length : Int) then (rf_Flocks.j3 k x1 x5 x6 x8 x9 (rdOf false (rd_L9 x1 x6) x8) x258000 x258001 x262000 x262001) else (none)) else (none)) else (none)) else (none)) else (rf_Flocks.j3 k x1 x5 x6 x8 x9 false x258000 x258001 x262000 x262001)
def rf_Flocks.j3 : Nat → List (List Bool) → List (S41) → Int → Int → Int → Bool → List (S41) → List (S80) → Int → Int → Option ((List (S41)))
 | 0, _, _, _, _, _, _, _, _, _, _ => none
 | k + 1, x1, x5, x6, x8, x9, x34, x258000, x258001, x262000, x262001 => if x34 = true then (if 0 ≤ (wrap64 (x6 + 1)) then (if (wrap64 (x6 + 1)) < (x1.length : Int) then (if 0 ≤ x9 then (if x9 < ((rd_L9 x1 (wrap64 (x6 + 1))).length : Int) then (if rdOf false (rd_L9 x1 (wrap64 (x6 + 1))) x9 = true then ((rf_Step.f x258000 x258001 x6 x8 x9 false).bind fun t269 => (if t269 = true then (rf_Flocks.l2 k x1 x5 x6 x8 (wrap64 (x9 + 1)) x258000 x258001 (mn x262000 (wrap64 (x8 - x9))) (mx x262001 (wrap64 (x8 - x9)))) else (rf_Flocks.l2 k x1 x5 x6 x8 (wrap64 (x9 + 1)) x258000 x258001 x262000 x262001))) else (rf_Flocks.l2 k x1 x5 x6 x8 (wrap64 (x9 + 1)) x258000 x258001 x262000 x262001)) else (none)) else (none)) else (none)) else (none)) else (rf_Flocks.l1 k x1 x5 x6 (wrap64 (x8 + 1)) x258000 x258001 x262000 x262001)
end
def rf_Flocks.f (k : Nat) (l0_0 : List (S41)) (l0_1 : List (S80)) (l1 : List (List Bool)) : Option ((List (S41))) := rf_Flocks.l0 k l1 (([] : List (S41))) 0 l0_0 l0_1
set_option maxHeartbeats 8000000 in
set_option maxRecDepth 100000 in
theorem rf_Flocks.calls (k : Nat) (A0_0 : Option Addr) (c0_0 : Nat) (l0_0 : List (S41)) (A0_1 : Option Addr) (c0_1 : Nat) (l0_1 : List (S80)) (A1 : Option Addr) (c1 : Nat) (l1 : List (List Bool)) (r : List (S41)) (w : World) (hr0_0 : Kd.C k41 w A0_0 l0_0.length l0_0) (hc0_0 : l0_0.length ≤ c0_0) (hr0_1 : Kd.C k80 w A0_1 l0_1.length l0_1) (hc0_1 : l0_1.length ≤ c0_1) (hr1 : Kd.C (Kd.slice 4 Kd.bool) w A1 l1.length l1) (hc1 : l1.length ≤ c1) (h : rf_Flocks.f k l0_0 l0_1 l1 = some r) :
  Calls Tryd.prog 28 #[.agg #[.slice A0_0 l0_0.length c0_0, .slice A0_1 l0_1.length c0_1], .slice A1 l1.length c1] w fun e w' => ∃ v0_ : Value, e = .returned (v0_) ∧ Kd.R k41 41 w' w.heap.size (fun _ => True) v0_ r ∧ Below w.heap.size w w' := by
 have hu25 := Tryd.underlying25; have hu41 := Tryd.underlying41; have HR0_0 := Aside0.mk hr0_0; have HC0_0 := Aside0.mk hc0_0; clear hr0_0 hc0_0; have HR0_1 := Aside0.mk hr0_1; have HC0_1 := Aside0.mk hc0_1; clear hr0_1 hc0_1; have HR1 := Aside0.mk hr1; have HC1 := Aside0.mk hc1; clear hr1 hc1; have HB := Aside0.mk (Below.refl w.heap.size w); have H : (rf_Flocks.l0 k l1 (([] : List (S41))) 0 l0_0 l0_1) = some r := h; clear h; replace H : ∃ y_ : List (S41), y_ = (([] : List (S41))) ∧ (rf_Flocks.l0 k l1 y_ 0 l0_0 l0_1) = some r := ⟨_, rfl, sqJ H⟩; obtain ⟨y258, hy258, H⟩ := H; have Ny258 := Aside0.mk hy258; clear hy258; have H' := Aside0.mk H; clear H; go_enter Tryd.func28, Tryd.ntmps28
 go_wp2_with (first | ((with_reducible refine gate_dst (N := 2) rfl ?_); refine box_event ?hg (N := 2) ?hd (cs := #[.slice A0_0 l0_0.length c0_0, .slice A0_1 l0_1.length c0_1]) (t := 25) ?hr ?_; (case hd => rfl); (case hg => rfl); (case hr => first | (go_simp; done) | (go_simp; rfl)); intro gb257 hg w3 hbox hb; have BK257 := Aside0.mk (hbox); have GW257 := Aside0.mk (sqZ hg HB); have GE257 := Aside0.mk (sqZ hg HB); replace HB := sqb hb HB; clear hb hbox hg) | ((with_reducible refine gate_dst (N := 10) rfl ?_); refine Kd.R_lit k41 _ 41 ?hg (N := 10) ?hd (xs := ([] : List (S41))) (inner := []) (ok := fun _ => True) (okp := fun _ => True) ?hr ?hp (fun _ hk => hk) trivial (Below.refl _ _) (Nat.le_refl _) (by simp) ?_; (case hd => rfl); (case hg => rfl); (case hr => first | (go_simp; done) | (go_simp; rfl)); (case hp => exact (Reps.none _ _)); intro v259 w4 ho5 hb hg_ hnew_; clear hg_ hnew_; (first | rw [← Ny258.out] at ho5 | (simp only [Int.reduceToNat] at ho5; rw [← Ny258.out] at ho5)); have HO260 := Aside0.mk (Kd.R_lower ho5 (below_size (sqB HB))); replace BK257 := sqk BK257 hb; replace HB := sqb hb HB; clear hb ho5))
 go_loopg [5, 6] k (fun kq v5 v6 w' => ∃ (x5_1 : List (S41)) (x6_1 : Int), v6 = .int .i64 x6_1 ∧ Aside0 (rf_Flocks.l0 kq l1 x5_1 x6_1 l0_0 l0_1 = some r) ∧ Aside0 (kq ≤ k) ∧ Aside0 (Kd.R k41 41 w' w.heap.size (fun _ => True) v5 x5_1) ∧ Aside0 (w'.heap[gb257]? = some (.cells #[(.slice A0_0 l0_0.length c0_0), (.slice A0_1 l0_1.length c0_1)] 25 (0, 0))) ∧ Aside0 (Below w.heap.size w w'))
 case atStart => exact ⟨(y258), (0), sqE, H', ⟨Nat.le_refl _⟩, ⟨sqR HO260⟩, ⟨sqK BK257⟩, ⟨sqB HB⟩⟩
 case round =>
  clear H'; try clear c1
  obtain ⟨x5_1, x6_1, rfl, HA, HK1, HO_5, BK257, HB⟩ := hrel
  cases gk with
  | zero => exact absurd HA.out (by simp [rf_Flocks.l0])
  | succ k1 =>
   have H := HA.out; clear HA; simp only [rf_Flocks.l0] at H
   by_cases c6 : x6_1 < (l0_0.length : Int)
   ·rw [if_pos c6] at H
    have c6b0 : decide (x6_1 < (l0_0.length : Int)) = true := decide_eq_true c6; clear c6; have H' := Aside0.mk H; clear H; have hcz7_0 := sqc0 BK257; have hcz7_1 := sqc1 BK257; have hfz7_0 := blk_frozen BK257.out 0; have hfz7_1 := blk_frozen BK257.out 1
    go_wp2_with (first | ((with_reducible refine gate_dst (N := 7) rfl ?_); refine box_event ?hg (N := 7) ?hd (cs := #[.int .i64 0, .int .i64 0]) (t := 41) ?hr ?_; (case hd => rfl); (case hg => rfl); (case hr => first | (go_simp; done) | (go_simp; rfl)); intro gb261 hg w8 hbox hb; replace HO_5 := Aside0.mk (Kd.R_below (Kd.R_elderB (sqR HO_5) gb261 (Nat.le_of_eq hg.symm)) hb); have BK261 := Aside0.mk (hbox); have GW261 := Aside0.mk (sqZ hg HB); have GE261 := Aside0.mk (sqZ hg HB); replace HB := sqb hb HB; have NB257_261 := Aside0.mk (sqL hg BK257); have NB261_257 := Aside0.mk (sqG hg BK257); replace BK257 := sqk BK257 hb; clear hb hbox hg; have hnb9 := NB261_257.out; have hnc9 := NB257_261.out; have hcz10_0 := sqc0 BK261; have hcz10_1 := sqc1 BK261; have hfz10_0 := blk_frozen BK261.out 0; have hfz10_1 := blk_frozen BK261.out 1))
    go_loopg [8] k1 (fun kq v8 w' => ∃ (x8_2 : Int) (x262000_2 : Int) (x262001_2 : Int), v8 = .int .i64 x8_2 ∧ Aside0 (rf_Flocks.l1 kq l1 x5_1 x6_1 x8_2 l0_0 l0_1 x262000_2 x262001_2 = some r) ∧ Aside0 (kq ≤ k1) ∧ Aside0 (Kd.R k41 41 w' w.heap.size (fun k_ => k_ ≠ gb261) u5 x5_1) ∧ Aside0 (w'.heap[gb257]? = some (.cells #[(.slice A0_0 l0_0.length c0_0), (.slice A0_1 l0_1.length c0_1)] 25 (0, 0))) ∧ Aside0 (w'.heap[gb261]? = some (.cells #[.int .i64 x262000_2, .int .i64 x262001_2] 41 (0, 0))) ∧ Aside0 (Below w.heap.size w w'))
    case atStart => exact ⟨(0), (401), ((-1)), sqE, H', ⟨Nat.le_refl _⟩, ⟨by (with_reducible repeat (first | apply Kd.R_alloc | apply Kd.R_drewN | apply Kd.R_drew)); exact Kd.R_mono (Kd.R_far (p := ⟨gb261, 1, none⟩) (Kd.R_far (p := ⟨gb261, 0, none⟩) (Kd.R_mono HO_5.out (fun k_ hk => (⟨hk, hk.2⟩ : _ ∧ k_ ≠ gb261))) (fun _ hk => hk.2) (.int .i64 401)) (fun _ hk => hk.2) (.int .i64 (-1))) (fun _ hk => hk.1.2)⟩, ⟨sqX⟩, ⟨by (with_reducible repeat (first | refine blk_drewN ?_ _ | refine blk_drew ?_ | refine blk_alloc ?_ _)); refine blk_put (cs := #[.int .i64 401, .int .i64 0]) ?_ 1 _ rfl; (with_reducible repeat (first | refine blk_drewN ?_ _ | refine blk_drew ?_ | refine blk_alloc ?_ _)); refine blk_put (cs := #[.int .i64 0, .int .i64 0]) ?_ 0 _ rfl; (with_reducible repeat (first | refine blk_drewN ?_ _ | refine blk_drew ?_ | refine blk_alloc ?_ _)); exact BK261.out⟩, ⟨sqB HB⟩⟩
    case round =>
     clear H'; try clear c6b0
     (try clear hcz10_0); (try clear hcz10_1); (try clear hcz7_0); (try clear hcz7_1); (try clear hfz10_0); (try clear hfz10_1); (try clear hfz7_0); (try clear hfz7_1); obtain ⟨x8_2, x262000_2, x262001_2, rfl, HA, HK2, HO_5, BK257, BK261, HB⟩ := hrel
     cases gk with
     | zero => exact absurd HA.out (by simp [rf_Flocks.l1])
     | succ k2 =>
      have H := HA.out; clear HA; simp only [rf_Flocks.l1] at H
      by_cases c11 : x8_2 ≤ 400
      ·rw [if_pos c11] at H
       have c11b0 : decide (x8_2 ≤ 400) = true := decide_eq_true c11; clear c11; have H' := Aside0.mk H; clear H; go_wp2
       go_loopg [9] k2 (fun kq v9 w' => ∃ (x9_3 : Int) (x262000_3 : Int) (x262001_3 : Int), v9 = .int .i64 x9_3 ∧ Aside0 (rf_Flocks.l2 kq l1 x5_1 x6_1 x8_2 x9_3 l0_0 l0_1 x262000_3 x262001_3 = some r) ∧ Aside0 (kq ≤ k2) ∧ Aside0 (Kd.R k41 41 w' w.heap.size (fun k_ => k_ ≠ gb261) u5 x5_1) ∧ Aside0 (w'.heap[gb257]? = some (.cells #[(.slice A0_0 l0_0.length c0_0), (.slice A0_1 l0_1.length c0_1)] 25 (0, 0))) ∧ Aside0 (w'.heap[gb261]? = some (.cells #[.int .i64 x262000_3, .int .i64 x262001_3] 41 (0, 0))) ∧ Aside0 (Below w.heap.size w w'))
       case atStart => exact ⟨(0), (x262000_2), (x262001_2), sqE, H', ⟨Nat.le_refl _⟩, ⟨sqR HO_5⟩, ⟨sqK BK257⟩, ⟨sqK BK261⟩, ⟨sqB HB⟩⟩
       case round =>
        clear H'; try clear c11b0
        obtain ⟨x9_3, x262000_3, x262001_3, rfl, HA, HK3, HO_5, BK257, BK261, HB⟩ := hrel
        cases gk with
        | zero => exact absurd HA.out (by simp [rf_Flocks.l2])
        | succ k3 =>
         have H := HA.out; clear HA; simp only [rf_Flocks.l2] at H; have HC12 := Aside0.mk H
         clear H; go_upto_region 10 with (fail)
         go_cut [34] (fun v34 wc => ∃ (kq : Nat) (x34_11 : Bool), v34 = .bool x34_11 ∧ Aside0 (rf_Flocks.j3 kq l1 x5_1 x6_1 x8_2 x9_3 x34_11 l0_0 l0_1 x262000_3 x262001_3 = some r) ∧ Aside0 (kq ≤ k3) ∧ Aside0 (Kd.R k41 41 wc w.heap.size (fun k_ => k_ ≠ gb261) u5 x5_1) ∧ Aside0 (wc.heap[gb257]? = some (.cells #[(.slice A0_0 l0_0.length c0_0), (.slice A0_1 l0_1.length c0_1)] 25 (0, 0))) ∧ Aside0 (wc.heap[gb261]? = some (.cells #[.int .i64 x262000_3, .int .i64 x262001_3] 41 (0, 0))) ∧ Aside0 (Below w.heap.size w wc))
         case first =>
          have H := HC12.out; clear HC12
          by_cases c13 : x9_3 ≤ x8_2
          ·rw [if_pos c13] at H
           have c13b0 : decide (x9_3 ≤ x8_2) = true := decide_eq_true c13; clear c13
           (first | rw [c13b0] | (simp only [i64_w, i32_w]; rw [c13b0]) | skip)
           by_cases c14 : 0 ≤ x6_1
           ·rw [if_pos c14] at H
            have c14b0 : decide (0 ≤ x6_1) = true := decide_eq_true c14; clear c14
            by_cases c15 : x6_1 < (l1.length : Int)
            ·rw [if_pos c15] at H
             have c15b0 : decide (x6_1 < (l1.length : Int)) = true := decide_eq_true c15; clear c15
             by_cases c16 : 0 ≤ x8_2
             ·rw [if_pos c16] at H
              have c16b0 : decide (0 ≤ x8_2) = true := decide_eq_true c16; clear c16
              by_cases c17 : x8_2 < ((rd_L9 l1 x6_1).length : Int)
              ·rw [if_pos c17] at H
               have c17b0 : decide (x8_2 < ((rd_L9 l1 x6_1).length : Int)) = true := decide_eq_true c17; clear c17; have H' := Aside0.mk H; clear H; have p265 : 0 ≤ (x6_1 : Int) := sqD; have q265 : x6_1 < (l1.length : Int) := sqD; obtain ⟨ad265, A265_0, c265_0, e265, hx265_0, hl265_0, hi265_0⟩ := at_L9 HR1.out x6_1 p265 q265
               cases e265
               replace hx265_0 := (HB.out.cell (World.block_lt_of_cell? w _ hx265_0)).trans hx265_0; have HR265_0 := Aside0.mk hi265_0; have HC265_0 := Aside0.mk hl265_0; clear hi265_0 hl265_0; replace p265 := eq_true p265; replace q265 := eq_true q265; have p266 : 0 ≤ (x8_2 : Int) := sqD; have q266 : x8_2 < ((rd_L9 l1 x6_1).length : Int) := sqD; obtain ⟨ad266, e266, hx266_0⟩ := Kd.at_bool HR265_0.out x8_2 p266 q266
               cases e266
               replace hx266_0 := (HB.out.cell (World.block_lt_of_cell? w _ hx266_0)).trans hx266_0; replace p266 := eq_true p266; replace q266 := eq_true q266
               go_wp2
               go_meet
               case rel => exact ⟨_, (rdOf false (rd_L9 l1 x6_1) x8_2), sqE, H', ⟨by have := HK1.out; have := HK2.out; have := HK3.out; first | omega | exact Nat.le_refl _⟩, ⟨sqR HO_5⟩, ⟨sqK BK257⟩, ⟨sqK BK261⟩, ⟨sqB HB⟩⟩
              ·rw [if_neg c17] at H
               exact absurd H (by simp)
             ·rw [if_neg c16] at H
              exact absurd H (by simp)
            ·rw [if_neg c15] at H
             exact absurd H (by simp)
           ·rw [if_neg c14] at H
            exact absurd H (by simp)
          ·rw [if_neg c13] at H
           have c13b0 : decide (x9_3 ≤ x8_2) = false := decide_eq_false c13; clear c13
           (first | rw [c13b0] | (simp only [i64_w, i32_w]; rw [c13b0]) | skip)
           have H' := Aside0.mk H; clear H; go_wp2
           go_meet
           case rel => exact ⟨_, (false), sqE, H', ⟨by have := HK1.out; have := HK2.out; have := HK3.out; first | omega | exact Nat.le_refl _⟩, ⟨sqR HO_5⟩, ⟨sqK BK257⟩, ⟨sqK BK261⟩, ⟨sqB HB⟩⟩
         case rest =>
          clear HC12; obtain ⟨kq, x34_11, rfl, HA, HJ11, HO_5, BK257, BK261, HB⟩ := hcut
          cases kq with
          | zero => exact absurd HA.out (by simp [rf_Flocks.j3])
          | succ kj11 =>
           have H := HA.out; clear HA; simp only [rf_Flocks.j3] at H
           by_cases c18 : x34_11 = true
           ·subst c18
            rw [if_pos rfl] at H; obtain ⟨ji19, hji19⟩ : ∃ j_ : Int, (wrap64 (x6_1 + 1)) = j_ := ⟨_, rfl⟩
            replace H : (if 0 ≤ (ji19) then (if (ji19) < (l1.length : Int) then (if 0 ≤ x9_3 then (if x9_3 < ((rd_L9 l1 (ji19)).length : Int) then (if rdOf false (rd_L9 l1 (ji19)) x9_3 = true then ((rf_Step.f l0_0 l0_1 x6_1 x8_2 x9_3 false).bind fun t269 => (if t269 = true then (rf_Flocks.l2 kj11 l1 x5_1 x6_1 x8_2 (wrap64 (x9_3 + 1)) l0_0 l0_1 (mn x262000_3 (wrap64 (x8_2 - x9_3))) (mx x262001_3 (wrap64 (x8_2 - x9_3)))) else (rf_Flocks.l2 kj11 l1 x5_1 x6_1 x8_2 (wrap64 (x9_3 + 1)) l0_0 l0_1 x262000_3 x262001_3))) else (rf_Flocks.l2 kj11 l1 x5_1 x6_1 x8_2 (wrap64 (x9_3 + 1)) l0_0 l0_1 x262000_3 x262001_3)) else (none)) else (none)) else (none)) else (none)) = some r := by first | (rw [hji19] at H; exact H) | (simp only [hji19] at H ⊢; exact H)
            have hji19w : (IntKind.i64.wrap (x6_1 + 1)) = ji19 := (i64_w _).trans hji19
            by_cases c20 : 0 ≤ (ji19)
            ·rw [if_pos c20] at H
             have c20b0 : decide (0 ≤ (ji19)) = true := decide_eq_true c20; clear c20
             by_cases c21 : (ji19) < (l1.length : Int)
             ·rw [if_pos c21] at H
              have c21b0 : decide ((ji19) < (l1.length : Int)) = true := decide_eq_true c21; clear c21
              by_cases c22 : 0 ≤ x9_3
              ·rw [if_pos c22] at H
               have c22b0 : decide (0 ≤ x9_3) = true := decide_eq_true c22; clear c22
               by_cases c23 : x9_3 < ((rd_L9 l1 (ji19)).length : Int)
               ·rw [if_pos c23] at H
                have c23b0 : decide (x9_3 < ((rd_L9 l1 (ji19)).length : Int)) = true := decide_eq_true c23; clear c23; obtain ⟨bq24, hbq24⟩ : ∃ b_ : Bool, b_ = (rdOf false (rd_L9 l1 (ji19)) x9_3) := ⟨_, rfl⟩
                replace H : (if bq24 = true then ((rf_Step.f l0_0 l0_1 x6_1 x8_2 x9_3 false).bind fun t269 => (if t269 = true then (rf_Flocks.l2 kj11 l1 x5_1 x6_1 x8_2 (wrap64 (x9_3 + 1)) l0_0 l0_1 (mn x262000_3 (wrap64 (x8_2 - x9_3))) (mx x262001_3 (wrap64 (x8_2 - x9_3)))) else (rf_Flocks.l2 kj11 l1 x5_1 x6_1 x8_2 (wrap64 (x9_3 + 1)) l0_0 l0_1 x262000_3 x262001_3))) else (rf_Flocks.l2 kj11 l1 x5_1 x6_1 x8_2 (wrap64 (x9_3 + 1)) l0_0 l0_1 x262000_3 x262001_3)) = some r := by rw [← hbq24] at H; exact H
                have Nbq24 := Aside0.mk hbq24; clear hbq24
                by_cases c25 : bq24 = true
                ·subst c25
                 rw [if_pos rfl] at H; obtain ⟨t269, A260, H⟩ := Option.bind_eq_some_iff.mp H; have A26 := Aside0.mk A260; clear A260
                 by_cases c27 : t269 = true
                 ·subst c27
                  rw [if_pos rfl] at H; obtain ⟨ji28, hji28⟩ : ∃ j_ : Int, (mn x262000_3 (wrap64 (x8_2 - x9_3))) = j_ := ⟨_, rfl⟩
                  replace H : (rf_Flocks.l2 kj11 l1 x5_1 x6_1 x8_2 (wrap64 (x9_3 + 1)) l0_0 l0_1 ji28 (mx x262001_3 (wrap64 (x8_2 - x9_3)))) = some r := by first | (rw [hji28] at H; exact H) | (simp only [hji28] at H ⊢; exact H)
                  (try rw [hji28] at A26)
                  have hji28_ : (if (wrap64 (x8_2 - x9_3)) < x262000_3 then (wrap64 (x8_2 - x9_3)) else x262000_3) = ji28 := hji28; obtain ⟨ji29, hji29⟩ : ∃ j_ : Int, (mx x262001_3 (wrap64 (x8_2 - x9_3))) = j_ := ⟨_, rfl⟩
                  replace H : (rf_Flocks.l2 kj11 l1 x5_1 x6_1 x8_2 (wrap64 (x9_3 + 1)) l0_0 l0_1 ji28 ji29) = some r := by first | (rw [hji29] at H; exact H) | (simp only [hji29] at H ⊢; exact H)
                  (try rw [hji29] at A26)
                  have hji29_ : (if x262001_3 < (wrap64 (x8_2 - x9_3)) then (wrap64 (x8_2 - x9_3)) else x262001_3) = ji29 := hji29; have H' := Aside0.mk H; clear H; have p267 : 0 ≤ ((ji19) : Int) := sqD; have q267 : (ji19) < (l1.length : Int) := sqD; obtain ⟨ad267, A267_0, c267_0, e267, hx267_0, hl267_0, hi267_0⟩ := at_L9 HR1.out (ji19) p267 q267
                  cases e267
                  replace hx267_0 := (HB.out.cell (World.block_lt_of_cell? w _ hx267_0)).trans hx267_0; have HR267_0 := Aside0.mk hi267_0; have HC267_0 := Aside0.mk hl267_0; clear hi267_0 hl267_0; replace p267 := eq_true p267; replace q267 := eq_true q267; have p268 : 0 ≤ (x9_3 : Int) := sqD; have q268 : x9_3 < ((rd_L9 l1 (ji19)).length : Int) := sqD; obtain ⟨ad268, e268, hx268_0⟩ := Kd.at_bool HR267_0.out x9_3 p268 q268
                  (try rw [← Nbq24.out] at hx268_0)
                  cases e268
                  replace hx268_0 := (HB.out.cell (World.block_lt_of_cell? w _ hx268_0)).trans hx268_0; replace p268 := eq_true p268; replace q268 := eq_true q268; have hnb30 := NB257_261.out; have hnc30 := NB261_257.out; have hcz31_0 := sqc0 BK257; have hcz31_1 := sqc1 BK257; have hfz31_0 := blk_frozen BK257.out 0; have hfz31_1 := blk_frozen BK257.out 1
                  go_wp2_with (first | (go_at_call 65; (with_reducible refine (rf_Step.calls _ _ l0_0 _ _ l0_1 x6_1 x8_2 x9_3 false true _ ?side1 ?side2 ?side3 ?side4 A26.out).mono ?_); (case side1 => exact sqQ HR0_0 HB); (case side2 => exact HC0_0.out); (case side3 => exact sqQ HR0_1 HB); (case side4 => exact HC0_1.out); rintro e w32 ⟨rfl, hb⟩; replace HO_5 := Aside0.mk (Kd.R_below (sqR HO_5) hb); replace BK257 := sqk BK257 hb; replace BK261 := sqk BK261 hb; replace HB := sqb hb HB; (try clear hb); (try clear hb2); (try clear hk); (try clear hi); have hcz33_0 := sqc0 BK261; have hcz33_1 := sqc1 BK261; have hfz33_0 := blk_frozen BK261.out 0; have hfz33_1 := blk_frozen BK261.out 1))
                  go_roundg kj11
                  case measure => have := HK1.out; have := HK2.out; have := HK3.out; have := HJ11.out; omega
                  case rel => exact ⟨(wrap64 (x9_3 + 1)), (ji28), (ji29), sqE, H', ⟨by have := HK1.out; have := HK2.out; have := HK3.out; have := HJ11.out; omega⟩, ⟨by (with_reducible repeat (first | apply Kd.R_alloc | apply Kd.R_drewN | apply Kd.R_drew)); exact Kd.R_mono (Kd.R_far (p := ⟨gb261, 1, none⟩) (Kd.R_far (p := ⟨gb261, 0, none⟩) (Kd.R_mono HO_5.out (fun k_ hk => (⟨hk, hk⟩ : _ ∧ k_ ≠ gb261))) (fun _ hk => hk.2) (.int .i64 ji28)) (fun _ hk => hk.2) (.int .i64 ji29)) (fun _ hk => hk.1)⟩, ⟨sqX⟩, ⟨by (with_reducible repeat (first | refine blk_drewN ?_ _ | refine blk_drew ?_ | refine blk_alloc ?_ _)); refine blk_put (cs := #[.int .i64 ji28, .int .i64 x262001_3]) ?_ 1 _ rfl; (with_reducible repeat (first | refine blk_drewN ?_ _ | refine blk_drew ?_ | refine blk_alloc ?_ _)); refine blk_put (cs := #[.int .i64 x262000_3, .int .i64 x262001_3]) ?_ 0 _ rfl; (with_reducible repeat (first | refine blk_drewN ?_ _ | refine blk_drew ?_ | refine blk_alloc ?_ _)); exact BK261.out⟩, ⟨sqB HB⟩⟩
                 ·replace c27 := Bool.eq_false_iff.mpr c27
                  subst c27; rw [if_neg Bool.false_ne_true] at H; have H' := Aside0.mk H; clear H; have p267 : 0 ≤ ((ji19) : Int) := sqD; have q267 : (ji19) < (l1.length : Int) := sqD; obtain ⟨ad267, A267_0, c267_0, e267, hx267_0, hl267_0, hi267_0⟩ := at_L9 HR1.out (ji19) p267 q267
                  cases e267
                  replace hx267_0 := (HB.out.cell (World.block_lt_of_cell? w _ hx267_0)).trans hx267_0; have HR267_0 := Aside0.mk hi267_0; have HC267_0 := Aside0.mk hl267_0; clear hi267_0 hl267_0; replace p267 := eq_true p267; replace q267 := eq_true q267; have p268 : 0 ≤ (x9_3 : Int) := sqD; have q268 : x9_3 < ((rd_L9 l1 (ji19)).length : Int) := sqD; obtain ⟨ad268, e268, hx268_0⟩ := Kd.at_bool HR267_0.out x9_3 p268 q268
                  (try rw [← Nbq24.out] at hx268_0)
                  cases e268
                  replace hx268_0 := (HB.out.cell (World.block_lt_of_cell? w _ hx268_0)).trans hx268_0; replace p268 := eq_true p268; replace q268 := eq_true q268; have hnb34 := NB257_261.out; have hnc34 := NB261_257.out; have hcz35_0 := sqc0 BK257; have hcz35_1 := sqc1 BK257; have hfz35_0 := blk_frozen BK257.out 0; have hfz35_1 := blk_frozen BK257.out 1
                  go_wp2_with (first | (go_at_call 65; (with_reducible refine (rf_Step.calls _ _ l0_0 _ _ l0_1 x6_1 x8_2 x9_3 false false _ ?side1 ?side2 ?side3 ?side4 A26.out).mono ?_); (case side1 => exact sqQ HR0_0 HB); (case side2 => exact HC0_0.out); (case side3 => exact sqQ HR0_1 HB); (case side4 => exact HC0_1.out); rintro e w36 ⟨rfl, hb⟩; replace HO_5 := Aside0.mk (Kd.R_below (sqR HO_5) hb); replace BK257 := sqk BK257 hb; replace BK261 := sqk BK261 hb; replace HB := sqb hb HB; (try clear hb); (try clear hb2); (try clear hk); (try clear hi)))
                  go_roundg kj11
                  case measure => have := HK1.out; have := HK2.out; have := HK3.out; have := HJ11.out; omega
                  case rel => exact ⟨(wrap64 (x9_3 + 1)), (x262000_3), (x262001_3), sqE, H', ⟨by have := HK1.out; have := HK2.out; have := HK3.out; have := HJ11.out; omega⟩, ⟨sqR HO_5⟩, ⟨sqK BK257⟩, ⟨sqK BK261⟩, ⟨sqB HB⟩⟩
                ·replace c25 := Bool.eq_false_iff.mpr c25
                 subst c25; rw [if_neg Bool.false_ne_true] at H; have H' := Aside0.mk H; clear H; have p267 : 0 ≤ ((ji19) : Int) := sqD; have q267 : (ji19) < (l1.length : Int) := sqD; obtain ⟨ad267, A267_0, c267_0, e267, hx267_0, hl267_0, hi267_0⟩ := at_L9 HR1.out (ji19) p267 q267
                 cases e267
                 replace hx267_0 := (HB.out.cell (World.block_lt_of_cell? w _ hx267_0)).trans hx267_0; have HR267_0 := Aside0.mk hi267_0; have HC267_0 := Aside0.mk hl267_0; clear hi267_0 hl267_0; replace p267 := eq_true p267; replace q267 := eq_true q267; have p268 : 0 ≤ (x9_3 : Int) := sqD; have q268 : x9_3 < ((rd_L9 l1 (ji19)).length : Int) := sqD; obtain ⟨ad268, e268, hx268_0⟩ := Kd.at_bool HR267_0.out x9_3 p268 q268
                 (try rw [← Nbq24.out] at hx268_0)
                 cases e268
                 replace hx268_0 := (HB.out.cell (World.block_lt_of_cell? w _ hx268_0)).trans hx268_0; replace p268 := eq_true p268; replace q268 := eq_true q268
                 go_wp2
                 go_roundg kj11
                 case measure => have := HK1.out; have := HK2.out; have := HK3.out; have := HJ11.out; omega
                 case rel => exact ⟨(wrap64 (x9_3 + 1)), (x262000_3), (x262001_3), sqE, H', ⟨by have := HK1.out; have := HK2.out; have := HK3.out; have := HJ11.out; omega⟩, ⟨sqR HO_5⟩, ⟨sqK BK257⟩, ⟨sqK BK261⟩, ⟨sqB HB⟩⟩
               ·rw [if_neg c23] at H
                exact absurd H (by simp)
              ·rw [if_neg c22] at H
               exact absurd H (by simp)
             ·rw [if_neg c21] at H
              exact absurd H (by simp)
            ·rw [if_neg c20] at H
             exact absurd H (by simp)
           ·replace c18 := Bool.eq_false_iff.mpr c18
            subst c18; rw [if_neg Bool.false_ne_true] at H; have H' := Aside0.mk H; clear H; go_wp2
            go_roundg kj11
            case measure => have := HK1.out; have := HK2.out; have := HK3.out; have := HJ11.out; omega
            case rel => exact ⟨(wrap64 (x8_2 + 1)), (x262000_3), (x262001_3), sqE, H', ⟨by have := HK1.out; have := HK2.out; have := HK3.out; have := HJ11.out; omega⟩, ⟨sqR HO_5⟩, ⟨sqK BK257⟩, ⟨sqK BK261⟩, ⟨sqB HB⟩⟩
      ·rw [if_neg c11] at H
       have c11b0 : decide (x8_2 ≤ 400) = false := decide_eq_false c11; clear c11
       by_cases c37 : x5_1.length < 8796093022208
       ·rw [if_pos c37] at H
        have LMc37 := Aside0.mk c37; clear c37; replace H : ∃ y_ : List (S41), y_ = (x5_1 ++ [(⟨x262000_2, x262001_2⟩ : S41)]) ∧ (rf_Flocks.l0 k2 l1 y_ (wrap64 (x6_1 + 1)) l0_0 l0_1) = some r := ⟨_, rfl, sqJ H⟩; obtain ⟨y262, hy262, H⟩ := H; have Ny262 := Aside0.mk hy262; clear hy262; have H' := Aside0.mk H; clear H; have hnb38 := NB261_257.out; have hnc38 := NB257_261.out; have hcz39_0 := sqc0 BK261; have hcz39_1 := sqc1 BK261; have hfz39_0 := blk_frozen BK261.out 0; have hfz39_1 := blk_frozen BK261.out 1
        go_wp2_with (first | ((with_reducible refine gate_builtin (b := .append) (xs := #[.tmp 65, .tmp 67]) rfl ?_); at_builtin; refine Kd.R_append k41 (w0 := w) w.heap.size rfl (.tmp 65) (.tmp 67) 22 41 (.agg #[(.int .i64 0), (.int .i64 0)]) 16 rfl Tryd.underlying22 info41 rfl (by decide) (by omega) u5 x5_1 (⟨x262000_2, x262001_2⟩ : S41) [.int .i64 x262000_2, .int .i64 x262001_2] (fun k_ => k_ ≠ gb261) (fun _ => False) rfl rfl ?aP (fun _ hk => hk.elim) ?aF ?aO ?aB ?aS ?aL ?_; (case aP => exact k41_mkM _ _ _ (⟨x262000_2, x262001_2⟩ : S41)); (case aB => exact (sqB HB)); (case aF => exact (fun k_ hk => Kd.freshB (g := gb261) (o := .cells #[.int .i64 x262000_2, .int .i64 x262001_2] 41 (0, 0)) (sqK BK261) k_ hk)); (case aO => exact (sqR HO_5)); (case aS => exact (below_size (sqB HB))); (case aL => have := LMc37.out; omega); intro v263 w40 ho hb hg hat; rw [← Ny262.out] at ho; replace BK257 := Aside0.mk (blk_grown (g := gb257) (o := .cells #[.slice A0_0 l0_0.length c0_0, .slice A0_1 l0_1.length c0_1] 25 (0, 0)) (sqK BK257) hg (Kd.R_ne HO_5.out BK257.out (by decide))); replace BK261 := Aside0.mk (blk_grown (g := gb261) (o := .cells #[.int .i64 x262000_2, .int .i64 x262001_2] 41 (0, 0)) (sqK BK261) hg (Kd.R_away HO_5.out (fun _ hk => hk))); replace HB := Aside0.mk (hb); have HO264 := Aside0.mk (ho); clear HO_5; clear ho hb hg hat))
        go_roundg k2
        case measure => have := HK1.out; have := HK2.out; omega
        case rel => exact ⟨(y262), (wrap64 (x6_1 + 1)), sqE, H', ⟨by have := HK1.out; have := HK2.out; omega⟩, ⟨by (with_reducible repeat (first | apply Kd.R_alloc | apply Kd.R_drewN | apply Kd.R_drew)); exact Kd.R_mono HO264.out (fun _ hk => trivial)⟩, ⟨sqK BK257⟩, ⟨sqB HB⟩⟩
       ·rw [if_neg c37] at H
        exact absurd H (by simp)
   ·rw [if_neg c6] at H
    have c6b0 : decide (x6_1 < (l0_0.length : Int)) = false := decide_eq_false c6; clear c6; obtain rfl := Option.some.inj H; have hcz41_0 := sqc0 BK257; have hcz41_1 := sqc1 BK257; have hfz41_0 := blk_frozen BK257.out 0; have hfz41_1 := blk_frozen BK257.out 1
    go_wp2
    go_ret
    exact ⟨_, by first | rfl | (simp [errW_none, errW_some] <;> rfl) | (simp [*, errW_none, errW_some] <;> rfl), by (with_reducible repeat (first | apply Kd.R_alloc | apply Kd.R_drewN | apply Kd.R_drew)); exact HO_5.out, sqB HB⟩
end Go.Proofs.YtemingmeidmjkaaDoor.Q
namespace Go.Proofs.YtemingmeidmjkaaDoor.Q
open Go.RowKit Go.Proofs.YtemingmeidmjkaaDoorW.PrintWords Go.Proofs.YtemingmeidmjkaaDoorW.PrintLast Go.Proofs.YtemingmeidmjkaaDoorW.PrintMore
attribute [local go_sem] max2_int min2_int max_two min_two max_three min_three max_four min_four   -- for this text's walks alone
set_option linter.unusedVariables false
set_option linter.unusedSimpArgs false
mutual
def lw_WoolWeights.j0 : Nat → List (S41) → Int → List (S41) → Int → Int → Bool → List (S41) → List (S80) → Option (Bool)
 | 0, _, _, _, _, _, _, _, _ => none
 | k + 1, x5, x6, x7, x8, x9, x38, x271000, x271001 => if x38 = true then (some false) else (if x9 = 0 then ((rf_Sets.f k x271000 x271001 (-1)).bind fun t294 => ((rf_Is.f k t294).bind fun t297 => (if t297 = true then (lw_WoolWeights.j1 k x5 x6 x7 x8 x9 t294 x271000 x271001) else (lw_WoolWeights.j1 k x5 x6 x7 x8 9 t294 x271000 x271001)))) else (lw_WoolWeights.j1 k x5 x6 x7 x8 x9 (([] : List (List Bool))) x271000 x271001))
def lw_WoolWeights.j1 : Nat → List (S41) → Int → List (S41) → Int → Int → List (List Bool) → List (S41) → List (S80) → Option (Bool)
 | 0, _, _, _, _, _, _, _, _ => none
 | k + 1, x5, x6, x7, x8, x9, x10, x271000, x271001 => if x9 = 0 then (if x6 = 0 then (if x8 = 0 then ((rf_Weights.f k x10).bind fun t299 => ((rf_Spans.f k x5 t299).bind fun t302 => (if t302 = true then ((rf_Flocks.f k x271000 x271001 x10).bind fun t303 => ((rf_Spans.f k x7 t303).bind fun t306 => (if t306 = true then ((lw_known.f).bind fun t307 => (some t307)) else (some false)))) else (some false)))) else (some false)) else (some false)) else (if x6 = x9 then (if x8 = x9 then (if (wrap64 ((x5.length : Int) + (x7.length : Int))) = 0 then ((lw_known.f).bind fun t298 => (some t298)) else (some false)) else (some false)) else (some false))
end
def lw_WoolWeights.f (k : Nat) (l0_0 : List (S41)) (l0_1 : List (S80)) : Option (Bool) := (lw_long.f l0_0 l0_1).bind fun t271 => (if t271 = true then ((lw_known.f).bind fun t272 => (some t272)) else ((rf_Copy.f l0_0 l0_1).bind fun bt273 => ((wool_Check.f bt273.1 bt273.2).bind fun t280 => ((wool_Weights.f bt273.1 bt273.2).bind fun bt281 => ((wool_Flocks.f bt273.1 bt273.2).bind fun bt285 => ((rf_Check.f k l0_0 l0_1).bind fun t289 => ((rf_Same.f k bt273.1 bt273.2 l0_0 l0_1).bind fun t290 => (if t290 = true then (lw_WoolWeights.j0 k bt281.1 bt281.2 bt285.1 bt285.2 t289 (t280 != t289) l0_0 l0_1) else (lw_WoolWeights.j0 k bt281.1 bt281.2 bt285.1 bt285.2 t289 true l0_0 l0_1)))))))))
set_option maxHeartbeats 8000000 in
set_option maxRecDepth 100000 in
theorem lw_WoolWeights.calls (k : Nat) (A0_0 : Option Addr) (c0_0 : Nat) (l0_0 : List (S41)) (A0_1 : Option Addr) (c0_1 : Nat) (l0_1 : List (S80)) (r : Bool) (w : World) (hG : GL w) (hr0_0 : Kd.C k41 w A0_0 l0_0.length l0_0) (hc0_0 : l0_0.length ≤ c0_0) (hr0_1 : Kd.C k80 w A0_1 l0_1.length l0_1) (hc0_1 : l0_1.length ≤ c0_1) (h : lw_WoolWeights.f k l0_0 l0_1 = some r) :
  Calls Tryd.prog 3 #[.agg #[.slice A0_0 l0_0.length c0_0, .slice A0_1 l0_1.length c0_1]] w fun e w' => e = .returned (.bool r) ∧ Below w.heap.size w w' := by
 have hu25 := Tryd.underlying25; have HR0_0 := Aside0.mk hr0_0; have HC0_0 := Aside0.mk hc0_0; clear hr0_0 hc0_0; have HR0_1 := Aside0.mk hr0_1; have HC0_1 := Aside0.mk hc0_1; clear hr0_1 hc0_1; have HB := Aside0.mk (Below.refl w.heap.size w); have HGL := Aside0.mk hG; clear hG; have H : ((lw_long.f l0_0 l0_1).bind fun t271 => (if t271 = true then ((lw_known.f).bind fun t272 => (some t272)) else ((rf_Copy.f l0_0 l0_1).bind fun bt273 => ((wool_Check.f bt273.1 bt273.2).bind fun t280 => ((wool_Weights.f bt273.1 bt273.2).bind fun bt281 => ((wool_Flocks.f bt273.1 bt273.2).bind fun bt285 => ((rf_Check.f k l0_0 l0_1).bind fun t289 => ((rf_Same.f k bt273.1 bt273.2 l0_0 l0_1).bind fun t290 => (if t290 = true then (lw_WoolWeights.j0 k bt281.1 bt281.2 bt285.1 bt285.2 t289 (t280 != t289) l0_0 l0_1) else (lw_WoolWeights.j0 k bt281.1 bt281.2 bt285.1 bt285.2 t289 true l0_0 l0_1)))))))))) = some r := h; clear h; obtain ⟨t271, A20, H⟩ := Option.bind_eq_some_iff.mp H; have A2 := Aside0.mk A20; clear A20
 by_cases c3 : t271 = true
 ·subst c3
  rw [if_pos rfl] at H; obtain ⟨t272, A40, H⟩ := Option.bind_eq_some_iff.mp H; have A4 := Aside0.mk A40; clear A40; obtain rfl := Option.some.inj H
  go_enter Tryd.func3, Tryd.ntmps3
  go_wp2_with (first | ((with_reducible refine gate_dst (N := 1) rfl ?_); (try (refine gate_guard (by rfl) ?_; dsimp only)); refine box_event ?hg (N := 1) ?hd (cs := #[.slice A0_0 l0_0.length c0_0, .slice A0_1 l0_1.length c0_1]) (t := 25) ?hr ?_; (case hd => rfl); (case hg => rfl); (case hr => first | (go_simp; done) | (go_simp; rfl)); intro gb270 hg w5 hbox hb; have BK270 := Aside0.mk (hbox); have GW270 := Aside0.mk (sqZ hg HB); have GE270 := Aside0.mk (sqZ hg HB); replace HB := sqb hb HB; clear hb hbox hg; have hcz6_0 := sqc0 BK270; have hcz6_1 := sqc1 BK270; have hfz6_0 := blk_frozen BK270.out 0; have hfz6_1 := blk_frozen BK270.out 1) | ((with_reducible refine gate_callee (f := 16) rfl ?_); refine goesL_ (some 12) rfl rfl Tryd.func16 sqF rfl #[.agg #[.slice A0_0 l0_0.length c0_0, .slice A0_1 l0_1.length c0_1]] rfl sqM ?_; (with_reducible refine (lw_long.calls _ _ l0_0 _ _ l0_1 true _ ?side1 ?side2 ?side3 ?side4 A2.out).mono ?_); (case side1 => exact sqQ HR0_0 HB); (case side2 => exact HC0_0.out); (case side3 => exact sqQ HR0_1 HB); (case side4 => exact HC0_1.out); rintro e w7 ⟨rfl, hb⟩; refine ⟨_, rfl, ?_⟩; replace BK270 := sqk BK270 hb; replace HB := sqb hb HB; (try clear hb); (try clear hb2); (try clear hk); (try clear hi)) | ((with_reducible refine gate_callee (f := 17) rfl ?_); refine goesL_ (some 13) rfl rfl Tryd.func17 sqF rfl #[] rfl sqM ?_; (with_reducible refine (lw_known.calls t272 _ ?sideG A4.out).mono ?_); (case sideG => exact sqQ HGL HB); rintro e w8 ⟨rfl, hb⟩; refine ⟨_, rfl, ?_⟩; replace BK270 := sqk BK270 hb; replace HB := sqb hb HB; (try clear hb); (try clear hb2); (try clear hk); (try clear hi)))
  go_ret
  exact ⟨by first | rfl | (simp [errW_none, errW_some] <;> rfl) | (simp [*, errW_none, errW_some] <;> rfl), sqB HB⟩
 ·replace c3 := Bool.eq_false_iff.mpr c3
  subst c3; rw [if_neg Bool.false_ne_true] at H; obtain ⟨⟨t273, t276⟩, A90, H⟩ := Option.bind_eq_some_iff.mp H; replace H : ((wool_Check.f t273 t276).bind fun t280 => ((wool_Weights.f t273 t276).bind fun bt281 => ((wool_Flocks.f t273 t276).bind fun bt285 => ((rf_Check.f k l0_0 l0_1).bind fun t289 => ((rf_Same.f k t273 t276 l0_0 l0_1).bind fun t290 => (if t290 = true then (lw_WoolWeights.j0 k bt281.1 bt281.2 bt285.1 bt285.2 t289 (t280 != t289) l0_0 l0_1) else (lw_WoolWeights.j0 k bt281.1 bt281.2 bt285.1 bt285.2 t289 true l0_0 l0_1))))))) = some r := H; have A9 := Aside0.mk A90; clear A90; obtain ⟨t280, A100, H⟩ := Option.bind_eq_some_iff.mp H; have A10 := Aside0.mk A100; clear A100; obtain ⟨⟨t281, t284⟩, A110, H⟩ := Option.bind_eq_some_iff.mp H; replace H : ((wool_Flocks.f t273 t276).bind fun bt285 => ((rf_Check.f k l0_0 l0_1).bind fun t289 => ((rf_Same.f k t273 t276 l0_0 l0_1).bind fun t290 => (if t290 = true then (lw_WoolWeights.j0 k t281 t284 bt285.1 bt285.2 t289 (t280 != t289) l0_0 l0_1) else (lw_WoolWeights.j0 k t281 t284 bt285.1 bt285.2 t289 true l0_0 l0_1))))) = some r := H; have A11 := Aside0.mk A110; clear A110; obtain ⟨⟨t285, t288⟩, A120, H⟩ := Option.bind_eq_some_iff.mp H; replace H : ((rf_Check.f k l0_0 l0_1).bind fun t289 => ((rf_Same.f k t273 t276 l0_0 l0_1).bind fun t290 => (if t290 = true then (lw_WoolWeights.j0 k t281 t284 t285 t288 t289 (t280 != t289) l0_0 l0_1) else (lw_WoolWeights.j0 k t281 t284 t285 t288 t289 true l0_0 l0_1)))) = some r := H; have A12 := Aside0.mk A120; clear A120; obtain ⟨t289, A130, H⟩ := Option.bind_eq_some_iff.mp H; have A13 := Aside0.mk A130; clear A130; have HC14 := Aside0.mk H; clear H; go_enter Tryd.func3, Tryd.ntmps3
  go_upto_region 8 with (first | ((with_reducible refine gate_dst (N := 1) rfl ?_); (try (refine gate_guard (by rfl) ?_; dsimp only)); refine box_event ?hg (N := 1) ?hd (cs := #[.slice A0_0 l0_0.length c0_0, .slice A0_1 l0_1.length c0_1]) (t := 25) ?hr ?_; (case hd => rfl); (case hg => rfl); (case hr => first | (go_simp; done) | (go_simp; rfl)); intro gb270 hg w15 hbox hb; have BK270 := Aside0.mk (hbox); have GW270 := Aside0.mk (sqZ hg HB); have GE270 := Aside0.mk (sqZ hg HB); replace HB := sqb hb HB; clear hb hbox hg; have hcz16_0 := sqc0 BK270; have hcz16_1 := sqc1 BK270; have hfz16_0 := blk_frozen BK270.out 0; have hfz16_1 := blk_frozen BK270.out 1) | ((with_reducible refine gate_callee (f := 16) rfl ?_); refine goesL_ (some 12) rfl rfl Tryd.func16 sqF rfl #[.agg #[.slice A0_0 l0_0.length c0_0, .slice A0_1 l0_1.length c0_1]] rfl sqM ?_; (with_reducible refine (lw_long.calls _ _ l0_0 _ _ l0_1 false _ ?side1 ?side2 ?side3 ?side4 A2.out).mono ?_); (case side1 => exact sqQ HR0_0 HB); (case side2 => exact HC0_0.out); (case side3 => exact sqQ HR0_1 HB); (case side4 => exact HC0_1.out); rintro e w17 ⟨rfl, hb⟩; refine ⟨_, rfl, ?_⟩; replace BK270 := sqk BK270 hb; replace HB := sqb hb HB; (try clear hb); (try clear hb2); (try clear hk); (try clear hi); have hcz18_0 := sqc0 BK270; have hcz18_1 := sqc1 BK270; have hfz18_0 := blk_frozen BK270.out 0; have hfz18_1 := blk_frozen BK270.out 1) | ((with_reducible refine gate_callee (f := 18) rfl ?_); refine goesL_ (some 15) rfl rfl Tryd.func18 sqF rfl #[.agg #[.slice A0_0 l0_0.length c0_0, .slice A0_1 l0_1.length c0_1]] rfl sqM ?_; (with_reducible refine (rf_Copy.calls _ _ l0_0 _ _ l0_1 t273 t276 _ ?side1 ?side2 ?side3 ?side4 A9.out).mono ?_); (case side1 => exact sqQ HR0_0 HB); (case side2 => exact HC0_0.out); (case side3 => exact sqQ HR0_1 HB); (case side4 => exact HC0_1.out); rintro e w19 ⟨v274, v277, rfl, ho0, ho1, hb⟩; refine ⟨_, rfl, ?_⟩; have HO275 := Aside0.mk (Kd.R_lower ho0 (below_size (sqB HB))); have HO278 := Aside0.mk (Kd.R_lower ho1 (below_size (sqB HB))); replace BK270 := sqk BK270 hb; replace HB := sqb hb HB; (try clear hb); (try clear hb2); (try clear hk); (try clear hi); (try clear ho0); (try clear ho1)) | ((with_reducible refine gate_dst (N := 3) rfl ?_); (try (refine gate_guard (by rfl) ?_; dsimp only)); refine box_event ?hg (N := 3) ?hd (cs := #[.slice none 0 0, .slice none 0 0]) (t := 25) ?hr ?_; (case hd => rfl); (case hg => rfl); (case hr => first | (go_simp; done) | (go_simp; rfl)); intro gb279 hg w20 hbox hb; replace HO275 := Aside0.mk (Kd.R_below (sqR HO275) hb); replace HO278 := Aside0.mk (Kd.R_below (sqR HO278) hb); have BK279 := Aside0.mk (hbox); have GW279 := Aside0.mk (sqZ hg HB); have GE279 := Aside0.mk (sqZ hg HB); replace HB := sqb hb HB; have NB270_279 := Aside0.mk (sqL hg BK270); have NB279_270 := Aside0.mk (sqG hg BK270); replace BK270 := sqk BK270 hb; clear hb hbox hg; obtain ⟨Ao21, co21, eo21⟩ := Kd.R_slice HO275.out; subst eo21; have hnb22 := NB279_270.out; have hnc22 := NB270_279.out; have hcz23_0 := sqc0 BK279; have hcz23_1 := sqc1 BK279; have hfz23_0 := blk_frozen BK279.out 0; have hfz23_1 := blk_frozen BK279.out 1; obtain ⟨Ao24, co24, eo24⟩ := Kd.R_slice HO278.out; subst eo24) | ((with_reducible refine gate_callee (f := 19) rfl ?_); refine goesL_ (some 17) rfl rfl Tryd.func19 sqF rfl #[.agg #[.slice Ao21 t273.length co21, .slice Ao24 t276.length co24]] rfl sqM ?_; (with_reducible refine (wool_Check.calls _ _ t273 _ _ t276 t280 _ ?side1 ?side2 ?side3 ?side4 A10.out).mono ?_); (case side1 => refine (Kd.R_reads' (e := 41) (base := w.heap.size) (ok := fun k_ => True) (n := t273.length) (c := co21) ?_).2.2; exact (by (with_reducible repeat (first | apply Kd.R_alloc | apply Kd.R_drewN | apply Kd.R_drew)); exact (Kd.R_mono (Kd.R_far (p := ⟨gb279, 1, none⟩) (Kd.R_far (p := ⟨gb279, 0, none⟩) (Kd.R_types HO275.out BK279.out (by decide)) (fun _ hk => hk.2) (.slice Ao21 t273.length co21)) (fun _ hk => hk.2) (.slice Ao24 t276.length co24)) (fun _ h_ => h_.1)))); (case side2 => exact (Kd.R_reads' HO275.out).2.1); (case side3 => refine (Kd.R_reads' (e := 80) (base := w.heap.size) (ok := fun k_ => True) (n := t276.length) (c := co24) ?_).2.2; exact (by (with_reducible repeat (first | apply Kd.R_alloc | apply Kd.R_drewN | apply Kd.R_drew)); exact (Kd.R_mono (Kd.R_far (p := ⟨gb279, 1, none⟩) (Kd.R_far (p := ⟨gb279, 0, none⟩) (Kd.R_types HO278.out BK279.out (by decide)) (fun _ hk => hk.2) (.slice Ao21 t273.length co21)) (fun _ hk => hk.2) (.slice Ao24 t276.length co24)) (fun _ h_ => h_.1)))); (case side4 => exact (Kd.R_reads' HO278.out).2.1); rintro e w25 ⟨rfl, hb⟩; refine ⟨_, rfl, ?_⟩; replace HO275 := Aside0.mk (Kd.R_below (by (with_reducible repeat (first | apply Kd.R_alloc | apply Kd.R_drewN | apply Kd.R_drew)); exact (Kd.R_mono (Kd.R_far (p := ⟨gb279, 1, none⟩) (Kd.R_far (p := ⟨gb279, 0, none⟩) (Kd.R_types HO275.out BK279.out (by decide)) (fun _ hk => hk.2) (.slice Ao21 t273.length co21)) (fun _ hk => hk.2) (.slice Ao24 t276.length co24)) (fun _ h_ => h_.1))) hb); replace HO278 := Aside0.mk (Kd.R_below (by (with_reducible repeat (first | apply Kd.R_alloc | apply Kd.R_drewN | apply Kd.R_drew)); exact (Kd.R_mono (Kd.R_far (p := ⟨gb279, 1, none⟩) (Kd.R_far (p := ⟨gb279, 0, none⟩) (Kd.R_types HO278.out BK279.out (by decide)) (fun _ hk => hk.2) (.slice Ao21 t273.length co21)) (fun _ hk => hk.2) (.slice Ao24 t276.length co24)) (fun _ h_ => h_.1))) hb); replace BK270 := Aside0.mk (blk_below (g := gb270) (o := .cells #[.slice A0_0 l0_0.length c0_0, .slice A0_1 l0_1.length c0_1] 25 (0, 0)) sqX hb); replace BK279 := Aside0.mk (blk_below (g := gb279) (o := .cells #[.slice Ao21 t273.length co21, .slice Ao24 t276.length co24] 25 (0, 0)) (by (with_reducible repeat (first | refine blk_drewN ?_ _ | refine blk_drew ?_ | refine blk_alloc ?_ _)); refine blk_put (cs := #[.slice Ao21 t273.length co21, .slice none 0 0]) ?_ 1 _ rfl; (with_reducible repeat (first | refine blk_drewN ?_ _ | refine blk_drew ?_ | refine blk_alloc ?_ _)); refine blk_put (cs := #[.slice none 0 0, .slice none 0 0]) ?_ 0 _ rfl; (with_reducible repeat (first | refine blk_drewN ?_ _ | refine blk_drew ?_ | refine blk_alloc ?_ _)); exact BK279.out) hb); replace HB := sqb hb HB; (try clear hb); (try clear hb2); (try clear hk); (try clear hi); have hcz26_0 := sqc0 BK279; have hcz26_1 := sqc1 BK279; have hfz26_0 := blk_frozen BK279.out 0; have hfz26_1 := blk_frozen BK279.out 1) | ((with_reducible refine gate_callee (f := 20) rfl ?_); refine goesL_ (some 20) rfl rfl Tryd.func20 sqF rfl #[.agg #[.slice Ao21 t273.length co21, .slice Ao24 t276.length co24]] rfl sqM ?_; (with_reducible refine (wool_Weights.calls _ _ t273 _ _ t276 t281 t284 _ ?sideG ?side1 ?side2 ?side3 ?side4 A11.out).mono ?_); (case sideG => exact sqQ HGL HB); (case side1 => repeat (first | exact (Kd.R_reads' HO275.out).2.2 | (with_reducible refine Kd.C_alloc ?_ _) | (with_reducible refine Kd.C_drewN ?_ _) | (with_reducible refine Kd.C_drew ?_))); (case side2 => exact (Kd.R_reads' HO275.out).2.1); (case side3 => repeat (first | exact (Kd.R_reads' HO278.out).2.2 | (with_reducible refine Kd.C_alloc ?_ _) | (with_reducible refine Kd.C_drewN ?_ _) | (with_reducible refine Kd.C_drew ?_))); (case side4 => exact (Kd.R_reads' HO278.out).2.1); rintro e w27 ⟨v282, rfl, ho0, hb⟩; refine ⟨_, rfl, ?_⟩; replace HO278 := Aside0.mk (Kd.R_below (sqR HO278) hb); have HO283 := Aside0.mk (Kd.R_lower (Kd.R_new' ho0 (Kd.R_lt (sqR HO275))) (below_size (sqB HB))); replace HO275 := Aside0.mk (Kd.R_elder' (sqR HO275) (Kd.R_base ho0) hb); replace BK270 := sqk BK270 hb; replace BK279 := sqk BK279 hb; replace HB := sqb hb HB; (try clear hb); (try clear hb2); (try clear hk); (try clear hi); (try clear ho0); have hcz28_0 := sqc0 BK279; have hcz28_1 := sqc1 BK279; have hfz28_0 := blk_frozen BK279.out 0; have hfz28_1 := blk_frozen BK279.out 1) | ((with_reducible refine gate_callee (f := 21) rfl ?_); refine goesL_ (some 25) rfl rfl Tryd.func21 sqF rfl #[.agg #[.slice Ao21 t273.length co21, .slice Ao24 t276.length co24]] rfl sqM ?_; (with_reducible refine (wool_Flocks.calls _ _ t273 _ _ t276 t285 t288 _ ?sideG ?side1 ?side2 ?side3 ?side4 A12.out).mono ?_); (case sideG => exact sqQ HGL HB); (case side1 => repeat (first | exact (Kd.R_reads' HO275.out).2.2 | (with_reducible refine Kd.C_alloc ?_ _) | (with_reducible refine Kd.C_drewN ?_ _) | (with_reducible refine Kd.C_drew ?_))); (case side2 => exact (Kd.R_reads' HO275.out).2.1); (case side3 => repeat (first | exact (Kd.R_reads' HO278.out).2.2 | (with_reducible refine Kd.C_alloc ?_ _) | (with_reducible refine Kd.C_drewN ?_ _) | (with_reducible refine Kd.C_drew ?_))); (case side4 => exact (Kd.R_reads' HO278.out).2.1); rintro e w29 ⟨v286, rfl, ho0, hb⟩; refine ⟨_, rfl, ?_⟩; replace HO278 := Aside0.mk (Kd.R_below (sqR HO278) hb); have HO287 := Aside0.mk (Kd.R_lower (Kd.R_new' (Kd.R_new' ho0 (Kd.R_lt (sqR HO275))) (Kd.R_lt (sqR HO283))) (below_size (sqB HB))); replace HO275 := Aside0.mk (Kd.R_elder' (sqR HO275) (Kd.R_base ho0) hb); replace HO283 := Aside0.mk (Kd.R_elder' (sqR HO283) (Kd.R_base ho0) hb); replace BK270 := sqk BK270 hb; replace BK279 := sqk BK279 hb; replace HB := sqb hb HB; (try clear hb); (try clear hb2); (try clear hk); (try clear hi); (try clear ho0); have hcz30_0 := sqc0 BK270; have hcz30_1 := sqc1 BK270; have hfz30_0 := blk_frozen BK270.out 0; have hfz30_1 := blk_frozen BK270.out 1) | ((with_reducible refine gate_callee (f := 22) rfl ?_); refine goesL_ (some 29) rfl rfl Tryd.func22 sqF rfl #[.agg #[.slice A0_0 l0_0.length c0_0, .slice A0_1 l0_1.length c0_1]] rfl sqM ?_; (with_reducible refine (rf_Check.calls k _ _ l0_0 _ _ l0_1 t289 _ ?side1 ?side2 ?side3 ?side4 A13.out).mono ?_); (case side1 => exact sqQ HR0_0 HB); (case side2 => exact HC0_0.out); (case side3 => exact sqQ HR0_1 HB); (case side4 => exact HC0_1.out); rintro e w31 ⟨rfl, hb⟩; refine ⟨_, rfl, ?_⟩; replace HO275 := Aside0.mk (Kd.R_below (sqR HO275) hb); replace HO278 := Aside0.mk (Kd.R_below (sqR HO278) hb); replace HO283 := Aside0.mk (Kd.R_below (sqR HO283) hb); replace HO287 := Aside0.mk (Kd.R_below (sqR HO287) hb); replace BK270 := sqk BK270 hb; replace BK279 := sqk BK279 hb; replace HB := sqb hb HB; (try clear hb); (try clear hb2); (try clear hk); (try clear hi)))
  (try simp only [Act.put, sqA])
  go_cut [38] (fun v38 wc => ∃ (kq : Nat) (x38_13 : Bool), v38 = .bool x38_13 ∧ Aside0 (lw_WoolWeights.j0 kq t281 t284 t285 t288 t289 x38_13 l0_0 l0_1 = some r) ∧ Aside0 (kq ≤ k) ∧ Aside0 (Kd.R k41 41 wc w.heap.size (fun k_ => some k_ ≠ (v286 : Value).ownBlock ∧ some k_ ≠ ((.slice Ao21 t273.length co21) : Value).ownBlock) v282 t281) ∧ Aside0 (Kd.R k41 41 wc w.heap.size (fun k_ => some k_ ≠ (v282 : Value).ownBlock ∧ some k_ ≠ ((.slice Ao21 t273.length co21) : Value).ownBlock) v286 t285) ∧ Aside0 (Kd.R k41 41 wc w.heap.size (fun k_ => some k_ ≠ (v282 : Value).ownBlock ∧ some k_ ≠ (v286 : Value).ownBlock) (.slice Ao21 t273.length co21) t273) ∧ Aside0 (Kd.R k80 80 wc w.heap.size (fun _ => True) (.slice Ao24 t276.length co24) t276) ∧ Aside0 (wc.heap[gb270]? = some (.cells #[(.slice A0_0 l0_0.length c0_0), (.slice A0_1 l0_1.length c0_1)] 25 (0, 0))) ∧ Aside0 (wc.heap[gb279]? = some (.cells #[(.slice Ao21 t273.length co21), (.slice Ao24 t276.length co24)] 25 (0, 0))) ∧ Aside0 (Below w.heap.size w wc))
  case first =>
   have H := HC14.out; clear HC14; obtain ⟨t290, A320, H⟩ := Option.bind_eq_some_iff.mp H; have A32 := Aside0.mk A320; clear A320
   by_cases c33 : t290 = true
   ·subst c33
    rw [if_pos rfl] at H; have H' := Aside0.mk H; clear H; have hnb34 := NB279_270.out; have hnc34 := NB270_279.out; have hcz35_0 := sqc0 BK279; have hcz35_1 := sqc1 BK279; have hfz35_0 := blk_frozen BK279.out 0; have hfz35_1 := blk_frozen BK279.out 1; have hcz36_0 := sqc0 BK270; have hcz36_1 := sqc1 BK270; have hfz36_0 := blk_frozen BK270.out 0; have hfz36_1 := blk_frozen BK270.out 1
    go_wp2_with (first | ((with_reducible refine gate_callee (f := 23) rfl ?_); refine goesL_ (some 32) rfl rfl Tryd.func23 sqF rfl #[.agg #[.slice Ao21 t273.length co21, .slice Ao24 t276.length co24], .agg #[.slice A0_0 l0_0.length c0_0, .slice A0_1 l0_1.length c0_1]] rfl sqM ?_; (with_reducible refine (rf_Same.calls k _ _ t273 _ _ t276 _ _ l0_0 _ _ l0_1 true _ ?side1 ?side2 ?side3 ?side4 ?side5 ?side6 ?side7 ?side8 A32.out).mono ?_); (case side1 => repeat (first | exact (Kd.R_reads' HO275.out).2.2 | (with_reducible refine Kd.C_alloc ?_ _) | (with_reducible refine Kd.C_drewN ?_ _) | (with_reducible refine Kd.C_drew ?_))); (case side2 => exact (Kd.R_reads' HO275.out).2.1); (case side3 => repeat (first | exact (Kd.R_reads' HO278.out).2.2 | (with_reducible refine Kd.C_alloc ?_ _) | (with_reducible refine Kd.C_drewN ?_ _) | (with_reducible refine Kd.C_drew ?_))); (case side4 => exact (Kd.R_reads' HO278.out).2.1); (case side5 => exact sqQ HR0_0 HB); (case side6 => exact HC0_0.out); (case side7 => exact sqQ HR0_1 HB); (case side8 => exact HC0_1.out); rintro e w37 ⟨rfl, hb⟩; refine ⟨_, rfl, ?_⟩; replace HO275 := Aside0.mk (Kd.R_below (sqR HO275) hb); replace HO278 := Aside0.mk (Kd.R_below (sqR HO278) hb); replace HO283 := Aside0.mk (Kd.R_below (sqR HO283) hb); replace HO287 := Aside0.mk (Kd.R_below (sqR HO287) hb); replace BK270 := sqk BK270 hb; replace BK279 := sqk BK279 hb; replace HB := sqb hb HB; (try clear hb); (try clear hb2); (try clear hk); (try clear hi)))
    go_meet
    case rel => exact ⟨_, ((t280 != t289)), sqE, H', ⟨by first | omega | exact Nat.le_refl _⟩, ⟨by (with_reducible repeat (first | apply Kd.R_alloc | apply Kd.R_drewN | apply Kd.R_drew)); exact Kd.R_mono HO283.out (fun _ hk => ⟨hk.2, hk.1.2⟩)⟩, ⟨by (with_reducible repeat (first | apply Kd.R_alloc | apply Kd.R_drewN | apply Kd.R_drew)); exact Kd.R_mono HO287.out (fun _ hk => ⟨hk.2, hk.1.2⟩)⟩, ⟨by (with_reducible repeat (first | apply Kd.R_alloc | apply Kd.R_drewN | apply Kd.R_drew)); exact Kd.R_mono HO275.out (fun _ hk => ⟨hk.1.2, hk.2⟩)⟩, ⟨sqR HO278⟩, ⟨sqK BK270⟩, ⟨sqK BK279⟩, ⟨sqB HB⟩⟩
   ·replace c33 := Bool.eq_false_iff.mpr c33
    subst c33; rw [if_neg Bool.false_ne_true] at H; have H' := Aside0.mk H; clear H; have hnb38 := NB279_270.out; have hnc38 := NB270_279.out; have hcz39_0 := sqc0 BK279; have hcz39_1 := sqc1 BK279; have hfz39_0 := blk_frozen BK279.out 0; have hfz39_1 := blk_frozen BK279.out 1; have hcz40_0 := sqc0 BK270; have hcz40_1 := sqc1 BK270; have hfz40_0 := blk_frozen BK270.out 0; have hfz40_1 := blk_frozen BK270.out 1
    go_wp2_with (first | ((with_reducible refine gate_callee (f := 23) rfl ?_); refine goesL_ (some 32) rfl rfl Tryd.func23 sqF rfl #[.agg #[.slice Ao21 t273.length co21, .slice Ao24 t276.length co24], .agg #[.slice A0_0 l0_0.length c0_0, .slice A0_1 l0_1.length c0_1]] rfl sqM ?_; (with_reducible refine (rf_Same.calls k _ _ t273 _ _ t276 _ _ l0_0 _ _ l0_1 false _ ?side1 ?side2 ?side3 ?side4 ?side5 ?side6 ?side7 ?side8 A32.out).mono ?_); (case side1 => repeat (first | exact (Kd.R_reads' HO275.out).2.2 | (with_reducible refine Kd.C_alloc ?_ _) | (with_reducible refine Kd.C_drewN ?_ _) | (with_reducible refine Kd.C_drew ?_))); (case side2 => exact (Kd.R_reads' HO275.out).2.1); (case side3 => repeat (first | exact (Kd.R_reads' HO278.out).2.2 | (with_reducible refine Kd.C_alloc ?_ _) | (with_reducible refine Kd.C_drewN ?_ _) | (with_reducible refine Kd.C_drew ?_))); (case side4 => exact (Kd.R_reads' HO278.out).2.1); (case side5 => exact sqQ HR0_0 HB); (case side6 => exact HC0_0.out); (case side7 => exact sqQ HR0_1 HB); (case side8 => exact HC0_1.out); rintro e w41 ⟨rfl, hb⟩; refine ⟨_, rfl, ?_⟩; replace HO275 := Aside0.mk (Kd.R_below (sqR HO275) hb); replace HO278 := Aside0.mk (Kd.R_below (sqR HO278) hb); replace HO283 := Aside0.mk (Kd.R_below (sqR HO283) hb); replace HO287 := Aside0.mk (Kd.R_below (sqR HO287) hb); replace BK270 := sqk BK270 hb; replace BK279 := sqk BK279 hb; replace HB := sqb hb HB; (try clear hb); (try clear hb2); (try clear hk); (try clear hi)))
    go_meet
    case rel => exact ⟨_, (true), sqE, H', ⟨by first | omega | exact Nat.le_refl _⟩, ⟨by (with_reducible repeat (first | apply Kd.R_alloc | apply Kd.R_drewN | apply Kd.R_drew)); exact Kd.R_mono HO283.out (fun _ hk => ⟨hk.2, hk.1.2⟩)⟩, ⟨by (with_reducible repeat (first | apply Kd.R_alloc | apply Kd.R_drewN | apply Kd.R_drew)); exact Kd.R_mono HO287.out (fun _ hk => ⟨hk.2, hk.1.2⟩)⟩, ⟨by (with_reducible repeat (first | apply Kd.R_alloc | apply Kd.R_drewN | apply Kd.R_drew)); exact Kd.R_mono HO275.out (fun _ hk => ⟨hk.1.2, hk.2⟩)⟩, ⟨sqR HO278⟩, ⟨sqK BK270⟩, ⟨sqK BK279⟩, ⟨sqB HB⟩⟩
  case rest =>
   clear HC14; try clear c3
   (try clear hcz16_0); (try clear hcz16_1); (try clear hcz18_0); (try clear hcz18_1); (try clear hcz23_0); (try clear hcz23_1); (try clear hcz26_0); (try clear hcz26_1); (try clear hcz28_0); (try clear hcz28_1); (try clear hcz30_0); (try clear hcz30_1); (try clear hfz16_0); (try clear hfz16_1); (try clear hfz18_0); (try clear hfz18_1); (try clear hfz23_0); (try clear hfz23_1); (try clear hfz26_0); (try clear hfz26_1); (try clear hfz28_0); (try clear hfz28_1); (try clear hfz30_0); (try clear hfz30_1); obtain ⟨kq, x38_13, rfl, HA, HJ13, HO_5, HO_7, HO_280000, HO_280001, BK270, BK279, HB⟩ := hcut
   cases kq with
   | zero => exact absurd HA.out (by simp [lw_WoolWeights.j0])
   | succ kj13 =>
    have H := HA.out; clear HA; simp only [lw_WoolWeights.j0] at H
    by_cases c42 : x38_13 = true
    ·subst c42
     rw [if_pos rfl] at H; obtain rfl := Option.some.inj H
     go_wp2
     go_ret
     exact ⟨by first | rfl | (simp [errW_none, errW_some] <;> rfl) | (simp [*, errW_none, errW_some] <;> rfl), sqB HB⟩
    ·replace c42 := Bool.eq_false_iff.mpr c42
     subst c42; rw [if_neg Bool.false_ne_true] at H; replace H : ∃ y_ : List (List Bool), y_ = (([] : List (List Bool))) ∧ (if t289 = 0 then ((rf_Sets.f kj13 l0_0 l0_1 (-1)).bind fun t294 => ((rf_Is.f kj13 t294).bind fun t297 => (if t297 = true then (lw_WoolWeights.j1 kj13 t281 t284 t285 t288 t289 t294 l0_0 l0_1) else (lw_WoolWeights.j1 kj13 t281 t284 t285 t288 9 t294 l0_0 l0_1)))) else (lw_WoolWeights.j1 kj13 t281 t284 t285 t288 t289 y_ l0_0 l0_1)) = some r := ⟨_, rfl, sqJ H⟩; obtain ⟨y291, hy291, H⟩ := H; have Ny291 := Aside0.mk hy291; clear hy291; have HC43 := Aside0.mk H
     clear H; go_upto_if 41 with (first | ((with_reducible refine gate_dst (N := 39) rfl ?_); (try (refine gate_guard (by rfl) ?_; dsimp only)); refine Kd.S_lit (Kd.slice 4 Kd.bool) _ 104 ?hg (N := 39) ?hd (xs := ([] : List (List Bool))) (inner := []) (ok := fun _ => True) (okp := fun _ => True) ?hr ?hp (fun _ hk => hk) trivial (Below.refl _ _) (Nat.le_refl _) (by simp) ?_; (case hd => rfl); (case hg => rfl); (case hr => first | (go_simp; done) | (go_simp; rfl)); (case hp => exact (Reps.none _ _)); intro v292 w44 ho45 hb hg_ hnew_; clear hg_ hnew_; (first | rw [← Ny291.out] at ho45 | (simp only [Int.reduceToNat] at ho45; rw [← Ny291.out] at ho45)); replace HO_5 := Aside0.mk (Kd.R_below (sqR HO_5) hb); replace HO_7 := Aside0.mk (Kd.R_below (sqR HO_7) hb); replace HO_280000 := Aside0.mk (Kd.R_below (sqR HO_280000) hb); replace HO_280001 := Aside0.mk (Kd.R_below (sqR HO_280001) hb); have HO293 := Aside0.mk (Kd.S_lower ho45 (below_size (sqB HB))); replace BK270 := sqk BK270 hb; replace BK279 := sqk BK279 hb; replace HB := sqb hb HB; clear hb ho45))
     (try simp only [Act.put, sqA])
     go_cut [9, 10] (fun v9 v10 wc => ∃ (kq : Nat) (x9_42 : Int) (x10_42 : List (List Bool)), v9 = .int .i64 x9_42 ∧ Aside0 (lw_WoolWeights.j1 kq t281 t284 t285 t288 x9_42 x10_42 l0_0 l0_1 = some r) ∧ Aside0 (kq ≤ kj13) ∧ Aside0 (Kd.R k41 41 wc w.heap.size (fun k_ => some k_ ≠ (v286 : Value).ownBlock ∧ some k_ ≠ ((.slice Ao21 t273.length co21) : Value).ownBlock) v282 t281) ∧ Aside0 (Kd.R k41 41 wc w.heap.size (fun k_ => some k_ ≠ (v282 : Value).ownBlock ∧ some k_ ≠ ((.slice Ao21 t273.length co21) : Value).ownBlock) v286 t285) ∧ Aside0 (Kd.S (Kd.slice 4 Kd.bool) 104 wc w.heap.size (fun _ => True) v10 x10_42) ∧ Aside0 (Kd.R k41 41 wc w.heap.size (fun k_ => some k_ ≠ (v282 : Value).ownBlock ∧ some k_ ≠ (v286 : Value).ownBlock) (.slice Ao21 t273.length co21) t273) ∧ Aside0 (Kd.R k80 80 wc w.heap.size (fun _ => True) (.slice Ao24 t276.length co24) t276) ∧ Aside0 (wc.heap[gb270]? = some (.cells #[(.slice A0_0 l0_0.length c0_0), (.slice A0_1 l0_1.length c0_1)] 25 (0, 0))) ∧ Aside0 (wc.heap[gb279]? = some (.cells #[(.slice Ao21 t273.length co21), (.slice Ao24 t276.length co24)] 25 (0, 0))) ∧ Aside0 (Below w.heap.size w wc))
     case first =>
      have H := HC43.out; clear HC43
      by_cases c46 : t289 = 0
      ·rw [if_pos c46] at H
       have c46b0 : (t289 == 0) = true := beq_iff_eq.mpr c46; have c46b1 : (t289 != 0) = false := bne_eq_false_iff_eq.mpr c46; clear c46
       (first | rw [c46b0] | (simp only [i64_w, i32_w]; rw [c46b0]) | skip)
       obtain ⟨t294, A470, H⟩ := Option.bind_eq_some_iff.mp H; have A47 := Aside0.mk A470; clear A470; obtain ⟨t297, A480, H⟩ := Option.bind_eq_some_iff.mp H; have A48 := Aside0.mk A480; clear A480
       by_cases c49 : t297 = true
       ·subst c49
        rw [if_pos rfl] at H; have H' := Aside0.mk H; clear H; have hnb50 := NB270_279.out; have hnc50 := NB279_270.out; have hcz51_0 := sqc0 BK270; have hcz51_1 := sqc1 BK270; have hfz51_0 := blk_frozen BK270.out 0; have hfz51_1 := blk_frozen BK270.out 1
        go_wp2_with (first | ((with_reducible refine gate_callee (f := 24) rfl ?_); refine goesL_ (some 43) rfl rfl Tryd.func24 sqF rfl #[.agg #[.slice A0_0 l0_0.length c0_0, .slice A0_1 l0_1.length c0_1], .int .i64 (-1)] rfl sqM ?_; (with_reducible refine (rf_Sets.calls kj13 _ _ l0_0 _ _ l0_1 (-1) t294 _ ?side1 ?side2 ?side3 ?side4 A47.out).mono ?_); (case side1 => exact sqQ HR0_0 HB); (case side2 => exact HC0_0.out); (case side3 => exact sqQ HR0_1 HB); (case side4 => exact HC0_1.out); rintro e w52 ⟨v295, rfl, ho0, hb⟩; refine ⟨_, rfl, ?_⟩; replace HO_5 := Aside0.mk (Kd.R_below (sqR HO_5) hb); replace HO_7 := Aside0.mk (Kd.R_below (sqR HO_7) hb); replace HO_280000 := Aside0.mk (Kd.R_below (sqR HO_280000) hb); replace HO_280001 := Aside0.mk (Kd.R_below (sqR HO_280001) hb); have HO296 := Aside0.mk (Kd.S_lower (Kd.S_new' ho0 (Kd.S_lt (sqS HO293))) (below_size (sqB HB))); replace HO293 := Aside0.mk (Kd.S_elder' (sqS HO293) (Kd.S_base ho0) hb); replace BK270 := sqk BK270 hb; replace BK279 := sqk BK279 hb; replace HB := sqb hb HB; (try clear hb); (try clear hb2); (try clear hk); (try clear hi); (try clear ho0); obtain ⟨Ao53, co53, eo53⟩ := Kd.S_slice HO296.out; subst eo53) | ((with_reducible refine gate_callee (f := 25) rfl ?_); refine goesL_ (some 45) rfl rfl Tryd.func25 sqF rfl #[.slice Ao53 t294.length co53] rfl sqM ?_; (with_reducible refine (rf_Is.calls kj13 _ _ t294 true _ ?side1 ?side2 A48.out).mono ?_); (case side1 => repeat (first | exact (Kd.S_reads' HO296.out).2.2 | (with_reducible refine Kd.C_alloc ?_ _) | (with_reducible refine Kd.C_drewN ?_ _) | (with_reducible refine Kd.C_drew ?_))); (case side2 => exact (Kd.S_reads' HO296.out).2.1); rintro e w54 ⟨rfl, hb⟩; refine ⟨_, rfl, ?_⟩; replace HO_5 := Aside0.mk (Kd.R_below (sqR HO_5) hb); replace HO_7 := Aside0.mk (Kd.R_below (sqR HO_7) hb); replace HO_280000 := Aside0.mk (Kd.R_below (sqR HO_280000) hb); replace HO_280001 := Aside0.mk (Kd.R_below (sqR HO_280001) hb); replace HO293 := Aside0.mk (Kd.S_below (sqS HO293) hb); replace HO296 := Aside0.mk (Kd.S_below (sqS HO296) hb); replace BK270 := sqk BK270 hb; replace BK279 := sqk BK279 hb; replace HB := sqb hb HB; (try clear hb); (try clear hb2); (try clear hk); (try clear hi)))
        go_meet
        case rel => exact ⟨_, (t289), (t294), sqE, H', ⟨by have := HJ13.out; first | omega | exact Nat.le_refl _⟩, ⟨sqR HO_5⟩, ⟨sqR HO_7⟩, ⟨by (with_reducible repeat (first | apply Kd.S_alloc | apply Kd.S_drewN | apply Kd.S_drew)); exact Kd.S_mono HO296.out (fun _ hk => trivial)⟩, ⟨sqR HO_280000⟩, ⟨sqR HO_280001⟩, ⟨sqK BK270⟩, ⟨sqK BK279⟩, ⟨sqB HB⟩⟩
       ·replace c49 := Bool.eq_false_iff.mpr c49
        subst c49; rw [if_neg Bool.false_ne_true] at H; have H' := Aside0.mk H; clear H; have hnb55 := NB270_279.out; have hnc55 := NB279_270.out; have hcz56_0 := sqc0 BK270; have hcz56_1 := sqc1 BK270; have hfz56_0 := blk_frozen BK270.out 0; have hfz56_1 := blk_frozen BK270.out 1
        go_wp2_with (first | ((with_reducible refine gate_callee (f := 24) rfl ?_); refine goesL_ (some 43) rfl rfl Tryd.func24 sqF rfl #[.agg #[.slice A0_0 l0_0.length c0_0, .slice A0_1 l0_1.length c0_1], .int .i64 (-1)] rfl sqM ?_; (with_reducible refine (rf_Sets.calls kj13 _ _ l0_0 _ _ l0_1 (-1) t294 _ ?side1 ?side2 ?side3 ?side4 A47.out).mono ?_); (case side1 => exact sqQ HR0_0 HB); (case side2 => exact HC0_0.out); (case side3 => exact sqQ HR0_1 HB); (case side4 => exact HC0_1.out); rintro e w57 ⟨v295, rfl, ho0, hb⟩; refine ⟨_, rfl, ?_⟩; replace HO_5 := Aside0.mk (Kd.R_below (sqR HO_5) hb); replace HO_7 := Aside0.mk (Kd.R_below (sqR HO_7) hb); replace HO_280000 := Aside0.mk (Kd.R_below (sqR HO_280000) hb); replace HO_280001 := Aside0.mk (Kd.R_below (sqR HO_280001) hb); have HO296 := Aside0.mk (Kd.S_lower (Kd.S_new' ho0 (Kd.S_lt (sqS HO293))) (below_size (sqB HB))); replace HO293 := Aside0.mk (Kd.S_elder' (sqS HO293) (Kd.S_base ho0) hb); replace BK270 := sqk BK270 hb; replace BK279 := sqk BK279 hb; replace HB := sqb hb HB; (try clear hb); (try clear hb2); (try clear hk); (try clear hi); (try clear ho0); obtain ⟨Ao58, co58, eo58⟩ := Kd.S_slice HO296.out; subst eo58) | ((with_reducible refine gate_callee (f := 25) rfl ?_); refine goesL_ (some 45) rfl rfl Tryd.func25 sqF rfl #[.slice Ao58 t294.length co58] rfl sqM ?_; (with_reducible refine (rf_Is.calls kj13 _ _ t294 false _ ?side1 ?side2 A48.out).mono ?_); (case side1 => repeat (first | exact (Kd.S_reads' HO296.out).2.2 | (with_reducible refine Kd.C_alloc ?_ _) | (with_reducible refine Kd.C_drewN ?_ _) | (with_reducible refine Kd.C_drew ?_))); (case side2 => exact (Kd.S_reads' HO296.out).2.1); rintro e w59 ⟨rfl, hb⟩; refine ⟨_, rfl, ?_⟩; replace HO_5 := Aside0.mk (Kd.R_below (sqR HO_5) hb); replace HO_7 := Aside0.mk (Kd.R_below (sqR HO_7) hb); replace HO_280000 := Aside0.mk (Kd.R_below (sqR HO_280000) hb); replace HO_280001 := Aside0.mk (Kd.R_below (sqR HO_280001) hb); replace HO293 := Aside0.mk (Kd.S_below (sqS HO293) hb); replace HO296 := Aside0.mk (Kd.S_below (sqS HO296) hb); replace BK270 := sqk BK270 hb; replace BK279 := sqk BK279 hb; replace HB := sqb hb HB; (try clear hb); (try clear hb2); (try clear hk); (try clear hi)))
        go_meet
        case rel => exact ⟨_, (9), (t294), sqE, H', ⟨by have := HJ13.out; first | omega | exact Nat.le_refl _⟩, ⟨sqR HO_5⟩, ⟨sqR HO_7⟩, ⟨by (with_reducible repeat (first | apply Kd.S_alloc | apply Kd.S_drewN | apply Kd.S_drew)); exact Kd.S_mono HO296.out (fun _ hk => trivial)⟩, ⟨sqR HO_280000⟩, ⟨sqR HO_280001⟩, ⟨sqK BK270⟩, ⟨sqK BK279⟩, ⟨sqB HB⟩⟩
      ·rw [if_neg c46] at H
       have c46b0 : (t289 == 0) = false := beq_eq_false_iff_ne.mpr c46; have c46b1 : (t289 != 0) = true := bne_iff_ne.mpr c46
       (first | rw [c46b0] | (simp only [i64_w, i32_w]; rw [c46b0]) | skip)
       have H' := Aside0.mk H; clear H; go_wp2
       go_meet
       case rel => exact ⟨_, (t289), (y291), sqE, H', ⟨by have := HJ13.out; first | omega | exact Nat.le_refl _⟩, ⟨sqR HO_5⟩, ⟨sqR HO_7⟩, ⟨sqS HO293⟩, ⟨sqR HO_280000⟩, ⟨sqR HO_280001⟩, ⟨sqK BK270⟩, ⟨sqK BK279⟩, ⟨sqB HB⟩⟩
     case rest =>
      clear HC43; try clear c42
      obtain ⟨kq, x9_42, x10_42, rfl, HA, HJ42, HO_5, HO_7, HO_10, HO_280000, HO_280001, BK270, BK279, HB⟩ := hcut
      cases kq with
      | zero => exact absurd HA.out (by simp [lw_WoolWeights.j1])
      | succ kj42 =>
       have H := HA.out; clear HA; simp only [lw_WoolWeights.j1] at H
       by_cases c60 : x9_42 = 0
       ·rw [if_pos c60] at H
        have c60b0 : (x9_42 == 0) = true := beq_iff_eq.mpr c60; have c60b1 : (x9_42 != 0) = false := bne_eq_false_iff_eq.mpr c60; clear c60
        by_cases c61 : t284 = 0
        ·rw [if_pos c61] at H
         have c61b0 : (t284 == 0) = true := beq_iff_eq.mpr c61; have c61b1 : (t284 != 0) = false := bne_eq_false_iff_eq.mpr c61; clear c61
         by_cases c62 : t288 = 0
         ·rw [if_pos c62] at H
          have c62b0 : (t288 == 0) = true := beq_iff_eq.mpr c62; have c62b1 : (t288 != 0) = false := bne_eq_false_iff_eq.mpr c62; clear c62; obtain ⟨t299, A630, H⟩ := Option.bind_eq_some_iff.mp H; have A63 := Aside0.mk A630; clear A630; obtain ⟨t302, A640, H⟩ := Option.bind_eq_some_iff.mp H; have A64 := Aside0.mk A640; clear A640
          by_cases c65 : t302 = true
          ·subst c65
           rw [if_pos rfl] at H; obtain ⟨t303, A660, H⟩ := Option.bind_eq_some_iff.mp H; have A66 := Aside0.mk A660; clear A660; obtain ⟨t306, A670, H⟩ := Option.bind_eq_some_iff.mp H; have A67 := Aside0.mk A670; clear A670
           by_cases c68 : t306 = true
           ·subst c68
            rw [if_pos rfl] at H; obtain ⟨t307, A690, H⟩ := Option.bind_eq_some_iff.mp H; have A69 := Aside0.mk A690; clear A690; obtain rfl := Option.some.inj H; obtain ⟨Ao70, co70, eo70⟩ := Kd.S_slice HO_10.out; subst eo70
            go_wp2_with (first | (go_at_call 27; (with_reducible refine (rf_Weights.calls kj42 _ _ x10_42 t299 _ ?side1 ?side2 A63.out).mono ?_); (case side1 => repeat (first | exact (Kd.S_reads' HO_10.out).2.2 | (with_reducible refine Kd.C_alloc ?_ _) | (with_reducible refine Kd.C_drewN ?_ _) | (with_reducible refine Kd.C_drew ?_))); (case side2 => exact (Kd.S_reads' HO_10.out).2.1); rintro e w71 ⟨v300, rfl, ho0, hb⟩; replace HO_10 := Aside0.mk (Kd.S_below (sqS HO_10) hb); replace HO_280001 := Aside0.mk (Kd.R_below (sqR HO_280001) hb); have HO301 := Aside0.mk (Kd.R_lower (Kd.R_new' (Kd.R_new' (Kd.R_new' ho0 (Kd.R_lt (sqR HO_5))) (Kd.R_lt (sqR HO_7))) (Kd.R_lt (sqR HO_280000))) (below_size (sqB HB))); replace HO_5 := Aside0.mk (Kd.R_elder' (sqR HO_5) (Kd.R_base ho0) hb); replace HO_7 := Aside0.mk (Kd.R_elder' (sqR HO_7) (Kd.R_base ho0) hb); replace HO_280000 := Aside0.mk (Kd.R_elder' (sqR HO_280000) (Kd.R_base ho0) hb); replace BK270 := sqk BK270 hb; replace BK279 := sqk BK279 hb; replace HB := sqb hb HB; (try clear hb); (try clear hb2); (try clear hk); (try clear hi); (try clear ho0); obtain ⟨Ao72, co72, eo72⟩ := Kd.R_slice HO_5.out; subst eo72; obtain ⟨Ao73, co73, eo73⟩ := Kd.R_slice HO301.out; subst eo73) | (go_at_call 26; (with_reducible refine (rf_Spans.calls kj42 _ _ t281 _ _ t299 true _ ?side1 ?side2 ?side3 ?side4 A64.out).mono ?_); (case side1 => repeat (first | exact (Kd.R_reads' HO_5.out).2.2 | (with_reducible refine Kd.C_alloc ?_ _) | (with_reducible refine Kd.C_drewN ?_ _) | (with_reducible refine Kd.C_drew ?_))); (case side2 => exact (Kd.R_reads' HO_5.out).2.1); (case side3 => repeat (first | exact (Kd.R_reads' HO301.out).2.2 | (with_reducible refine Kd.C_alloc ?_ _) | (with_reducible refine Kd.C_drewN ?_ _) | (with_reducible refine Kd.C_drew ?_))); (case side4 => exact (Kd.R_reads' HO301.out).2.1); rintro e w' ⟨rfl, ⟨nd, rfl⟩⟩; have hnb74 := NB270_279.out; have hnc74 := NB279_270.out; have hcz75_0 := sqc0 BK270; have hcz75_1 := sqc1 BK270; have hfz75_0 := blk_frozen BK270.out 0; have hfz75_1 := blk_frozen BK270.out 1) | (go_at_call 28; (with_reducible refine (rf_Flocks.calls kj42 _ _ l0_0 _ _ l0_1 _ _ x10_42 t303 _ ?side1 ?side2 ?side3 ?side4 ?side5 ?side6 A66.out).mono ?_); (case side1 => repeat (first | exact (Kd.C_below HR0_0.out (sqB HB)) | (with_reducible refine Kd.C_alloc ?_ _) | (with_reducible refine Kd.C_drewN ?_ _) | (with_reducible refine Kd.C_drew ?_))); (case side2 => exact HC0_0.out); (case side3 => repeat (first | exact (Kd.C_below HR0_1.out (sqB HB)) | (with_reducible refine Kd.C_alloc ?_ _) | (with_reducible refine Kd.C_drewN ?_ _) | (with_reducible refine Kd.C_drew ?_))); (case side4 => exact HC0_1.out); (case side5 => repeat (first | exact (Kd.S_reads' HO_10.out).2.2 | (with_reducible refine Kd.C_alloc ?_ _) | (with_reducible refine Kd.C_drewN ?_ _) | (with_reducible refine Kd.C_drew ?_))); (case side6 => exact (Kd.S_reads' HO_10.out).2.1); rintro e w76 ⟨v304, rfl, ho0, hb⟩; replace HO_10 := Aside0.mk (Kd.S_below (sqS HO_10) hb); replace HO_280001 := Aside0.mk (Kd.R_below (sqR HO_280001) hb); have HO305 := Aside0.mk (Kd.R_lower (Kd.R_new' (Kd.R_new' (Kd.R_new' (Kd.R_new' ho0 (Kd.R_lt (sqR HO_5))) (Kd.R_lt (sqR HO_7))) (Kd.R_lt (sqR HO_280000))) (Kd.R_lt (sqR HO301))) (below_size (sqB HB))); replace HO_5 := Aside0.mk (Kd.R_elder' (sqR HO_5) (Kd.R_base ho0) hb); replace HO_7 := Aside0.mk (Kd.R_elder' (sqR HO_7) (Kd.R_base ho0) hb); replace HO_280000 := Aside0.mk (Kd.R_elder' (sqR HO_280000) (Kd.R_base ho0) hb); replace HO301 := Aside0.mk (Kd.R_elder' (sqR HO301) (Kd.R_base ho0) hb); replace BK270 := sqk BK270 hb; replace BK279 := sqk BK279 hb; replace HB := sqb hb HB; (try clear hb); (try clear hb2); (try clear hk); (try clear hi); (try clear ho0); obtain ⟨Ao77, co77, eo77⟩ := Kd.R_slice HO_7.out; subst eo77; obtain ⟨Ao78, co78, eo78⟩ := Kd.R_slice HO305.out; subst eo78) | (go_at_call 26; (with_reducible refine (rf_Spans.calls kj42 _ _ t285 _ _ t303 true _ ?side1 ?side2 ?side3 ?side4 A67.out).mono ?_); (case side1 => repeat (first | exact (Kd.R_reads' HO_7.out).2.2 | (with_reducible refine Kd.C_alloc ?_ _) | (with_reducible refine Kd.C_drewN ?_ _) | (with_reducible refine Kd.C_drew ?_))); (case side2 => exact (Kd.R_reads' HO_7.out).2.1); (case side3 => repeat (first | exact (Kd.R_reads' HO305.out).2.2 | (with_reducible refine Kd.C_alloc ?_ _) | (with_reducible refine Kd.C_drewN ?_ _) | (with_reducible refine Kd.C_drew ?_))); (case side4 => exact (Kd.R_reads' HO305.out).2.1); rintro e w' ⟨rfl, ⟨nd, rfl⟩⟩) | (go_at_call 17; (with_reducible refine (lw_known.calls t307 _ ?sideG A69.out).mono ?_); (case sideG => exact sqQ HGL HB); rintro e w79 ⟨rfl, hb⟩; replace HO_5 := Aside0.mk (Kd.R_below (sqR HO_5) hb); replace HO_7 := Aside0.mk (Kd.R_below (sqR HO_7) hb); replace HO_10 := Aside0.mk (Kd.S_below (sqS HO_10) hb); replace HO_280000 := Aside0.mk (Kd.R_below (sqR HO_280000) hb); replace HO_280001 := Aside0.mk (Kd.R_below (sqR HO_280001) hb); replace HO301 := Aside0.mk (Kd.R_below (sqR HO301) hb); replace HO305 := Aside0.mk (Kd.R_below (sqR HO305) hb); replace BK270 := sqk BK270 hb; replace BK279 := sqk BK279 hb; replace HB := sqb hb HB; (try clear hb); (try clear hb2); (try clear hk); (try clear hi)))
            go_ret
            exact ⟨by first | rfl | (simp [errW_none, errW_some] <;> rfl) | (simp [*, errW_none, errW_some] <;> rfl), sqB HB⟩
           ·replace c68 := Bool.eq_false_iff.mpr c68
            subst c68; rw [if_neg Bool.false_ne_true] at H; obtain rfl := Option.some.inj H; obtain ⟨Ao80, co80, eo80⟩ := Kd.S_slice HO_10.out; subst eo80
            go_wp2_with (first | (go_at_call 27; (with_reducible refine (rf_Weights.calls kj42 _ _ x10_42 t299 _ ?side1 ?side2 A63.out).mono ?_); (case side1 => repeat (first | exact (Kd.S_reads' HO_10.out).2.2 | (with_reducible refine Kd.C_alloc ?_ _) | (with_reducible refine Kd.C_drewN ?_ _) | (with_reducible refine Kd.C_drew ?_))); (case side2 => exact (Kd.S_reads' HO_10.out).2.1); rintro e w81 ⟨v300, rfl, ho0, hb⟩; replace HO_10 := Aside0.mk (Kd.S_below (sqS HO_10) hb); replace HO_280001 := Aside0.mk (Kd.R_below (sqR HO_280001) hb); have HO301 := Aside0.mk (Kd.R_lower (Kd.R_new' (Kd.R_new' (Kd.R_new' ho0 (Kd.R_lt (sqR HO_5))) (Kd.R_lt (sqR HO_7))) (Kd.R_lt (sqR HO_280000))) (below_size (sqB HB))); replace HO_5 := Aside0.mk (Kd.R_elder' (sqR HO_5) (Kd.R_base ho0) hb); replace HO_7 := Aside0.mk (Kd.R_elder' (sqR HO_7) (Kd.R_base ho0) hb); replace HO_280000 := Aside0.mk (Kd.R_elder' (sqR HO_280000) (Kd.R_base ho0) hb); replace BK270 := sqk BK270 hb; replace BK279 := sqk BK279 hb; replace HB := sqb hb HB; (try clear hb); (try clear hb2); (try clear hk); (try clear hi); (try clear ho0); obtain ⟨Ao82, co82, eo82⟩ := Kd.R_slice HO_5.out; subst eo82; obtain ⟨Ao83, co83, eo83⟩ := Kd.R_slice HO301.out; subst eo83) | (go_at_call 26; (with_reducible refine (rf_Spans.calls kj42 _ _ t281 _ _ t299 true _ ?side1 ?side2 ?side3 ?side4 A64.out).mono ?_); (case side1 => repeat (first | exact (Kd.R_reads' HO_5.out).2.2 | (with_reducible refine Kd.C_alloc ?_ _) | (with_reducible refine Kd.C_drewN ?_ _) | (with_reducible refine Kd.C_drew ?_))); (case side2 => exact (Kd.R_reads' HO_5.out).2.1); (case side3 => repeat (first | exact (Kd.R_reads' HO301.out).2.2 | (with_reducible refine Kd.C_alloc ?_ _) | (with_reducible refine Kd.C_drewN ?_ _) | (with_reducible refine Kd.C_drew ?_))); (case side4 => exact (Kd.R_reads' HO301.out).2.1); rintro e w' ⟨rfl, ⟨nd, rfl⟩⟩; have hnb84 := NB270_279.out; have hnc84 := NB279_270.out; have hcz85_0 := sqc0 BK270; have hcz85_1 := sqc1 BK270; have hfz85_0 := blk_frozen BK270.out 0; have hfz85_1 := blk_frozen BK270.out 1) | (go_at_call 28; (with_reducible refine (rf_Flocks.calls kj42 _ _ l0_0 _ _ l0_1 _ _ x10_42 t303 _ ?side1 ?side2 ?side3 ?side4 ?side5 ?side6 A66.out).mono ?_); (case side1 => repeat (first | exact (Kd.C_below HR0_0.out (sqB HB)) | (with_reducible refine Kd.C_alloc ?_ _) | (with_reducible refine Kd.C_drewN ?_ _) | (with_reducible refine Kd.C_drew ?_))); (case side2 => exact HC0_0.out); (case side3 => repeat (first | exact (Kd.C_below HR0_1.out (sqB HB)) | (with_reducible refine Kd.C_alloc ?_ _) | (with_reducible refine Kd.C_drewN ?_ _) | (with_reducible refine Kd.C_drew ?_))); (case side4 => exact HC0_1.out); (case side5 => repeat (first | exact (Kd.S_reads' HO_10.out).2.2 | (with_reducible refine Kd.C_alloc ?_ _) | (with_reducible refine Kd.C_drewN ?_ _) | (with_reducible refine Kd.C_drew ?_))); (case side6 => exact (Kd.S_reads' HO_10.out).2.1); rintro e w86 ⟨v304, rfl, ho0, hb⟩; replace HO_10 := Aside0.mk (Kd.S_below (sqS HO_10) hb); replace HO_280001 := Aside0.mk (Kd.R_below (sqR HO_280001) hb); have HO305 := Aside0.mk (Kd.R_lower (Kd.R_new' (Kd.R_new' (Kd.R_new' (Kd.R_new' ho0 (Kd.R_lt (sqR HO_5))) (Kd.R_lt (sqR HO_7))) (Kd.R_lt (sqR HO_280000))) (Kd.R_lt (sqR HO301))) (below_size (sqB HB))); replace HO_5 := Aside0.mk (Kd.R_elder' (sqR HO_5) (Kd.R_base ho0) hb); replace HO_7 := Aside0.mk (Kd.R_elder' (sqR HO_7) (Kd.R_base ho0) hb); replace HO_280000 := Aside0.mk (Kd.R_elder' (sqR HO_280000) (Kd.R_base ho0) hb); replace HO301 := Aside0.mk (Kd.R_elder' (sqR HO301) (Kd.R_base ho0) hb); replace BK270 := sqk BK270 hb; replace BK279 := sqk BK279 hb; replace HB := sqb hb HB; (try clear hb); (try clear hb2); (try clear hk); (try clear hi); (try clear ho0); obtain ⟨Ao87, co87, eo87⟩ := Kd.R_slice HO_7.out; subst eo87; obtain ⟨Ao88, co88, eo88⟩ := Kd.R_slice HO305.out; subst eo88) | (go_at_call 26; (with_reducible refine (rf_Spans.calls kj42 _ _ t285 _ _ t303 false _ ?side1 ?side2 ?side3 ?side4 A67.out).mono ?_); (case side1 => repeat (first | exact (Kd.R_reads' HO_7.out).2.2 | (with_reducible refine Kd.C_alloc ?_ _) | (with_reducible refine Kd.C_drewN ?_ _) | (with_reducible refine Kd.C_drew ?_))); (case side2 => exact (Kd.R_reads' HO_7.out).2.1); (case side3 => repeat (first | exact (Kd.R_reads' HO305.out).2.2 | (with_reducible refine Kd.C_alloc ?_ _) | (with_reducible refine Kd.C_drewN ?_ _) | (with_reducible refine Kd.C_drew ?_))); (case side4 => exact (Kd.R_reads' HO305.out).2.1); rintro e w' ⟨rfl, ⟨nd, rfl⟩⟩))
            go_ret
            exact ⟨by first | rfl | (simp [errW_none, errW_some] <;> rfl) | (simp [*, errW_none, errW_some] <;> rfl), sqB HB⟩
          ·replace c65 := Bool.eq_false_iff.mpr c65
           subst c65; rw [if_neg Bool.false_ne_true] at H; obtain rfl := Option.some.inj H; obtain ⟨Ao89, co89, eo89⟩ := Kd.S_slice HO_10.out; subst eo89
           go_wp2_with (first | (go_at_call 27; (with_reducible refine (rf_Weights.calls kj42 _ _ x10_42 t299 _ ?side1 ?side2 A63.out).mono ?_); (case side1 => repeat (first | exact (Kd.S_reads' HO_10.out).2.2 | (with_reducible refine Kd.C_alloc ?_ _) | (with_reducible refine Kd.C_drewN ?_ _) | (with_reducible refine Kd.C_drew ?_))); (case side2 => exact (Kd.S_reads' HO_10.out).2.1); rintro e w90 ⟨v300, rfl, ho0, hb⟩; replace HO_10 := Aside0.mk (Kd.S_below (sqS HO_10) hb); replace HO_280001 := Aside0.mk (Kd.R_below (sqR HO_280001) hb); have HO301 := Aside0.mk (Kd.R_lower (Kd.R_new' (Kd.R_new' (Kd.R_new' ho0 (Kd.R_lt (sqR HO_5))) (Kd.R_lt (sqR HO_7))) (Kd.R_lt (sqR HO_280000))) (below_size (sqB HB))); replace HO_5 := Aside0.mk (Kd.R_elder' (sqR HO_5) (Kd.R_base ho0) hb); replace HO_7 := Aside0.mk (Kd.R_elder' (sqR HO_7) (Kd.R_base ho0) hb); replace HO_280000 := Aside0.mk (Kd.R_elder' (sqR HO_280000) (Kd.R_base ho0) hb); replace BK270 := sqk BK270 hb; replace BK279 := sqk BK279 hb; replace HB := sqb hb HB; (try clear hb); (try clear hb2); (try clear hk); (try clear hi); (try clear ho0); obtain ⟨Ao91, co91, eo91⟩ := Kd.R_slice HO_5.out; subst eo91; obtain ⟨Ao92, co92, eo92⟩ := Kd.R_slice HO301.out; subst eo92) | (go_at_call 26; (with_reducible refine (rf_Spans.calls kj42 _ _ t281 _ _ t299 false _ ?side1 ?side2 ?side3 ?side4 A64.out).mono ?_); (case side1 => repeat (first | exact (Kd.R_reads' HO_5.out).2.2 | (with_reducible refine Kd.C_alloc ?_ _) | (with_reducible refine Kd.C_drewN ?_ _) | (with_reducible refine Kd.C_drew ?_))); (case side2 => exact (Kd.R_reads' HO_5.out).2.1); (case side3 => repeat (first | exact (Kd.R_reads' HO301.out).2.2 | (with_reducible refine Kd.C_alloc ?_ _) | (with_reducible refine Kd.C_drewN ?_ _) | (with_reducible refine Kd.C_drew ?_))); (case side4 => exact (Kd.R_reads' HO301.out).2.1); rintro e w' ⟨rfl, ⟨nd, rfl⟩⟩))
           go_ret
           exact ⟨by first | rfl | (simp [errW_none, errW_some] <;> rfl) | (simp [*, errW_none, errW_some] <;> rfl), sqB HB⟩
         ·rw [if_neg c62] at H
          have c62b0 : (t288 == 0) = false := beq_eq_false_iff_ne.mpr c62; have c62b1 : (t288 != 0) = true := bne_iff_ne.mpr c62; obtain rfl := Option.some.inj H
          go_wp2
          go_ret
          exact ⟨by first | rfl | (simp [errW_none, errW_some] <;> rfl) | (simp [*, errW_none, errW_some] <;> rfl), sqB HB⟩
        ·rw [if_neg c61] at H
         have c61b0 : (t284 == 0) = false := beq_eq_false_iff_ne.mpr c61; have c61b1 : (t284 != 0) = true := bne_iff_ne.mpr c61; obtain rfl := Option.some.inj H
         go_wp2
         go_ret
         exact ⟨by first | rfl | (simp [errW_none, errW_some] <;> rfl) | (simp [*, errW_none, errW_some] <;> rfl), sqB HB⟩
       ·rw [if_neg c60] at H
        have c60b0 : (x9_42 == 0) = false := beq_eq_false_iff_ne.mpr c60; have c60b1 : (x9_42 != 0) = true := bne_iff_ne.mpr c60
        by_cases c93 : t284 = x9_42
        ·rw [if_pos c93] at H
         have c93b0 : (t284 == x9_42) = true := beq_iff_eq.mpr c93; have c93b1 : (t284 != x9_42) = false := bne_eq_false_iff_eq.mpr c93; clear c93
         by_cases c94 : t288 = x9_42
         ·rw [if_pos c94] at H
          have c94b0 : (t288 == x9_42) = true := beq_iff_eq.mpr c94; have c94b1 : (t288 != x9_42) = false := bne_eq_false_iff_eq.mpr c94; clear c94
          by_cases c95 : (wrap64 ((t281.length : Int) + (t285.length : Int))) = 0
          ·rw [if_pos c95] at H
           have c95b0 : ((wrap64 ((t281.length : Int) + (t285.length : Int))) == 0) = true := beq_iff_eq.mpr c95; have c95b1 : ((wrap64 ((t281.length : Int) + (t285.length : Int))) != 0) = false := bne_eq_false_iff_eq.mpr c95; clear c95; obtain ⟨t298, A960, H⟩ := Option.bind_eq_some_iff.mp H; have A96 := Aside0.mk A960; clear A960; obtain rfl := Option.some.inj H; obtain ⟨Ao97, co97, eo97⟩ := Kd.R_slice HO_5.out; subst eo97; obtain ⟨Ao98, co98, eo98⟩ := Kd.R_slice HO_7.out; subst eo98
           go_wp2_with (first | (go_at_call 17; (with_reducible refine (lw_known.calls t298 _ ?sideG A96.out).mono ?_); (case sideG => exact sqQ HGL HB); rintro e w99 ⟨rfl, hb⟩; replace HO_5 := Aside0.mk (Kd.R_below (sqR HO_5) hb); replace HO_7 := Aside0.mk (Kd.R_below (sqR HO_7) hb); replace HO_10 := Aside0.mk (Kd.S_below (sqS HO_10) hb); replace HO_280000 := Aside0.mk (Kd.R_below (sqR HO_280000) hb); replace HO_280001 := Aside0.mk (Kd.R_below (sqR HO_280001) hb); replace BK270 := sqk BK270 hb; replace BK279 := sqk BK279 hb; replace HB := sqb hb HB; (try clear hb); (try clear hb2); (try clear hk); (try clear hi)))
           go_ret
           exact ⟨by first | rfl | (simp [errW_none, errW_some] <;> rfl) | (simp [*, errW_none, errW_some] <;> rfl), sqB HB⟩
          ·rw [if_neg c95] at H
           have c95b0 : ((wrap64 ((t281.length : Int) + (t285.length : Int))) == 0) = false := beq_eq_false_iff_ne.mpr c95; have c95b1 : ((wrap64 ((t281.length : Int) + (t285.length : Int))) != 0) = true := bne_iff_ne.mpr c95; obtain rfl := Option.some.inj H; obtain ⟨Ao100, co100, eo100⟩ := Kd.R_slice HO_5.out; subst eo100; obtain ⟨Ao101, co101, eo101⟩ := Kd.R_slice HO_7.out; subst eo101
           go_wp2
           go_ret
           exact ⟨by first | rfl | (simp [errW_none, errW_some] <;> rfl) | (simp [*, errW_none, errW_some] <;> rfl), sqB HB⟩
         ·rw [if_neg c94] at H
          have c94b0 : (t288 == x9_42) = false := beq_eq_false_iff_ne.mpr c94; have c94b1 : (t288 != x9_42) = true := bne_iff_ne.mpr c94; obtain rfl := Option.some.inj H
          go_wp2
          go_ret
          exact ⟨by first | rfl | (simp [errW_none, errW_some] <;> rfl) | (simp [*, errW_none, errW_some] <;> rfl), sqB HB⟩
        ·rw [if_neg c93] at H
         have c93b0 : (t284 == x9_42) = false := beq_eq_false_iff_ne.mpr c93; have c93b1 : (t284 != x9_42) = true := bne_iff_ne.mpr c93; obtain rfl := Option.some.inj H
         go_wp2
         go_ret
         exact ⟨by first | rfl | (simp [errW_none, errW_some] <;> rfl) | (simp [*, errW_none, errW_some] <;> rfl), sqB HB⟩
end Go.Proofs.YtemingmeidmjkaaDoor.Q
namespace Go.Proofs.YtemingmeidmjkaaDoor.Rw
open Go.RowKit Go.Proofs.YtemingmeidmjkaaDoorW.PrintWords
set_option linter.unusedVariables false
set_option linter.unusedSimpArgs false
theorem add_two (a : Addr) (x y : Nat) : (a.add x).add y = a.add (x + y) := by
 unfold Addr.add
 by_cases h1 : x = 0
 ·subst h1; simp
 ·by_cases h2 : y = 0
  ·subst h2; simp
  ·have h3 : ¬ x + y = 0 := by omega
   simp [h1, h2, Nat.add_assoc]
structure Opens {α : Type} (P : Program) (t : TypeId) (d : Kd α) (good : α → Prop) : Prop where
 size : d.sz = P.cellsOf t
 read : ∀ {H : Type} {enc : TypeId × Value → H} {w : World} {base : Nat} {sp : Nat → Bool} {held : Bool} {fuel : Nat} {cs : List Value} {x : DataW H × List MemPlace}, DataW.trod enc P w base sp held fuel t cs = some x → ∃ y : α, d.K w y cs ∧ good y
theorem Opens.int {P : Program} {t : TypeId} {k : IntKind} (ht : P.underlying t = some (.int k)) (hc : 1 = P.cellsOf t) : Opens P t (Kd.int k) (fun n => (Lit.int k n).wf = true) := ⟨hc, fun h => by
 obtain ⟨n, rfl, rfl, hw⟩ := DataW.trod_int ht h
 exact ⟨n, rfl, hw⟩⟩
theorem Opens.slice {α : Type} {P : Program} {t e : TypeId} {d : Kd α} {good : α → Prop} (ht : P.underlying t = some (.slice e)) (hc : 1 = P.cellsOf t) (h : Opens P e d good) : Opens P t (Kd.slice e d) (fun l => ∀ x ∈ l, good x) := ⟨hc, fun {H enc w base sp held fuel cs x} hx => by
 rcases DataW.trod_slice ht hx with ⟨rfl, _⟩ | ⟨a, len, cap, elems, rest, n, _, rfl, _, hb, hl, hm, hlen, hel, _, _⟩
 ·exact ⟨[], ⟨none, 0, rfl, Nat.le_refl _, Kd.C_nil _ _⟩, fun x hx => by cases hx⟩
 ·have key : ∀ m, m ≤ len → ∃ l : List α, l.length = m ∧ ∀ i z, l[i]? = some z → good z ∧ ∃ c, c.length = d.sz ∧ d.K w z c ∧ ∀ j u, c[j]? = some u → w.cell? (a.add (i * d.sz + j)) = some u := by
   intro m
   induction m with
   | zero => intro _; exact ⟨[], rfl, fun i z hz => by simp at hz⟩
   | succ m ih =>
    intro hle; obtain ⟨l, hll, hl2⟩ := ih (by omega); have h1 := hel m (by omega); rw [List.getElem?_eq_getElem (by omega), Option.bind_eq_some_iff] at h1; obtain ⟨c, hc1, hc2⟩ := h1; obtain ⟨z, hz, hg⟩ := h.read hc2; obtain ⟨_, hcl, hcc⟩ := World.cells?_some hc1; refine ⟨l ++ [z], by simp [hll], fun i z' hz' => ?_⟩
    rcases Nat.lt_or_ge i l.length with hlt | hge
    ·rw [List.getElem?_append_left hlt] at hz'
     exact hl2 i z' hz'
    ·rw [List.getElem?_append_right hge] at hz'
     have e : i = m := by
      rcases Nat.eq_zero_or_pos (i - l.length) with e | e
      ·omega
      ·rw [List.getElem?_eq_none (by simp; omega)] at hz'; cases hz'
     subst e; rw [show i - l.length = 0 by omega] at hz'; simp only [List.getElem?_cons_zero, Option.some.injEq] at hz'; subst hz'; refine ⟨hg, c, by rw [hcl, h.size], hz, fun j u hu => ?_⟩
     have hj : j < P.cellsOf e := by rw [← hcl]; exact (List.getElem?_eq_some_iff.1 hu).1
     have := hcc j hj; rw [hu] at this; rw [h.size, ← this, add_two]
  obtain ⟨l, hll, hl2⟩ := key len (Nat.le_refl _); refine ⟨l, ⟨some a, cap, by rw [hll], by omega, rfl, by unfold maxLen at hm; omega, fun _ => ⟨a, rfl, fun j p hj => ?_⟩⟩, fun x hx => ?_⟩
  ·obtain ⟨_, c, h1, h2, h3⟩ := hl2 j p hj
   exact ⟨c, h1, h2, h3⟩
  ·obtain ⟨i, hi⟩ := List.getElem?_of_mem hx
   exact (hl2 i x hi).1⟩
structure FOpens {α : Type} (P : Program) (fs : List Field) (off : Nat) (d : Kd α) (good : α → Prop) : Prop where
 read : ∀ {H : Type} {enc : TypeId × Value → H} {w : World} {base : Nat} {sp : Nat → Bool} {held : Bool} {fuel : Nat} {cs : List Value},
 (∀ (i : Nat) (f : Field), fs[i]? = some f → ∃ y, DataW.trod enc P w base sp held fuel f.type ((cs.drop f.offset).take (P.cellsOf f.type)) = some y) → cs.length = off + d.sz → ∃ y : α, d.K w y (cs.drop off) ∧ good y
theorem FOpens.one {α : Type} {P : Program} {f : Field} {off : Nat} {d : Kd α} {good : α → Prop} (h : Opens P f.type d good) (ho : f.offset = off) : FOpens P [f] off d good := ⟨fun {H enc w base sp held fuel cs} hf hl => by
 obtain ⟨y, hy⟩ := hf 0 f rfl; rw [ho, ← h.size, List.take_of_length_le (by rw [List.length_drop]; omega)] at hy
 exact h.read hy⟩
theorem FOpens.cons {α β : Type} {P : Program} {f : Field} {fs : List Field} {off : Nat} {d1 : Kd α} {d2 : Kd β} {g1 : α → Prop} {g2 : β → Prop} (h1 : Opens P f.type d1 g1) (ho : f.offset = off) (h2 : FOpens P fs (off + d1.sz) d2 g2) : FOpens P (f :: fs) off (Kd.pair d1 d2) (fun x => g1 x.1 ∧ g2 x.2) := ⟨fun {H enc w base sp held fuel cs} hf hl => by
 have hsz : (Kd.pair d1 d2).sz = d1.sz + d2.sz := rfl; obtain ⟨y1, hy1⟩ := hf 0 f rfl; rw [ho, ← h1.size] at hy1; obtain ⟨x1, hk1, hg1⟩ := h1.read hy1; obtain ⟨x2, hk2, hg2⟩ := h2.read (cs := cs) (fun i g hg => hf (i + 1) g (by simpa using hg)) (by omega); refine ⟨(x1, x2), ⟨_, _, ?_, hk1, hk2⟩, hg1, hg2⟩
 rw [← List.drop_drop, List.take_append_drop]⟩
theorem Opens.struct {α : Type} {P : Program} {t : TypeId} {fs : Array Field} {d : Kd α} {good : α → Prop} (ht : P.underlying t = some (.struct fs)) (hs : d.sz = P.cellsOf t) (h : FOpens P fs.toList 0 d good) : Opens P t d good := ⟨hs, fun {H enc w base sp held fuel cs x} hx => by
 obtain ⟨xs, n, _, _, hcl, hxl, hf⟩ := DataW.trod_struct ht hx
 have := h.read (enc := enc) (w := w) (base := base) (sp := sp) (held := held) (fuel := n) (cs := cs) (fun i f hi => by
  rw [Array.getElem?_toList] at hi; have hlt := (Array.getElem?_eq_some_iff.1 hi).1
  exact ⟨xs[i]'(by omega), by rw [hf i f hi, List.getElem?_eq_getElem]⟩) (by omega)
 simpa using this⟩
theorem Opens.iso {α β : Type} {P : Program} {t : TypeId} {d : Kd α} {good : α → Prop} (f : β → α) (g : α → β) (hfg : ∀ x, f (g x) = x) (h : Opens P t d good) : Opens P t (Kd.iso d f) (fun y => good (f y)) := ⟨h.size, fun hx => by
 obtain ⟨y, hk, hg⟩ := h.read hx
 exact ⟨g y, by show d.K _ (f (g y)) _; rw [hfg]; exact hk, by rw [hfg]; exact hg⟩⟩
end Go.Proofs.YtemingmeidmjkaaDoor.Rw
namespace Go.Proofs.YtemingmeidmjkaaDoor.Q
open Go.RowKit Go.Proofs.YtemingmeidmjkaaDoorW.PrintWords
set_option linter.unusedVariables false
set_option linter.unusedSimpArgs false
theorem rdA (l : List S41) (i : Nat) (h : i < l.length) : rd_T41 l (i : Int) = l[i] := by simp [rd_T41, h]
theorem rdW (l : List S80) (i : Nat) (h : i < l.length) : rd_T80 l (i : Int) = l[i] := by simp [rd_T80, h]
theorem drop_dec {α : Type} [DecidableEq α] (a b : List α) (i : Nat) (ha : i < a.length) (hb : i < b.length) : decide (a.drop i = b.drop i) = (decide (a[i] = b[i]) && decide (a.drop (i + 1) = b.drop (i + 1))) := by
 rw [List.drop_eq_getElem_cons ha, List.drop_eq_getElem_cons hb, Bool.eq_iff_iff]; simp only [decide_eq_true_eq, Bool.and_eq_true, List.cons.injEq]
theorem In_f (a b c : Int) : rf_In.f a b c = some (inB b c [a]) := by
 have e : inB b c [a] = (decide (b ≤ a) && decide (a ≤ c)) := by
  rw [Bool.eq_iff_iff, inB_iff]
  simp
 rw [e]
 unfold rf_In.f
 split <;> simp_all <;> omega
theorem inB_one (b c a : Int) : inB b c [a] = true ↔ b ≤ a ∧ a ≤ c := by rw [inB_iff]; simp
theorem known_f : lw_known.f = some true := rfl
theorem long_f (l0 : List S41) (l1 : List S80) : lw_long.f l0 l1 = some (decide ((l0.length : Int) > 10 ∨ (l1.length : Int) > 12)) := by
 unfold lw_long.f
 by_cases h : (l0.length : Int) > 10 <;> simp [h]
theorem Copy_f (l0 : List S41) (l1 : List S80) (h0 : l0.length ≤ 1000) (h1 : l1.length ≤ 1000) : rf_Copy.f l0 l1 = some (l0, l1) := by
 unfold rf_Copy.f
 simp only [Option.bind_some, List.length_nil, List.nil_append]; rw [if_pos (by omega), if_pos (by omega)]
theorem dec_S (x y : S41) : decide ((⟨x.f0, x.f1⟩ : Sp) = ⟨y.f0, y.f1⟩) = !(!(x.f0 == y.f0) || !(x.f1 == y.f1)) := by
 rw [Bool.eq_iff_iff]
 simp
theorem toSt_get (l : List S41) (i : Nat) (h : i < l.length) : (toSt l)[i]'(by rw [toSt_len]; exact h) = ⟨l[i].f0, l[i].f1⟩ := by simp [toSt]
theorem Spans_l0 (a b : List S41) (hl : a.length ≤ 1000) (hab : a.length = b.length) : ∀ (d i : Nat), i + d = a.length → Ev (fun k => rf_Spans.l0 k a b (i : Int)) (decide ((toSt a).drop i = (toSt b).drop i))
 | 0, i, h => by
  refine Ev.up ?_; simp only [rf_Spans.l0, if_neg (show ¬ (i : Int) < (a.length : Int) by omega)]; rw [List.drop_eq_nil_of_le (by rw [toSt_len]; omega), List.drop_eq_nil_of_le (by rw [toSt_len]; omega)]
  simpa using Ev.now true
 | d + 1, i, h => by
  refine Ev.up ?_; simp only [rf_Spans.l0, if_pos (show (i : Int) < (a.length : Int) by omega), if_pos (show (0 : Int) ≤ (i : Int) by omega), if_pos (show (i : Int) < (b.length : Int) by omega), wi i (by omega), rdA a i (by omega), rdA b i (by omega)]; rw [drop_dec (toSt a) (toSt b) i (by rw [toSt_len]; omega) (by rw [toSt_len]; omega), toSt_get a i (by omega), toSt_get b i (by omega), dec_S]
  cases hq : (!(a[i].f0 == b[i].f0) || !(a[i].f1 == b[i].f1))
  ·simp only [Bool.false_eq_true, if_false, Bool.not_false, Bool.true_and]
   exact Spans_l0 a b hl hab d (i + 1) (by omega)
  ·simp only [if_true, Bool.not_true, Bool.false_and]
   exact Ev.now _
theorem Spans_f (a b : List S41) (ha : a.length ≤ 1000) : Ev (fun k => rf_Spans.f k a b) (decide (toSt a = toSt b)) := by
 unfold rf_Spans.f
 by_cases h : a.length = b.length
 ·simp only [if_pos (show (a.length : Int) = (b.length : Int) by omega)]
  exact Spans_l0 a b ha h a.length 0 (by omega)
 ·simp only [if_neg (show ¬ (a.length : Int) = (b.length : Int) by omega)]
  rw [decide_eq_false (fun e => h (by have := congrArg List.length e; rwa [toSt_len, toSt_len] at this))]; exact Ev.now _
theorem Same_l0 (st : List S41) (wg : List S80) (hl : wg.length ≤ 1000) : ∀ (d i : Nat), i + d = wg.length → Ev (fun k => rf_Same.l0 k (i : Int) st wg st wg) true
 | 0, i, h => by
  refine Ev.up ?_; simp only [rf_Same.l0, if_neg (show ¬ (i : Int) < (wg.length : Int) by omega)]; exact Ev.now true
 | d + 1, i, h => by
  refine Ev.up ?_; simp only [rf_Same.l0, if_pos (show (i : Int) < (wg.length : Int) by omega), if_pos (show (0 : Int) ≤ (i : Int) by omega), wi i (by omega), beq_self_eq_true, Bool.not_true, Bool.or_self, Bool.false_eq_true, if_false]; exact Same_l0 st wg hl d (i + 1) (by omega)
theorem Same_f (st : List S41) (wg : List S80) (h0 : st.length ≤ 1000) (hl : wg.length ≤ 1000) : Ev (fun k => rf_Same.f k st wg st wg) true := by
 unfold rf_Same.f
 refine Ev.bind (Spans_f st st h0) ?_; simp only [decide_true, if_true, bne_self_eq_false]; refine Ev.up ?_; simp only [rf_Same.j0, Bool.false_eq_true, if_false]; exact Same_l0 st wg hl wg.length 0 (by omega)
theorem Least_f (s : Sp) (h : stB s) (w : Int) (hw : 0 ≤ w ∧ w ≤ 400) : rf_Least.f s.lo s.hi w = some (loS s w) := by
 obtain ⟨h0, h1, h2⟩ := h
 unfold rf_Least.f loS
 have e1 : 0 ≤ w * s.hi := Int.mul_nonneg hw.1 (by omega); have e2 : w * s.hi ≤ 400 * 300 := Int.mul_le_mul hw.2 h2 (by omega) (by omega)
 generalize w * s.hi = y at *
 rw [wr (x := y) (by omega), Int.tdiv_eq_ediv_of_nonneg (by omega), wr (x := y / 1000) (by omega), wr (x := y / 1000 * 1000) (by omega), wr (x := y / 1000 + 1) (by omega)]
 split
 ·rw [wr (by omega)]; congr 1; omega
 ·rw [wr (by omega)]; congr 1; omega
theorem Greatest_f (s : Sp) (h : stB s) (w : Int) (hw : 0 ≤ w ∧ w ≤ 400) : rf_Greatest.f s.lo s.hi w = some (hiS s w) := by
 obtain ⟨h0, h1, h2⟩ := h
 unfold rf_Greatest.f hiS
 have e1 : 0 ≤ w * s.lo := Int.mul_nonneg hw.1 (by omega); have e2 : w * s.lo ≤ 400 * 300 := Int.mul_le_mul hw.2 (by omega) (by omega) (by omega)
 generalize w * s.lo = y at *
 rw [wr (x := y) (by omega), Int.tdiv_eq_ediv_of_nonneg (by omega), wr (x := y / 1000) (by omega), wr (by omega)]
theorem Check_l1 (st : List S41) (wg : List S80) (hl : wg.length ≤ 1000) : ∀ (d i : Nat), i + d = wg.length → Ev (fun k => rf_Check.l1 k (i : Int) st wg) (if (toWg (wg.drop i)).any (wgBad st.length) then 2 else 0)
 | 0, i, h => by
  refine Ev.up ?_; simp only [rf_Check.l1, if_neg (show ¬ (i : Int) < (wg.length : Int) by omega)]; rw [List.drop_eq_nil_of_le (by omega)]; exact Ev.now _
 | d + 1, i, h => by
  refine Ev.up ?_
  have hi : i < wg.length := by omega
  simp only [rf_Check.l1, if_pos (show (i : Int) < (wg.length : Int) by omega), if_pos (show (0 : Int) ≤ (i : Int) by omega), wi i (by omega), rdW wg i hi, In_f, Option.bind_some]; have ih := Check_l1 st wg hl d (i + 1) (by omega); rw [List.drop_eq_getElem_cons hi]; have e : (toWg (wg[i] :: wg.drop (i + 1))).any (wgBad st.length) = (wgBad st.length ⟨wg[i].f0, wg[i].f1, wg[i].f2⟩ || (toWg (wg.drop (i + 1))).any (wgBad st.length)) := rfl; rw [e]
  unfold wgBad at ih ⊢
  cases h1 : inB 0 (st.length : Int) [wg[i].f0] <;> cases h2 : inB 0 400 [wg[i].f1] <;> cases h3 : inB 0 20 [wg[i].f2] <;> simp only [Bool.false_eq_true, if_false, if_true, Bool.not_true, Bool.not_false, Bool.or_true, Bool.true_or, Bool.or_false, Bool.false_or]
  all_goals first | exact Ev.now _ | exact ih
theorem Check_l0 (st : List S41) (wg : List S80) (hs : st.length ≤ 1000) (hl : wg.length ≤ 1000) : ∀ (d i : Nat), i + d = st.length → Ev (fun k => rf_Check.l0 k (i : Int) st wg) (if (toSt (st.drop i)).any stBad then 4 else if wg.length > 8 then 5 else if (toWg wg).any (wgBad st.length) then 2 else 0)
 | 0, i, h => by
  refine Ev.up ?_; simp only [rf_Check.l0, if_neg (show ¬ (i : Int) < (st.length : Int) by omega)]; rw [List.drop_eq_nil_of_le (by omega)]; have e : (toSt []).any stBad = false := rfl; rw [e]; simp only [Bool.false_eq_true, if_false]
  by_cases h8 : wg.length > 8
  ·simp only [if_pos h8, if_pos (show (wg.length : Int) > 8 by omega)]
   exact Ev.now _
  ·simp only [if_neg h8, if_neg (show ¬ (wg.length : Int) > 8 by omega)]
   have h9 := Check_l1 st wg hl wg.length 0 (by omega); rw [List.drop_zero] at h9; exact h9
 | d + 1, i, h => by
  refine Ev.up ?_
  have hi : i < st.length := by omega
  simp only [rf_Check.l0, if_pos (show (i : Int) < (st.length : Int) by omega), if_pos (show (0 : Int) ≤ (i : Int) by omega), wi i (by omega), rdA st i hi, In_f, Option.bind_some]; have ih := Check_l0 st wg hs hl d (i + 1) (by omega); rw [List.drop_eq_getElem_cons hi]; have e : (toSt (st[i] :: st.drop (i + 1))).any stBad = (stBad ⟨st[i].f0, st[i].f1⟩ || (toSt (st.drop (i + 1))).any stBad) := rfl; rw [e]
  have e2 : stBad ⟨st[i].f0, st[i].f1⟩ = !(inB 0 st[i].f1 [st[i].f0] && !decide (st[i].f1 > 300)) := by
   unfold stBad
   rw [Bool.eq_iff_iff]; simp only [Bool.or_eq_true, decide_eq_true_eq, Bool.not_eq_true', Bool.and_eq_false_iff, Bool.not_eq_false']
   have a1 : (inB 0 300 [st[i].f0, st[i].f1] = false) ↔ ¬ ((0 ≤ st[i].f0 ∧ st[i].f0 ≤ 300) ∧ (0 ≤ st[i].f1 ∧ st[i].f1 ≤ 300)) := by
    rw [← Bool.not_eq_true, inB_iff]
    simp
   have a2 : (inB 0 st[i].f1 [st[i].f0] = false) ↔ ¬ (0 ≤ st[i].f0 ∧ st[i].f0 ≤ st[i].f1) := by rw [← Bool.not_eq_true, inB_one]
   rw [a1, a2]; omega
  rw [e2]
  cases h1 : inB 0 st[i].f1 [st[i].f0]
  ·simp only [Bool.false_eq_true, if_false, Bool.false_and, Bool.not_false, Bool.true_or, if_true]
   exact Ev.now _
  ·by_cases h3 : st[i].f1 > 300
   ·simp only [h3, if_true, decide_true, Bool.not_true, Bool.and_false, Bool.not_false, Bool.true_or]
    exact Ev.now _
   ·simp only [h3, if_true, decide_false, Bool.not_false, Bool.and_true, Bool.not_true, Bool.false_or, if_false]
    exact ih
theorem Check_f (st : List S41) (wg : List S80) (hs : st.length ≤ 1000) (hl : wg.length ≤ 1000) : Ev (fun k => rf_Check.f k st wg) (roadE (toSt st) (toWg wg)) := by
 unfold rf_Check.f roadE
 simp only [In_f, Option.bind_some, toSt_len, toWg_len]
 cases h1 : inB 1 5 [(st.length : Int)]
 ·simp only [Bool.false_eq_true, if_false]
  exact Ev.now _
 ·simp only [if_true]
  have h9 := Check_l0 st wg hs hl st.length 0 (by omega); rw [List.drop_zero] at h9; exact h9
end Go.Proofs.YtemingmeidmjkaaDoor.Q
namespace Go.Proofs.YtemingmeidmjkaaDoor.Q
open Go.RowKit Go.Proofs.YtemingmeidmjkaaDoorW.PrintWords
set_option linter.unusedVariables false
set_option linter.unusedSimpArgs false
def T4 (g : Nat → Bool) : List Bool := (List.range 401).map g
theorem T4_len (g : Nat → Bool) : (T4 g).length = 401 := by simp [T4]
theorem T4_get (g : Nat → Bool) (i : Nat) (h : i ≤ 400) : rdOf false (T4 g) (i : Int) = g i := by
 unfold rdOf T4
 rw [Int.toNat_natCast, List.getD_eq_getElem?_getD, List.getElem?_map, List.getElem?_range (by omega)]; rfl
theorem T4_congr {g h : Nat → Bool} (e : ∀ j, j ≤ 400 → g j = h j) : T4 g = T4 h := List.map_congr_left fun j hj => e j (by have := List.mem_range.1 hj; omega)
theorem T4_set (g : Nat → Bool) (i : Nat) (b : Bool) : (T4 g).set i b = T4 (fun j => if j = i then b else g j) := by
 apply List.ext_getElem?
 intro j; rw [List.getElem?_set, T4_len]
 unfold T4
 rw [List.getElem?_map, List.getElem?_map]
 by_cases hj : j < 401
 ·rw [List.getElem?_range hj]
  by_cases e : i = j
  ·rw [if_pos e, if_pos (by omega)]
   simp [e]
  ·rw [if_neg e]
   simp [show ¬ j = i from fun e' => e e'.symm]
 ·rw [List.getElem?_eq_none (l := List.range 401) (by simpa using hj)]
  by_cases e : i = j
  ·rw [if_pos e, if_neg (by omega)]; rfl
  ·rw [if_neg e]; rfl
def rowsL (n : Nat) (R : Nat → Nat → Bool) : List (List Bool) := (List.range n).map fun p => T4 (R p)
theorem rowsL_len (n : Nat) (R : Nat → Nat → Bool) : (rowsL n R).length = n := by simp [rowsL]
theorem rowsL_get (n : Nat) (R : Nat → Nat → Bool) (p : Nat) (h : p < n) : rd_L9 (rowsL n R) (p : Int) = T4 (R p) := by
 unfold rd_L9 rowsL
 rw [Int.toNat_natCast, List.getD_eq_getElem?_getD, List.getElem?_map, List.getElem?_range h]; rfl
theorem rowsL_set (n : Nat) (R : Nat → Nat → Bool) (p : Nat) (g : Nat → Bool) (h : p < n) : (rowsL n R).set p (T4 g) = rowsL n (fun q => if q = p then g else R q) := by
 apply List.ext_getElem?
 intro j; rw [List.getElem?_set, rowsL_len]
 unfold rowsL
 rw [List.getElem?_map, List.getElem?_map]
 by_cases hj : j < n
 ·rw [List.getElem?_range hj]
  by_cases e : p = j
  ·rw [if_pos e, if_pos (by omega)]
   simp [e]
  ·rw [if_neg e]
   simp [show ¬ j = p from fun e' => e e'.symm]
 ·rw [List.getElem?_eq_none (l := List.range n) (by simpa using hj)]
  by_cases e : p = j
  ·omega
  ·rw [if_neg e]; rfl
theorem rowsL_succ (n : Nat) (R : Nat → Nat → Bool) : rowsL n R ++ [T4 (R n)] = rowsL (n + 1) R := by simp [rowsL, List.range_succ]
theorem rowsL_congr {n : Nat} {R S : Nat → Nat → Bool} (e : ∀ p, p < n → ∀ j, j ≤ 400 → R p j = S p j) : rowsL n R = rowsL n S := List.map_congr_left fun p hp => T4_congr (e p (List.mem_range.1 hp))
def fitB (wg : List Wg) (p w : Int) : Bool := wg.all fun x => !decide (x.p = p) || inB (x.r - x.o) (x.r + x.o) [w]
theorem fitB_iff (wg : List Wg) (p w : Int) : fitB wg p w = true ↔ ∀ x ∈ wg, x.p = p → x.r - x.o ≤ w ∧ w ≤ x.r + x.o := by
 unfold fitB
 simp only [List.all_eq_true, Bool.or_eq_true, Bool.not_eq_true', decide_eq_false_iff_not, inB_one]
 exact ⟨fun h x hx hp => (h x hx).resolve_left (fun hn => hn hp), fun h x hx => by
  by_cases e : x.p = p
  ·exact .inr (h x hx e)
  ·exact .inl e⟩
theorem seen_in (p w : Int) : ∀ (wg : List Wg) (s : Sp), inS (wg.foldl (seenStep p) s) w ↔ inS s w ∧ ∀ x ∈ wg, x.p = p → x.r - x.o ≤ w ∧ w ≤ x.r + x.o
 | [], s => by simp
 | x :: wg, s => by
  rw [List.foldl_cons, seen_in p w wg]
  unfold seenStep
  by_cases e : x.p = p
  ·rw [if_pos e, inS_and]
   simp only [List.mem_cons, forall_eq_or_imp, e, true_implies]
   unfold inS
   simp only
   constructor
   ·rintro ⟨⟨h1, h2⟩, h3⟩; exact ⟨h1, h2, h3⟩
   ·rintro ⟨h1, h2, h3⟩; exact ⟨⟨h1, h2⟩, h3⟩
  ·rw [if_neg e]
   simp only [List.mem_cons, forall_eq_or_imp, e, false_implies, true_and]
theorem fit_seen (wg : List Wg) (p w : Int) (h : 0 ≤ w ∧ w ≤ 400) : fitB wg p w = true ↔ inS (seenS wg p) w := by
 rw [fitB_iff, seenS, seen_in]; simp only [inS]; exact ⟨fun h1 => ⟨h, h1⟩, fun h1 => h1.2⟩
theorem Fits_l0 (st : List S41) (wg : List S80) (hw : wgOk (toWg wg)) (hl : wg.length ≤ 1000) (p w : Int) : ∀ (d i : Nat), i + d = wg.length → Ev (fun k => rf_Fits.l0 k p w (i : Int) st wg) (fitB (toWg (wg.drop i)) p w)
 | 0, i, h => by
  refine Ev.up ?_; simp only [rf_Fits.l0, if_neg (show ¬ (i : Int) < (wg.length : Int) by omega)]; rw [List.drop_eq_nil_of_le (by omega)]; exact Ev.now _
 | d + 1, i, h => by
  refine Ev.up ?_
  have hi : i < wg.length := by omega
  have hb := hw ⟨wg[i].f0, wg[i].f1, wg[i].f2⟩ (List.mem_map.2 ⟨wg[i], List.getElem_mem hi, rfl⟩); simp only at hb; simp only [rf_Fits.l0, if_pos (show (i : Int) < (wg.length : Int) by omega), if_pos (show (0 : Int) ≤ (i : Int) by omega), wi i (by omega), rdW wg i hi, In_f, Option.bind_some]; rw [wr (x := wg[i].f1 - wg[i].f2) (by omega), wr (x := wg[i].f1 + wg[i].f2) (by omega), List.drop_eq_getElem_cons hi]; have ih := Fits_l0 st wg hw hl p w d (i + 1) (by omega); have e : fitB (toWg (wg[i] :: wg.drop (i + 1))) p w = ((!decide (wg[i].f0 = p) || inB (wg[i].f1 - wg[i].f2) (wg[i].f1 + wg[i].f2) [w]) && fitB (toWg (wg.drop (i + 1))) p w) := rfl; rw [e]
  by_cases hp : wg[i].f0 = p
  ·simp only [hp, if_true, decide_true, Bool.not_true, Bool.false_or]
   cases inB (wg[i].f1 - wg[i].f2) (wg[i].f1 + wg[i].f2) [w]
   ·simp only [Bool.false_eq_true, if_false, Bool.false_and]; exact Ev.now _
   ·simp only [if_true, Bool.true_and]; exact ih
  ·simp only [hp, if_false, decide_false, Bool.not_false, Bool.true_or, Bool.true_and]
   exact ih
theorem Fits_f (st : List S41) (wg : List S80) (hw : wgOk (toWg wg)) (hl : wg.length ≤ 1000) (p w : Int) : Ev (fun k => rf_Fits.f k st wg p w) (fitB (toWg wg) p w) := by
 have h := Fits_l0 st wg hw hl p w wg.length 0 (by omega); rw [List.drop_zero] at h; exact h
def stpB (st : List Sp) (th : Int) (p w v : Nat) : Bool := if (p : Int) = th then decide ((v : Int) < hiS (rdS st p) w) else inB (loS (rdS st p) w) (hiS (rdS st p) w) [(v : Int)]
theorem Step_f (st : List S41) (wg : List S80) (hok : RdOk (toSt st) (toWg wg)) (th : Int) (p w v : Nat) (hp : p < st.length) (hw : w ≤ 400) : rf_Step.f st wg (p : Int) (w : Int) (v : Int) ((p : Int) == th) = some (stpB (toSt st) th p w v) := by
 have hv := hok.at (p : Int) (by omega) (by rw [toSt_len]; omega); have e1 := Least_f (rdS (toSt st) (p : Int)) hv (w : Int) (by omega); have e2 := Greatest_f (rdS (toSt st) (p : Int)) hv (w : Int) (by omega)
 have er : rdS (toSt st) (p : Int) = ⟨st[p].f0, st[p].f1⟩ := by rw [rdS_nat _ _ (by rw [toSt_len]; exact hp), toSt_get st p hp]
 unfold rf_Step.f stpB
 rw [er] at e1 e2 ⊢; simp only at e1 e2; simp only [if_pos (show (0 : Int) ≤ (p : Int) by omega), if_pos (show (p : Int) < (st.length : Int) by omega), rdA st p hp, e1, e2, In_f, Option.bind_some]
 by_cases h : (p : Int) = th
 ·simp [h]
 ·simp [h]
def fwB (st : List Sp) (wg : List Wg) (th : Int) : Nat → Nat → Bool
 | 0, w => fitB wg 0 w
 | p + 1, v => fitB wg ((p + 1 : Nat) : Int) v && (List.range 401).any fun w => decide (v ≤ w) && fwB st wg th p w && stpB st th p w v
def acB (st : List Sp) (wg : List Wg) (th : Int) (p w v : Nat) : Bool := (List.range w).any fun w' => decide (v ≤ w') && fwB st wg th p w' && stpB st th p w' v
theorem acB_succ (st : List Sp) (wg : List Wg) (th : Int) (p w v : Nat) : acB st wg th p (w + 1) v = (acB st wg th p w v || (decide (v ≤ w) && fwB st wg th p w && stpB st th p w v)) := by
 unfold acB
 rw [List.range_succ, List.any_append]
 simp
def fuB (st : List Sp) (wg : List Wg) (th : Int) : Nat → Nat → Nat → Bool
 | 0, p, w => fwB st wg th p w
 | d + 1, p, w => fwB st wg th p w && (List.range (w + 1)).any fun v => fuB st wg th d (p + 1) v && stpB st th p w v
section
variable (st : List S41) (wg : List S80) (hok : RdOk (toSt st) (toWg wg)) (hl : wg.length ≤ 1000) (th : Int) (r : List (List Bool))
theorem Sets_l1 (p : Nat) (x6 : List (List Bool)) (x5 : Int) (g : Nat → Bool)
  (h : Ev (fun k => rf_Sets.l2 k th x5 x6 (p : Int) (T4 fun w => if p = 0 then fitB (toWg wg) 0 w else false) 0 st wg) r) (hok : RdOk (toSt st) (toWg wg)) (hl : wg.length ≤ 1000) : ∀ (d i : Nat), i + d = 401 → Ev (fun k => rf_Sets.l1 k th x5 x6 (p : Int) (T4 fun w => if w < i then (if p = 0 then fitB (toWg wg) 0 w else false) else g w) (i : Int) st wg) r
 | 0, i, hd => by
  refine Ev.up ?_; simp only [rf_Sets.l1, if_neg (show ¬ (i : Int) ≤ 400 by omega)]; rw [T4_congr (h := fun w => if p = 0 then fitB (toWg wg) 0 w else false) (fun j hj => if_pos (show j < i by omega))]; exact h
 | d + 1, i, hd => by
  have ih := Sets_l1 p x6 x5 g h hok hl d (i + 1) (by omega); refine Ev.up ?_
  have e : ∀ b, b = (if p = 0 then fitB (toWg wg) 0 i else false) → (T4 fun w => if w < i then (if p = 0 then fitB (toWg wg) 0 w else false) else g w).set i b = T4 fun w => if w < i + 1 then (if p = 0 then fitB (toWg wg) 0 w else false) else g w := by
   intro b hb; rw [T4_set, hb]; refine T4_congr (fun j hj => ?_)
   by_cases e1 : j = i
   ·rw [if_pos e1, if_pos (show j < i + 1 by omega), e1]
   ·rw [if_neg e1]
    by_cases e2 : j < i
    ·rw [if_pos e2, if_pos (show j < i + 1 by omega)]
    ·rw [if_neg e2, if_neg (show ¬ j < i + 1 by omega)]
  simp only [rf_Sets.l1, if_pos (show (i : Int) ≤ 400 by omega), if_pos (show (0 : Int) ≤ (i : Int) by omega), T4_len, if_pos (show (i : Int) < ((401 : Nat) : Int) by omega), wi i (by omega), Int.toNat_natCast]
  by_cases hp : p = 0
  ·subst hp
   simp only [Int.natCast_zero, Int.ofNat_eq_natCast, if_true] at *; refine Ev.bind (Fits_f st wg hok.wgs hl 0 (i : Int)) ?_; rw [e _ rfl]; exact ih
  ·simp only [if_neg (show ¬ (p : Int) = 0 by omega)]
   rw [e false (by rw [if_neg hp])]; exact ih
theorem Sets_l3 (n p : Nat) (x5 : Int) (hp : p < st.length) (w : Nat) (hw : w ≤ 400) (hok : RdOk (toSt st) (toWg wg))
  (h : Ev (fun k => rf_Sets.l2 k th x5 (rowsL (p + 1) (fwB (toSt st) (toWg wg) th)) ((p + 1 : Nat) : Int) (T4 (acB (toSt st) (toWg wg) th p (w + 1))) ((w + 1 : Nat) : Int) st wg) r) (hf : fwB (toSt st) (toWg wg) th p w = true) :
  ∀ (d i : Nat), i + d = w + 1 → Ev (fun k => rf_Sets.l3 k th x5 (rowsL (p + 1) (fwB (toSt st) (toWg wg) th)) ((p + 1 : Nat) : Int) (T4 fun v => if v < i then acB (toSt st) (toWg wg) th p (w + 1) v else acB (toSt st) (toWg wg) th p w v) (w : Int) (i : Int) st wg) r
 | 0, i, hd => by
  refine Ev.up ?_; simp only [rf_Sets.l3, if_neg (show ¬ (i : Int) ≤ (w : Int) by omega), wi w (by omega)]
  rw [T4_congr (h := acB (toSt st) (toWg wg) th p (w + 1)) (fun j hj => by
   by_cases e1 : j < i
   ·rw [if_pos e1]
   ·rw [if_neg e1, acB_succ, decide_eq_false (show ¬ j ≤ w by omega)]; simp)]
  exact h
 | d + 1, i, hd => by
  have ih := Sets_l3 n p x5 hp w hw hok h hf d (i + 1) (by omega); refine Ev.up ?_
  have e1 : wrap64 (((p + 1 : Nat) : Int) - 1) = (p : Int) := by
   have := hok.len; rw [toSt_len] at this; rw [wr (by omega)]; omega
  have e : ∀ b, b = acB (toSt st) (toWg wg) th p (w + 1) i → (T4 fun v => if v < i then acB (toSt st) (toWg wg) th p (w + 1) v else acB (toSt st) (toWg wg) th p w v).set i b = T4 fun v => if v < i + 1 then acB (toSt st) (toWg wg) th p (w + 1) v else acB (toSt st) (toWg wg) th p w v := by
   intro b hb; rw [T4_set, hb]; refine T4_congr (fun j hj => ?_)
   by_cases e1 : j = i
   ·rw [if_pos e1, if_pos (show j < i + 1 by omega), e1]
   ·rw [if_neg e1]
    by_cases e2 : j < i
    ·rw [if_pos e2, if_pos (show j < i + 1 by omega)]
    ·rw [if_neg e2, if_neg (show ¬ j < i + 1 by omega)]
  have ea : acB (toSt st) (toWg wg) th p (w + 1) i = (acB (toSt st) (toWg wg) th p w i || stpB (toSt st) th p w i) := by
   rw [acB_succ, hf, decide_eq_true (show i ≤ w by omega)]; simp
  simp only [rf_Sets.l3, if_pos (show (i : Int) ≤ (w : Int) by omega), e1, if_pos (show (0 : Int) ≤ (p : Int) by omega), rowsL_len, if_pos (show (p : Int) < ((p + 1 : Nat) : Int) by omega), if_pos (show (0 : Int) ≤ (w : Int) by omega), rowsL_get (p + 1) _ p (by omega), T4_len, if_pos (show (w : Int) < ((401 : Nat) : Int) by omega), T4_get _ w hw, hf, if_true, if_pos (show (0 : Int) ≤ (i : Int) by omega), if_pos (show (i : Int) < ((401 : Nat) : Int) by omega), T4_get _ i (show i ≤ 400 by omega), if_neg (show ¬ i < i by omega), wi i (by omega), Int.toNat_natCast]
  cases ha : acB (toSt st) (toWg wg) th p w i
  ·simp only [Bool.false_eq_true, if_false]
   simp only [Step_f st wg hok th p w i hp hw, Option.bind_some]; rw [e _ (by rw [ea, ha, Bool.false_or])]; exact ih
  ·simp only [if_true]
   rw [e true (by rw [ea, ha, Bool.true_or])]; exact ih
theorem Sets_l2 (p : Nat) (x5 : Int) (hp : p < st.length) (hok : RdOk (toSt st) (toWg wg))
  (h : Ev (fun k => rf_Sets.l4 k th x5 (rowsL (p + 1) (fwB (toSt st) (toWg wg) th)) ((p + 1 : Nat) : Int) (T4 (acB (toSt st) (toWg wg) th p 401)) 0 st wg) r) :
  ∀ (d w : Nat), w + d = 401 → Ev (fun k => rf_Sets.l2 k th x5 (rowsL (p + 1) (fwB (toSt st) (toWg wg) th)) ((p + 1 : Nat) : Int) (T4 (acB (toSt st) (toWg wg) th p w)) (w : Int) st wg) r
 | 0, w, hd => by
  obtain rfl : w = 401 := by omega
  refine Ev.up ?_; simp only [rf_Sets.l2, if_neg (show ¬ (((401 : Nat)) : Int) ≤ 400 by omega)]; refine Ev.up ?_; simp only [rf_Sets.j3, Bool.false_eq_true, if_false]; exact h
 | d + 1, w, hd => by
  have ih := Sets_l2 p x5 hp hok h d (w + 1) (by omega); refine Ev.up ?_; simp only [rf_Sets.l2, if_pos (show (w : Int) ≤ 400 by omega)]; refine Ev.up ?_; simp only [rf_Sets.j3, decide_eq_true (show ((p + 1 : Nat) : Int) > 0 by omega), if_true]
  cases hf : fwB (toSt st) (toWg wg) th p w
  ·refine Ev.up ?_
   have e1 : wrap64 (((p + 1 : Nat) : Int) - 1) = (p : Int) := by
    have := hok.len; rw [toSt_len] at this; rw [wr (by omega)]; omega
   simp only [rf_Sets.l3, if_pos (show (0 : Int) ≤ (w : Int) by omega), e1, if_pos (show (0 : Int) ≤ (p : Int) by omega), rowsL_len, if_pos (show (p : Int) < ((p + 1 : Nat) : Int) by omega), rowsL_get (p + 1) _ p (by omega), T4_len, if_pos (show (w : Int) < ((401 : Nat) : Int) by omega), T4_get _ w (show w ≤ 400 by omega), hf, Bool.false_eq_true, if_false, wi w (by omega)]; rw [T4_congr (g := acB (toSt st) (toWg wg) th p w) (h := acB (toSt st) (toWg wg) th p (w + 1)) (fun j hj => by rw [acB_succ, hf]; simp)]; exact ih
  ·have h3 := Sets_l3 st wg th r 0 p x5 hp w (by omega) hok ih hf (w + 1) 0 (by omega)
   simp only [show ∀ v, ¬ (v < 0) from fun v => by omega, if_false] at h3; exact h3
theorem Sets_l4 (p : Nat) (x5 : Int) (x6 : List (List Bool)) (hx : x6.length ≤ 1000) (hok : RdOk (toSt st) (toWg wg)) (hl : wg.length ≤ 1000) (g : Nat → Bool) (hp : p ≤ 1000)
  (h : Ev (fun k => rf_Sets.l0 k th x5 (x6 ++ [T4 fun v => g v && fitB (toWg wg) (p : Int) v]) ((p + 1 : Nat) : Int) st wg) r) :
  ∀ (d i : Nat), i + d = 401 → Ev (fun k => rf_Sets.l4 k th x5 x6 (p : Int) (T4 fun v => if v < i then (g v && fitB (toWg wg) (p : Int) v) else g v) (i : Int) st wg) r
 | 0, i, hd => by
  refine Ev.up ?_; simp only [rf_Sets.l4, if_neg (show ¬ (i : Int) ≤ 400 by omega), if_pos (show x6.length < 5864062014805 by omega), wi p (by omega)]; rw [T4_congr (h := fun v => g v && fitB (toWg wg) (p : Int) v) (fun j hj => if_pos (show j < i by omega))]; exact h
 | d + 1, i, hd => by
  have ih := Sets_l4 p x5 x6 hx hok hl g hp h d (i + 1) (by omega); refine Ev.up ?_
  have e : ∀ b, b = (g i && fitB (toWg wg) (p : Int) i) → (T4 fun v => if v < i then (g v && fitB (toWg wg) (p : Int) v) else g v).set i b = T4 fun v => if v < i + 1 then (g v && fitB (toWg wg) (p : Int) v) else g v := by
   intro b hb; rw [T4_set, hb]; refine T4_congr (fun j hj => ?_)
   by_cases e1 : j = i
   ·rw [if_pos e1, if_pos (show j < i + 1 by omega), e1]
   ·rw [if_neg e1]
    by_cases e2 : j < i
    ·rw [if_pos e2, if_pos (show j < i + 1 by omega)]
    ·rw [if_neg e2, if_neg (show ¬ j < i + 1 by omega)]
  simp only [rf_Sets.l4, if_pos (show (i : Int) ≤ 400 by omega), if_pos (show (0 : Int) ≤ (i : Int) by omega), T4_len, if_pos (show (i : Int) < ((401 : Nat) : Int) by omega), T4_get _ i (show i ≤ 400 by omega), if_neg (show ¬ i < i by omega), wi i (by omega), Int.toNat_natCast]
  cases hg : g i
  ·simp only [Bool.false_eq_true, if_false]
   rw [e false (by rw [hg]; rfl)]; exact ih
  ·simp only [if_true]
   refine Ev.bind (Fits_f st wg hok.wgs hl (p : Int) (i : Int)) ?_; rw [e _ (by rw [hg, Bool.true_and])]; exact ih
theorem Sets_l0 (hok : RdOk (toSt st) (toWg wg)) (hl : wg.length ≤ 1000) (hs : st.length ≤ 500)
  (h : Ev (fun k => rf_Sets.l5 k th (rowsL (st.length + 1) (fwB (toSt st) (toWg wg) th)) ((st.length : Int) - 1) st wg) r) :
  ∀ (d p : Nat), p + d = st.length + 1 → Ev (fun k => rf_Sets.l0 k th ((st.length : Int) + 1) (rowsL p (fwB (toSt st) (toWg wg) th)) (p : Int) st wg) r
 | 0, p, hd => by
  obtain rfl : p = st.length + 1 := by omega
  refine Ev.up ?_; simp only [rf_Sets.l0, if_neg (show ¬ ((st.length + 1 : Nat) : Int) < (st.length : Int) + 1 by omega)]; rw [wr (by omega), show (st.length : Int) + 1 - 2 = (st.length : Int) - 1 by omega]; exact h
 | d + 1, p, hd => by
  have ih := Sets_l0 hok hl hs h d (p + 1) (by omega); refine Ev.up ?_; simp only [rf_Sets.l0, if_pos (show (p : Int) < (st.length : Int) + 1 by omega), if_pos (show 401 ≤ 281474976710656 by omega)]
  have e0 : List.replicate 401 false = T4 fun w => if w < 0 then (if p = 0 then fitB (toWg wg) 0 w else false) else false := by
   unfold T4
   rw [List.map_congr_left (g := fun _ => false) (fun j _ => if_neg (show ¬ j < 0 by omega)), List.map_const', List.length_range]
  rw [e0]; refine Sets_l1 st wg th r p (rowsL p (fwB (toSt st) (toWg wg) th)) ((st.length : Int) + 1) (fun _ => false) ?_ hok hl 401 0 (by omega); rw [← rowsL_succ] at ih
  match p, hd, ih with
  | 0, hd, ih =>
   refine Ev.up ?_; simp only [rf_Sets.l2, if_pos (show (0 : Int) ≤ 400 by omega), Int.natCast_zero, Int.ofNat_eq_natCast]; refine Ev.up ?_; simp only [rf_Sets.j3, decide_eq_false (show ¬ ((0 : Int) > 0) by omega), Bool.false_eq_true, if_false, if_true]
   have h4 := Sets_l4 st wg th r 0 ((st.length : Int) + 1) (rowsL 0 (fwB (toSt st) (toWg wg) th)) (by simp [rowsL]) hok hl (fun w => fitB (toWg wg) 0 w) (by omega) (by
    rw [T4_congr (h := fwB (toSt st) (toWg wg) th 0) (fun j hj => by
     show (fitB (toWg wg) 0 j && fitB (toWg wg) ((0 : Nat) : Int) j) = fitB (toWg wg) 0 j
     simp)]
    exact ih) 401 0 (by omega)
   simp only [show ∀ v, ¬ (v < 0) from fun v => by omega, if_false] at h4; exact h4
  | p + 1, hd, ih =>
   have e1 : (T4 fun w => if p + 1 = 0 then fitB (toWg wg) 0 w else false) = T4 (acB (toSt st) (toWg wg) th p 0) := T4_congr (fun j hj => by rw [if_neg (by omega)]; rfl); rw [e1]; refine Sets_l2 st wg th r p ((st.length : Int) + 1) (by omega) hok ?_ 401 0 (by omega)
   have h4 := Sets_l4 st wg th r (p + 1) ((st.length : Int) + 1) (rowsL (p + 1) (fwB (toSt st) (toWg wg) th)) (by rw [rowsL_len]; omega) hok hl (acB (toSt st) (toWg wg) th p 401) (by omega) (by
    rw [T4_congr (h := fwB (toSt st) (toWg wg) th (p + 1)) (fun j hj => by
     rw [Bool.and_comm]
     rfl)]
    exact ih) 401 0 (by omega)
   simp only [show ∀ v, ¬ (v < 0) from fun v => by omega, if_false] at h4; exact h4
end
end Go.Proofs.YtemingmeidmjkaaDoor.Q
namespace Go.Proofs.YtemingmeidmjkaaDoor.Q
open Go.RowKit Go.Proofs.YtemingmeidmjkaaDoorW.PrintWords
set_option linter.unusedVariables false
set_option linter.unusedSimpArgs false
def anF (f : Nat → Bool) : Nat → Nat → Bool
 | 0, _ => false
 | d + 1, i => f i || anF f d (i + 1)
theorem anF_eq (f : Nat → Bool) : ∀ (d i : Nat), anF f d i = (List.range d).any fun t => f (i + t)
 | 0, i => rfl
 | d + 1, i => by
  rw [anF, anF_eq f d (i + 1), List.range_succ_eq_map, List.any_cons, List.any_map]
  congr 1
  congr 1
  funext t
  simp only [Function.comp]; rw [show i + 1 + t = i + (t + 1) by omega]
theorem anF_zero (f : Nat → Bool) (d : Nat) : anF f d 0 = (List.range d).any f := by
 rw [anF_eq]
 congr 1
 funext t
 rw [Nat.zero_add]
def upR (R : Nat → Nat → Bool) (p w : Nat) (b : Bool) : Nat → Nat → Bool := fun q => if q = p then (fun j => if j = w then b else R p j) else R q
section
variable (st : List S41) (wg : List S80) (th : Int) (r : List (List Bool))
theorem Sets_l7 (n p w : Nat) (hn : n = st.length + 1) (hp : p < st.length) (hw : w ≤ 400) (hok : RdOk (toSt st) (toWg wg)) (R : Nat → Nat → Bool) : ∀ (d i : Nat) (c : Bool), i + d = w + 1 → (c = true → R p w = true) →
  Ev (fun k => rf_Sets.l6 k th (rowsL n (upR R p w (R p w && (c || anF (fun v => R (p + 1) v && stpB (toSt st) th p w v) d i)))) (p : Int) ((w + 1 : Nat) : Int) st wg) r →
  Ev (fun k => rf_Sets.l7 k th (rowsL n R) (p : Int) (w : Int) c (i : Int) st wg) r
 | 0, i, c, hd, hc, h => by
  refine Ev.up ?_
  have e : (R p w && (c || anF (fun v => R (p + 1) v && stpB (toSt st) th p w v) 0 i)) = c := by
   cases c
   ·simp [anF]
   ·rw [hc rfl]; rfl
  rw [e] at h; simp only [rf_Sets.l7, if_neg (show ¬ (i : Int) ≤ (w : Int) by omega), if_pos (show (0 : Int) ≤ (p : Int) by omega), rowsL_len, if_pos (show (p : Int) < (n : Int) by omega), if_pos (show (0 : Int) ≤ (w : Int) by omega), rowsL_get n R p (by omega), T4_len, if_pos (show (w : Int) < ((401 : Nat) : Int) by omega), Int.toNat_natCast, T4_set, wi w (by omega)]; rw [rowsL_set n R p _ (by omega)]; exact h
 | d + 1, i, c, hd, hc, h => by
  have hset : ∀ b, (rowsL n R).set p ((T4 (R p)).set w b) = rowsL n (upR R p w b) := by
   intro b; rw [T4_set, rowsL_set n R p _ (by omega)]; rfl
  have hlen := hok.len; rw [toSt_len] at hlen; refine Ev.up ?_; simp only [rf_Sets.l7, if_pos (show (i : Int) ≤ (w : Int) by omega), if_pos (show (0 : Int) ≤ (p : Int) by omega), rowsL_len, if_pos (show (p : Int) < (n : Int) by omega), if_pos (show (0 : Int) ≤ (w : Int) by omega), rowsL_get n R p (by omega), T4_len, if_pos (show (w : Int) < ((401 : Nat) : Int) by omega), Int.toNat_natCast, T4_get _ w hw, wi w (by omega), hset]
  cases hr : R p w
  ·have hcf : c = false := by
    cases c
    ·rfl
    ·rw [hc rfl] at hr; cases hr
   subst hcf; rw [hr] at h; simp only [Bool.false_and] at h; simp only [Bool.false_eq_true, if_false]; exact h
  ·simp only [if_true]
   cases c
   ·simp only [Bool.false_eq_true, if_false, wi p (by omega), if_pos (show (0 : Int) ≤ ((p + 1 : Nat) : Int) by omega), if_pos (show ((p + 1 : Nat) : Int) < (n : Int) by omega), if_pos (show (0 : Int) ≤ (i : Int) by omega), rowsL_get n R (p + 1) (by omega), T4_len, if_pos (show (i : Int) < ((401 : Nat) : Int) by omega), T4_get _ i (show i ≤ 400 by omega), wi i (by omega)]
    rw [hr] at h; simp only [anF, Bool.true_and, Bool.false_or] at h
    cases h2 : R (p + 1) i
    ·simp only [Bool.false_eq_true, if_false]
     refine Sets_l7 n p w hn hp hw hok R d (i + 1) false (by omega) (fun e => by cases e) ?_; rw [hr]; rw [h2] at h
     simpa using h
    ·simp only [if_true, Step_f st wg hok th p w i hp hw, Option.bind_some]
     refine Sets_l7 n p w hn hp hw hok R d (i + 1) _ (by omega) (fun _ => hr) ?_; rw [hr]; rw [h2] at h
     simpa using h
   ·simp only [if_true]
    rw [hr] at h; simp only [Bool.true_or, Bool.and_self] at h; exact h
def bkR (R : Nat → Nat → Bool) (th : Int) (sts : List Sp) (p : Nat) : Nat → Bool := fun w => R p w && (List.range (w + 1)).any fun v => R (p + 1) v && stpB sts th p w v
def atR (R : Nat → Nat → Bool) (th : Int) (sts : List Sp) (p i : Nat) : Nat → Nat → Bool := fun q => if q = p then (fun w => if w < i then bkR R th sts p w else R p w) else R q
theorem Sets_l6 (n p : Nat) (hn : n = st.length + 1) (hp : p < st.length) (hok : RdOk (toSt st) (toWg wg)) (R : Nat → Nat → Bool)
  (h : Ev (fun k => rf_Sets.l5 k th (rowsL n (atR R th (toSt st) p 401)) ((p : Int) - 1) st wg) r) : ∀ (d i : Nat), i + d = 401 → Ev (fun k => rf_Sets.l6 k th (rowsL n (atR R th (toSt st) p i)) (p : Int) (i : Int) st wg) r
 | 0, i, hd => by
  obtain rfl : i = 401 := by omega
  refine Ev.up ?_; have hlen := hok.len; rw [toSt_len] at hlen; simp only [rf_Sets.l6, if_neg (show ¬ ((401 : Nat) : Int) ≤ 400 by omega)]; rw [wr (by omega)]; exact h
 | d + 1, i, hd => by
  have ih := Sets_l6 n p hn hp hok R h d (i + 1) (by omega); refine Ev.up ?_; simp only [rf_Sets.l6, if_pos (show (i : Int) ≤ 400 by omega)]; refine Sets_l7 st wg th r n p i hn hp (by omega) hok (atR R th (toSt st) p i) (i + 1) 0 false (by omega) (fun e => by cases e) ?_
  have e : rowsL n (upR (atR R th (toSt st) p i) p i (atR R th (toSt st) p i p i && (false || anF (fun v => atR R th (toSt st) p i (p + 1) v && stpB (toSt st) th p i v) (i + 1) 0))) = rowsL n (atR R th (toSt st) p (i + 1)) := by
   refine rowsL_congr (fun q hq j hj => ?_)
   have a1 : atR R th (toSt st) p i p i = R p i := by simp [atR]
   have a2 : ∀ v, atR R th (toSt st) p i (p + 1) v = R (p + 1) v := fun v => by simp [atR]
   have a3 : (atR R th (toSt st) p i p i && (false || anF (fun v => atR R th (toSt st) p i (p + 1) v && stpB (toSt st) th p i v) (i + 1) 0)) = bkR R th (toSt st) p i := by
    rw [a1, Bool.false_or, anF_zero]; simp only [a2]; rfl
   rw [a3]
   by_cases e1 : q = p
   ·subst e1
    simp only [upR, if_true, atR]
    by_cases e2 : j = i
    ·subst e2
     simp
    ·rw [if_neg e2]
     by_cases e3 : j < i
     ·rw [if_pos e3, if_pos (show j < i + 1 by omega)]
     ·rw [if_neg e3, if_neg (show ¬ j < i + 1 by omega)]
   ·simp only [upR, if_neg e1, atR]
  rw [e]; exact ih
def gR (sts : List Sp) (wgs : List Wg) (th : Int) (p : Nat) : Nat → Nat → Bool := fun q => if q < p then fwB sts wgs th q else fuB sts wgs th (sts.length - q) q
theorem Sets_l5 (hok : RdOk (toSt st) (toWg wg)) : ∀ (p : Nat), p ≤ st.length → Ev (fun k => rf_Sets.l5 k th (rowsL (st.length + 1) (gR (toSt st) (toWg wg) th p)) ((p : Int) - 1) st wg) (rowsL (st.length + 1) fun q => fuB (toSt st) (toWg wg) th (st.length - q) q)
 | 0, _ => by
  refine Ev.up ?_; simp only [rf_Sets.l5, if_neg (show ¬ (((0 : Nat) : Int) - 1 ≥ 0) by omega)]; rw [rowsL_congr (S := fun q => fuB (toSt st) (toWg wg) th (st.length - q) q) (fun q _ j _ => by simp [gR, toSt_len])]; exact Ev.now _
 | p + 1, hp => by
  have ih := Sets_l5 hok p (by omega); refine Ev.up ?_; rw [show ((p + 1 : Nat) : Int) - 1 = (p : Int) by omega]; simp only [rf_Sets.l5, if_pos (show (p : Int) ≥ 0 by omega)]
  have e : rowsL (st.length + 1) (gR (toSt st) (toWg wg) th (p + 1)) = rowsL (st.length + 1) (atR (gR (toSt st) (toWg wg) th (p + 1)) th (toSt st) p 0) := by
   refine rowsL_congr (fun q _ j _ => ?_)
   unfold atR
   by_cases e1 : q = p
   ·rw [if_pos e1, e1]; simp
   ·rw [if_neg e1]
  rw [e]; refine Sets_l6 st wg th _ (st.length + 1) p rfl (by omega) hok (gR (toSt st) (toWg wg) th (p + 1)) ?_ 401 0 (by omega)
  have e2 : rowsL (st.length + 1) (atR (gR (toSt st) (toWg wg) th (p + 1)) th (toSt st) p 401) = rowsL (st.length + 1) (gR (toSt st) (toWg wg) th p) := by
   refine rowsL_congr (fun q _ j hj => ?_)
   unfold atR
   by_cases e1 : q = p
   ·subst e1
    rw [if_pos rfl]; simp only [if_pos (show j < 401 by omega)]
    unfold bkR gR
    simp only [if_pos (show q < q + 1 by omega), if_neg (show ¬ q + 1 < q + 1 by omega), if_neg (show ¬ q < q by omega), toSt_len]; rw [show st.length - q = (st.length - (q + 1)) + 1 by omega]; rfl
   ·rw [if_neg e1]
    unfold gR
    by_cases e3 : q < p
    ·rw [if_pos e3, if_pos (show q < p + 1 by omega)]
    ·rw [if_neg e3, if_neg (show ¬ q < p + 1 by omega)]
  rw [e2]; exact ih
theorem Sets_f (hok : RdOk (toSt st) (toWg wg)) (hl : wg.length ≤ 1000) (hs : st.length ≤ 500) : Ev (fun k => rf_Sets.f k st wg th) (rowsL (st.length + 1) fun q => fuB (toSt st) (toWg wg) th (st.length - q) q) := by
 unfold rf_Sets.f
 rw [wr (by omega)]; have h5 := Sets_l5 st wg th hok st.length (Nat.le_refl _)
 have e : rowsL (st.length + 1) (gR (toSt st) (toWg wg) th st.length) = rowsL (st.length + 1) (fwB (toSt st) (toWg wg) th) := by
  refine rowsL_congr (fun q hq j _ => ?_)
  unfold gR
  by_cases e1 : q < st.length
  ·rw [if_pos e1]
  ·rw [if_neg e1, toSt_len, show st.length - q = 0 by omega]
   rfl
 rw [e] at h5; exact Sets_l0 st wg th _ hok hl hs h5 (st.length + 1) 0 (by omega)
end
end Go.Proofs.YtemingmeidmjkaaDoor.Q
namespace Go.Proofs.YtemingmeidmjkaaDoor.Q
open Go.RowKit Go.Proofs.YtemingmeidmjkaaDoorW.PrintWords
set_option linter.unusedVariables false
set_option linter.unusedSimpArgs false
theorem trimLo_in {st after : Sp} (h : stB st) (w : Int) : ∀ (n : Nat) (s : Sp), s.hi - s.lo + 1 ≤ n → (inS (trimLo st after n s) w ↔ inS s w ∧ after.lo ≤ hiS st w)
 | 0, s, hn => by
  unfold trimLo inS
  omega
 | n + 1, s, hn => by
  unfold trimLo
  by_cases h1 : s.lo > s.hi
  ·rw [if_pos h1]
   unfold inS
   omega
  ·rw [if_neg h1]
   by_cases h2 : hiS st s.lo < after.lo
   ·rw [if_pos h2, trimLo_in h w n _ (by simp only; omega)]
    unfold inS
    simp only
    constructor
    ·rintro ⟨h3, h4⟩; exact ⟨by omega, h4⟩
    ·rintro ⟨h3, h4⟩
     refine ⟨⟨?_, h3.2⟩, h4⟩
     by_cases e : w = s.lo
     ·rw [e] at h4; omega
     ·omega
   ·rw [if_neg h2]
    constructor
    ·intro h3
     have := hiS_mono h (w := s.lo) (w' := w) h3.1; exact ⟨h3, by omega⟩
    ·exact fun h3 => h3.1
theorem trimHi_in {st after : Sp} (h : stB st) (w : Int) : ∀ (n : Nat) (s : Sp), s.hi - s.lo + 1 ≤ n → (inS (trimHi st after n s) w ↔ inS s w ∧ loS st w ≤ after.hi)
 | 0, s, hn => by
  unfold trimHi inS
  omega
 | n + 1, s, hn => by
  unfold trimHi
  by_cases h1 : s.lo > s.hi
  ·rw [if_pos h1]
   unfold inS
   omega
  ·rw [if_neg h1]
   by_cases h2 : loS st s.hi > after.hi
   ·rw [if_pos h2, trimHi_in h w n _ (by simp only; omega)]
    unfold inS
    simp only
    constructor
    ·rintro ⟨h3, h4⟩; exact ⟨by omega, h4⟩
    ·rintro ⟨h3, h4⟩
     refine ⟨⟨h3.1, ?_⟩, h4⟩
     by_cases e : w = s.hi
     ·rw [e] at h4; omega
     ·omega
   ·rw [if_neg h2]
    constructor
    ·intro h3
     have := loS_mono h (w := w) (w' := s.hi) h3.2; exact ⟨h3, by omega⟩
    ·exact fun h3 => h3.1
theorem ok_len {s : Sp} (h : okS s) : s.hi - s.lo + 1 ≤ ((402 : Nat) : Int) := by
 unfold okS at h
 omega
theorem back_in {st s after : Sp} (h : stB st) (hs : okS s) (w : Int) : inS (backS st s after) w ↔ inS s w ∧ ∃ v, inS after v ∧ loS st w ≤ v ∧ v ≤ hiS st w := by
 unfold backS
 by_cases ha : after.lo > after.hi
 ·rw [if_pos ha]
  constructor
  ·intro h1; unfold inS at h1; omega
  ·rintro ⟨_, v, h1, _⟩; unfold inS at h1; omega
 ·rw [if_neg ha, trimHi_in h w 402 _ (ok_len (trimLo_ok _ _ _ _ hs)), trimLo_in h w 402 _ (ok_len hs)]
  constructor
  ·rintro ⟨⟨h1, h2⟩, h3⟩
   have h0 : 0 ≤ w := by unfold okS inS at *; omega
   exact ⟨h1, (meets st after w h h0).2 ⟨by omega, h2, h3⟩⟩
  ·rintro ⟨h1, h2⟩
   have h0 : 0 ≤ w := by unfold okS inS at *; omega
   obtain ⟨_, h3, h4⟩ := (meets st after w h h0).1 h2; exact ⟨⟨h1, h3⟩, h4⟩
theorem on_in {st s : Sp} (h : stB st) (hs : okS s) (v : Int) : inS (onS st s) v ↔ ∃ w, inS s w ∧ loS st w ≤ v ∧ v ≤ hiS st w := by
 by_cases hn : s.lo > s.hi
 ·constructor
  ·intro h1
   unfold onS at h1
   rw [if_pos hn] at h1
   unfold inS at h1
   omega
  ·rintro ⟨w, h1, _⟩
   unfold inS at h1
   omega
 ·exact onS_mem h s (by unfold okS at hs; omega) v
theorem goL_rd : ∀ (ts l : List Sp), l.length = ts.length + 1 → (∀ i : Nat, i < ts.length → rdS (goL ts l) (i : Int) = backS (rdS ts (i : Int)) (rdS l (i : Int)) (rdS (goL ts l) ((i + 1 : Nat) : Int))) ∧ rdS (goL ts l) (ts.length : Int) = rdS l (ts.length : Int)
 | [], l, h => ⟨fun i hi => by simp at hi, by cases l <;> rfl⟩
 | t :: ts, [], h => by simp at h
 | t :: ts, s :: l, h => by
  have hl : l.length = ts.length + 1 := by simpa using h
  obtain ⟨h1, h2⟩ := goL_rd ts l hl
  have sh : ∀ (x : Sp) (m : List Sp) (j : Nat), rdS (x :: m) ((j + 1 : Nat) : Int) = rdS m (j : Int) := fun x m j => by
   unfold rdS
   rw [Int.toNat_natCast, Int.toNat_natCast, List.getD_cons_succ]
  refine ⟨fun i hi => ?_, ?_⟩
  ·match i with
   | 0 =>
    rw [goL, sh]
    have e : (goL ts l).headD z_Sp = rdS (goL ts l) ((0 : Nat) : Int) := by
     cases goL ts l <;> rfl
    rw [e]; rfl
   | i + 1 =>
    rw [goL, sh, sh, sh, sh]; exact h1 i (by simpa using hi)
  ·rw [goL, List.length_cons, sh, sh]
   exact h2
section
variable {st : List Sp} {wg : List Wg}
theorem stp_hon {p w v : Nat} : stpB st (-1) p w v = true ↔ loS (rdS st p) w ≤ v ∧ (v : Int) ≤ hiS (rdS st p) w := by
 unfold stpB
 rw [if_neg (by omega), inB_one]
theorem fw_come (hok : RdOk st wg) : ∀ (p : Nat), p ≤ st.length → ∀ w : Nat, w ≤ 400 → (fwB st wg (-1) p w = true ↔ inS (comeAt st wg p) (w : Int))
 | 0, _, w, hw => fit_seen wg 0 (w : Int) (by omega)
 | p + 1, hp, v, hv => by
  have ih := fw_come hok p (by omega); have ho := comeAt_ok hok p (by omega); have hst := hok.at (p : Int) (by omega) (by omega); rw [comeAt, inS_and, on_in hst ho, fwB, Bool.and_eq_true, fit_seen wg _ (v : Int) (by omega), List.any_eq_true]
  constructor
  ·rintro ⟨h1, w, hw, h2⟩
   have hw4 := List.mem_range.1 hw; simp only [Bool.and_eq_true, decide_eq_true_eq] at h2; exact ⟨⟨(w : Int), (ih w (by omega)).1 h2.1.2, stp_hon.1 h2.2⟩, h1⟩
  ·rintro ⟨⟨w, h1, h2, h3⟩, h4⟩
   have hb : 0 ≤ w ∧ w ≤ 400 := by unfold okS inS at *; omega
   have h5 := hiS_le hst (w := w) hb.1; obtain ⟨m, rfl⟩ : ∃ m : Nat, w = (m : Int) := ⟨w.toNat, by omega⟩; refine ⟨h4, m, List.mem_range.2 (by omega), ?_⟩; simp only [Bool.and_eq_true, decide_eq_true_eq]; exact ⟨⟨by omega, (ih m (by omega)).2 h1⟩, stp_hon.2 ⟨h2, h3⟩⟩
theorem comeL_rd' (st : List Sp) (wg : List Wg) (j : Nat) (h : j ≤ st.length) : rdS (comeL st wg) (j : Int) = comeAt st wg j := by
 rw [rdS_nat _ _ (by rw [comeL_len]; omega)]
 simp [comeL]
theorem honL_okS (hok : RdOk st wg) (p : Nat) (hp : p ≤ st.length) : okS (rdS (honL st wg) (p : Int)) := by
 rw [rdS_nat _ _ (by rw [honL_len]; omega)]; exact goL_ok st (comeL st wg) (comeL_ok hok) _ (List.getElem_mem _)
theorem fu_hon (hok : RdOk st wg) : ∀ (d p : Nat), p + d = st.length → ∀ w : Nat, w ≤ 400 → (fuB st wg (-1) d p w = true ↔ inS (rdS (honL st wg) (p : Int)) (w : Int))
 | 0, p, hp, w, hw => by
  obtain rfl : p = st.length := by omega
  have h := (goL_rd st (comeL st wg) (comeL_len st wg)).2; rw [honL, h, comeL_rd' st wg _ (Nat.le_refl _)]; exact fw_come hok _ (Nat.le_refl _) w hw
 | d + 1, p, hp, w, hw => by
  have ih := fu_hon hok d (p + 1) (by omega); have h := (goL_rd st (comeL st wg) (comeL_len st wg)).1 p (by omega); have hst := hok.at (p : Int) (by omega) (by omega); have ho := comeAt_ok hok p (by omega); have ho2 := honL_okS hok (p + 1) (by omega); rw [honL, h, comeL_rd' st wg p (by omega), back_in hst ho, fuB, Bool.and_eq_true, fw_come hok p (by omega) w hw, List.any_eq_true]
  constructor
  ·rintro ⟨h1, v, hv, h2⟩
   have hv4 := List.mem_range.1 hv; simp only [Bool.and_eq_true] at h2; exact ⟨h1, (v : Int), (ih v (by omega)).1 h2.1, stp_hon.1 h2.2⟩
  ·rintro ⟨h1, v, h2, h3, h4⟩
   have h5 := hiS_le hst (w := (w : Int)) (by omega)
   have hv0 : 0 ≤ v := by
    have : inS (rdS (honL st wg) ((p + 1 : Nat) : Int)) v := h2
    unfold okS inS at *
    omega
   obtain ⟨m, rfl⟩ : ∃ m : Nat, v = (m : Int) := ⟨v.toNat, by omega⟩; refine ⟨h1, m, List.mem_range.2 (by omega), ?_⟩; rw [Bool.and_eq_true]; exact ⟨(ih m (by omega)).2 h2, stp_hon.2 ⟨h3, h4⟩⟩
theorem hon_is (hok : RdOk st wg) : honB st wg = true ↔ ∃ w : Nat, w ≤ 400 ∧ fuB st wg (-1) st.length 0 w = true := by
 have hn : honB st wg = true ↔ ∀ p : Nat, p ≤ st.length → ¬ (rdS (honL st wg) (p : Int)).lo > (rdS (honL st wg) (p : Int)).hi := by
  unfold honB
  rw [Bool.not_eq_true', List.any_eq_false]
  constructor
  ·intro h p hp
   have h1 := h (rdS (honL st wg) (p : Int)) (by rw [rdS_nat _ _ (by rw [honL_len]; omega)]; exact List.getElem_mem _)
   simpa [noneB] using h1
  ·intro h s hs
   obtain ⟨i, hi, rfl⟩ := List.getElem_of_mem hs; have h1 := h i (by rw [honL_len] at hi; omega); rw [rdS_nat _ _ hi] at h1
   simpa [noneB] using h1
 rw [hn]
 constructor
 ·intro h
  have h0 := h 0 (by omega); have ho := honL_okS hok 0 (by omega)
  generalize hs : rdS (honL st wg) ((0 : Nat) : Int) = s at *
  have hb : 0 ≤ s.lo ∧ s.lo ≤ s.hi ∧ s.hi ≤ 400 := by unfold okS at ho; omega
  refine ⟨s.lo.toNat, by omega, (fu_hon hok st.length 0 (by omega) _ (by omega)).2 ?_⟩; rw [hs]
  unfold inS
  omega
 ·rintro ⟨w, hw, h⟩
  have key : ∀ (d p : Nat), p + d = st.length → (∃ w : Nat, w ≤ 400 ∧ fuB st wg (-1) d p w = true) → ∀ q : Nat, p ≤ q → q ≤ st.length → ¬ (rdS (honL st wg) (q : Int)).lo > (rdS (honL st wg) (q : Int)).hi := by
   intro d
   induction d with
   | zero =>
    rintro p hp ⟨w, hw, h⟩ q h1 h2
    obtain rfl : q = p := by omega
    have := (fu_hon hok 0 q (by omega) w hw).1 h
    unfold inS at this
    omega
   | succ d ih =>
    rintro p hp ⟨w, hw, h⟩ q h1 h2
    by_cases e : q = p
    ·subst e
     have := (fu_hon hok (d + 1) q (by omega) w hw).1 h
     unfold inS at this
     omega
    ·rw [fuB, Bool.and_eq_true, List.any_eq_true] at h
     obtain ⟨_, v, hv, h3⟩ := h; have hv4 := List.mem_range.1 hv; rw [Bool.and_eq_true] at h3; exact ih (p + 1) (by omega) ⟨v, by omega, h3.1⟩ q (by omega) h2
  exact fun p hp => key st.length 0 (by omega) ⟨w, hw, h⟩ p (by omega) hp
end
end Go.Proofs.YtemingmeidmjkaaDoor.Q
namespace Go.Proofs.YtemingmeidmjkaaDoor.Q
open Go.RowKit Go.Proofs.YtemingmeidmjkaaDoorW.PrintWords
set_option linter.unusedVariables false
set_option linter.unusedSimpArgs false
def enF (g : Nat → Bool) : Nat → Nat → Int × Int → Int × Int
 | 0, _, x => x
 | d + 1, i, x => enF g d (i + 1) (if g i then (if x.1 < 0 then ((i : Int), (i : Int)) else (x.1, (i : Int))) else x)
theorem enF_none (g : Nat → Bool) : ∀ (d i : Nat) (x : Int × Int), (∀ j, i ≤ j → j < i + d → g j = false) → enF g d i x = x
 | 0, _, _, _ => rfl
 | d + 1, i, x, h => by
  rw [enF, h i (by omega) (by omega)]; simp only [Bool.false_eq_true, if_false]; exact enF_none g d (i + 1) x (fun j h1 h2 => h j (by omega) (by omega))
theorem enF_add (g : Nat → Bool) : ∀ (a b i : Nat) (x : Int × Int), enF g (a + b) i x = enF g b (i + a) (enF g a i x)
 | 0, b, i, x => by rw [Nat.zero_add]; rfl
 | a + 1, b, i, x => by
  rw [show a + 1 + b = (a + b) + 1 by omega, enF, enF_add g a b (i + 1), enF, show i + 1 + a = i + (a + 1) by omega]
theorem enF_all (g : Nat → Bool) (lo : Nat) : ∀ (d i : Nat), lo < i → (∀ j, i ≤ j → j < i + d → g j = true) → enF g d i ((lo : Int), (i : Int) - 1) = ((lo : Int), ((i + d : Nat) : Int) - 1)
 | 0, i, _, _ => rfl
 | d + 1, i, hl, h => by
  rw [enF, h i (by omega) (by omega)]; simp only [if_true, if_neg (show ¬ (lo : Int) < 0 by omega)]; have ih := enF_all g lo d (i + 1) (by omega) (fun j h1 h2 => h j (by omega) (by omega)); rw [show (((i + 1 : Nat)) : Int) - 1 = (i : Int) by omega] at ih; rw [ih, show i + 1 + d = i + (d + 1) by omega]
theorem enF_int (g : Nat → Bool) (s : Sp) (hs : fullS s) (hg : ∀ w : Nat, w ≤ 400 → (g w = true ↔ inS s (w : Int))) : enF g 401 0 (-1, -1) = (s.lo, s.hi) := by
 unfold fullS at hs
 obtain ⟨lo, hlo⟩ : ∃ n : Nat, s.lo = (n : Int) := ⟨s.lo.toNat, by omega⟩; obtain ⟨hi, hhi⟩ : ∃ n : Nat, s.hi = (n : Int) := ⟨s.hi.toNat, by omega⟩
 have hf : ∀ w : Nat, w ≤ 400 → (w < lo ∨ hi < w) → g w = false := fun w hw h => by
  rw [← Bool.not_eq_true, hg w hw]
  unfold inS
  omega
 have ht : ∀ w : Nat, lo ≤ w → w ≤ hi → g w = true := fun w h1 h2 => (hg w (by omega)).2 (by unfold inS; omega)
 rw [show (401 : Nat) = lo + (1 + ((hi - lo) + (400 - hi))) by omega, enF_add, enF_none g lo 0 _ (fun j h1 h2 => hf j (by omega) (.inl (by omega))), enF_add, enF_add]
 have e1 : enF g 1 (0 + lo) (-1, -1) = ((lo : Int), ((lo + 1 : Nat) : Int) - 1) := by
  rw [Nat.zero_add, enF, ht lo (by omega) (by omega)]; simp only [if_true, if_pos (show (-1 : Int) < 0 by omega), enF]; rw [show ((lo + 1 : Nat) : Int) - 1 = (lo : Int) by omega]
 rw [e1, Nat.zero_add, enF_all g lo (hi - lo) (lo + 1) (by omega) (fun j h1 h2 => ht j (by omega) (by omega)), enF_none g _ _ _ (fun j h1 h2 => hf j (by omega) (.inr (by omega)))]; rw [hlo, hhi, show ((lo + 1 + (hi - lo) : Nat) : Int) - 1 = (hi : Int) by omega]
theorem enF_fst (g : Nat → Bool) : ∀ (d i : Nat) (x : Int × Int), ((enF g d i x).1 ≥ 0 ↔ x.1 ≥ 0 ∨ ∃ j, i ≤ j ∧ j < i + d ∧ g j = true)
 | 0, i, x => by
  unfold enF
  exact ⟨fun h => .inl h, fun h => h.elim id (fun ⟨j, h1, h2, _⟩ => by omega)⟩
 | d + 1, i, x => by
  rw [enF, enF_fst g d (i + 1)]
  cases hg : g i
  ·simp only [Bool.false_eq_true, if_false]
   constructor
   ·rintro (h | ⟨j, h1, h2, h3⟩)
    ·exact .inl h
    ·exact .inr ⟨j, by omega, by omega, h3⟩
   ·rintro (h | ⟨j, h1, h2, h3⟩)
    ·exact .inl h
    ·refine .inr ⟨j, ?_, by omega, h3⟩
     by_cases e : j = i
     ·rw [e, hg] at h3; cases h3
     ·omega
  ·simp only [if_true]
   constructor
   ·intro _
    exact .inr ⟨i, by omega, by omega, hg⟩
   ·intro _
    left
    by_cases hx : x.1 < 0
    ·rw [if_pos hx]; simp only; omega
    ·rw [if_neg hx]; simp only; omega
theorem Ends_l0 (g : Nat → Bool) : ∀ (d i : Nat) (a b : Int), i + d = 401 → Ev (fun k => rf_Ends.l0 k (T4 g) (i : Int) a b) (enF g d i (a, b))
 | 0, i, a, b, hd => by
  refine Ev.up ?_; simp only [rf_Ends.l0, T4_len, if_neg (show ¬ (i : Int) < ((401 : Nat) : Int) by omega)]; exact Ev.now _
 | d + 1, i, a, b, hd => by
  refine Ev.up ?_; simp only [rf_Ends.l0, T4_len, if_pos (show (i : Int) < ((401 : Nat) : Int) by omega), if_pos (show (0 : Int) ≤ (i : Int) by omega), T4_get g i (by omega)]; rw [enF]
  cases hg : g i
  ·simp only [Bool.false_eq_true, if_false]
   refine Ev.up ?_; simp only [rf_Ends.j1, Bool.false_eq_true, if_false, T4_len, if_pos (show (i : Int) < ((401 : Nat) : Int) by omega), if_pos (show (0 : Int) ≤ (i : Int) by omega), T4_get g i (show i ≤ 400 by omega), hg, wi i (by omega)]; exact Ends_l0 g d (i + 1) a b (by omega)
  ·simp only [if_true]
   refine Ev.up ?_
   by_cases ha : a < 0
   ·simp only [rf_Ends.j1, decide_eq_true ha, if_true, T4_len, if_pos (show (i : Int) < ((401 : Nat) : Int) by omega), if_pos (show (0 : Int) ≤ (i : Int) by omega), T4_get g i (show i ≤ 400 by omega), hg, wi i (by omega), if_pos ha]
    exact Ends_l0 g d (i + 1) _ _ (by omega)
   ·simp only [rf_Ends.j1, decide_eq_false ha, Bool.false_eq_true, if_false, if_true, T4_len, if_pos (show (i : Int) < ((401 : Nat) : Int) by omega), if_pos (show (0 : Int) ≤ (i : Int) by omega), T4_get g i (show i ≤ 400 by omega), hg, wi i (by omega), if_neg ha]
    exact Ends_l0 g d (i + 1) _ _ (by omega)
theorem Ends_f (g : Nat → Bool) : Ev (fun k => rf_Ends.f k (T4 g)) (enF g 401 0 (-1, -1)) := Ends_l0 g 401 0 (-1) (-1) (by omega)
theorem Is_f (n : Nat) (R : Nat → Nat → Bool) (hn : 0 < n) : Ev (fun k => rf_Is.f k (rowsL n R)) (decide (∃ w : Nat, w ≤ 400 ∧ R 0 w = true)) := by
 unfold rf_Is.f
 simp only [rowsL_len, if_pos (show (0 : Int) < (n : Int) by omega)]; have h0 := rowsL_get n R 0 hn; rw [show ((0 : Nat) : Int) = 0 from rfl] at h0; rw [h0]; refine Ev.bind (Ends_f (R 0)) ?_
 have e : decide ((enF (R 0) 401 0 (-1, -1)).1 ≥ 0) = decide (∃ w : Nat, w ≤ 400 ∧ R 0 w = true) := by
  rw [decide_eq_decide, enF_fst]
  constructor
  ·rintro (h | ⟨j, h1, h2, h3⟩)
   ·simp at h
   ·exact ⟨j, by omega, h3⟩
  ·rintro ⟨j, h1, h2⟩
   exact .inr ⟨j, by omega, by omega, h2⟩
 rw [← e]; exact Ev.now _
def spE (x : Int × Int) : Sp := ⟨x.1, x.2⟩
theorem ofSp_snoc (l : List Sp) (s : Sp) : ofSp (l ++ [s]) = ofSp l ++ [⟨s.lo, s.hi⟩] := by simp [ofSp]
theorem Weights_l0 (n : Nat) (hn : n ≤ 1000) (R : Nat → Nat → Bool) : ∀ (d p : Nat), p + d = n → Ev (fun k => rf_Weights.l0 k (rowsL n R) (ofSp ((List.range p).map fun q => spE (enF (R q) 401 0 (-1, -1)))) (p : Int)) (ofSp ((List.range n).map fun q => spE (enF (R q) 401 0 (-1, -1))))
 | 0, p, hd => by
  obtain rfl : p = n := by omega
  refine Ev.up ?_; simp only [rf_Weights.l0, rowsL_len, if_neg (show ¬ (p : Int) < (p : Int) by omega)]; exact Ev.now _
 | d + 1, p, hd => by
  have ih := Weights_l0 n hn R d (p + 1) (by omega); refine Ev.up ?_; simp only [rf_Weights.l0, rowsL_len, if_pos (show (p : Int) < (n : Int) by omega), if_pos (show (0 : Int) ≤ (p : Int) by omega), rowsL_get n R p (by omega), wi p (by omega)]; refine Ev.bind (Ends_f (R p)) ?_
  have hl : (ofSp ((List.range p).map fun q => spE (enF (R q) 401 0 (-1, -1)))).length = p := by simp [ofSp]
  simp only [hl, if_pos (show p < 8796093022208 by omega)]; rw [List.range_succ, List.map_append, List.map_cons, List.map_nil, ofSp_snoc] at ih; exact ih
theorem Weights_f (n : Nat) (hn : n ≤ 1000) (R : Nat → Nat → Bool) : Ev (fun k => rf_Weights.f k (rowsL n R)) (ofSp ((List.range n).map fun q => spE (enF (R q) 401 0 (-1, -1)))) := Weights_l0 n hn R n 0 (by omega)
def flV (f : Nat → Bool) (w : Nat) : Nat → Nat → Int × Int → Int × Int
 | 0, _, x => x
 | d + 1, i, x => flV f w d (i + 1) (if f i then (mn x.1 ((w : Int) - i), mx x.2 ((w : Int) - i)) else x)
def flW (g : Nat → Bool) (f : Nat → Nat → Bool) : Nat → Nat → Int × Int → Int × Int
 | 0, _, x => x
 | d + 1, w, x => flW g f d (w + 1) (if g w then flV (f w) w (w + 1) 0 x else x)
theorem flV_none (f : Nat → Bool) (w : Nat) : ∀ (d i : Nat) (x : Int × Int), (∀ j, i ≤ j → j < i + d → f j = false) → flV f w d i x = x
 | 0, _, _, _ => rfl
 | d + 1, i, x, h => by
  rw [flV, h i (by omega) (by omega)]; simp only [Bool.false_eq_true, if_false]; exact flV_none f w d (i + 1) x (fun j h1 h2 => h j (by omega) (by omega))
theorem flV_add (f : Nat → Bool) (w : Nat) : ∀ (a b i : Nat) (x : Int × Int), flV f w (a + b) i x = flV f w b (i + a) (flV f w a i x)
 | 0, b, i, x => by rw [Nat.zero_add]; rfl
 | a + 1, b, i, x => by
  rw [show a + 1 + b = (a + b) + 1 by omega, flV, flV_add f w a b (i + 1), flV, show i + 1 + a = i + (a + 1) by omega]
theorem mn_min (a b : Int) : mn a b = min a b := by unfold mn; omega
theorem mx_max (a b : Int) : mx a b = max a b := by unfold mx; omega
theorem flV_all (f : Nat → Bool) (w : Nat) : ∀ (d i : Nat) (x : Int × Int), (∀ j, i ≤ j → j < i + (d + 1) → f j = true) → flV f w (d + 1) i x = (min x.1 ((w : Int) - ((i + d : Nat) : Int)), max x.2 ((w : Int) - (i : Int)))
 | 0, i, x, h => by
  rw [flV, h i (by omega) (by omega)]; simp only [if_true, flV, mn_min, mx_max, Nat.add_zero]
 | d + 1, i, x, h => by
  rw [flV, h i (by omega) (by omega), flV_all f w d (i + 1) _ (fun j h1 h2 => h j (by omega) (by omega))]; simp only [if_true, mn_min, mx_max]; rw [Prod.mk.injEq]
  constructor <;> omega
theorem flV_int (f : Nat → Bool) (w a b : Nat) (hab : a ≤ b) (hbw : b ≤ w) (hf : ∀ v, v ≤ w → (f v = true ↔ a ≤ v ∧ v ≤ b)) (x : Int × Int) : flV f w (w + 1) 0 x = (min x.1 ((w : Int) - (b : Int)), max x.2 ((w : Int) - (a : Int))) := by
 have hF : ∀ v, v ≤ w → (v < a ∨ b < v) → f v = false := fun v hv h => by
  rw [← Bool.not_eq_true, hf v hv]; omega
 rw [show w + 1 = a + (((b - a) + 1) + (w - b)) by omega, flV_add, flV_none f w a 0 _ (fun j h1 h2 => hF j (by omega) (.inl (by omega))), flV_add, flV_all f w (b - a) (0 + a) _ (fun j h1 h2 => (hf j (by omega)).2 (by omega)), flV_none f w (w - b) _ _ (fun j h1 h2 => hF j (by omega) (.inr (by omega)))]; rw [Nat.zero_add, show a + (b - a) = b by omega]
theorem flW_none (g : Nat → Bool) (f : Nat → Nat → Bool) : ∀ (d i : Nat) (x : Int × Int), (∀ j, i ≤ j → j < i + d → g j = false) → flW g f d i x = x
 | 0, _, _, _ => rfl
 | d + 1, i, x, h => by
  rw [flW, h i (by omega) (by omega)]; simp only [Bool.false_eq_true, if_false]; exact flW_none g f d (i + 1) x (fun j h1 h2 => h j (by omega) (by omega))
theorem flW_add (g : Nat → Bool) (f : Nat → Nat → Bool) : ∀ (a b i : Nat) (x : Int × Int), flW g f (a + b) i x = flW g f b (i + a) (flW g f a i x)
 | 0, b, i, x => by rw [Nat.zero_add]; rfl
 | a + 1, b, i, x => by
  rw [show a + 1 + b = (a + b) + 1 by omega, flW, flW_add g f a b (i + 1), flW, show i + 1 + a = i + (a + 1) by omega]
section
variable (st : List S41) (wg : List S80)
theorem Flocks_l2 (n p w : Nat) (R : Nat → Nat → Bool) (hn : n = st.length + 1) (hp : p < st.length) (hw : w ≤ 400) (hok : RdOk (toSt st) (toWg wg)) (x5 r : List S41) (hr : R p w = true) : ∀ (d i : Nat) (a b : Int), i + d = w + 1 →
  Ev (fun k => rf_Flocks.l1 k (rowsL n R) x5 (p : Int) ((w + 1 : Nat) : Int) st wg (flV (fun v => R (p + 1) v && stpB (toSt st) (-1) p w v) w d i (a, b)).1 (flV (fun v => R (p + 1) v && stpB (toSt st) (-1) p w v) w d i (a, b)).2) r →
  Ev (fun k => rf_Flocks.l2 k (rowsL n R) x5 (p : Int) (w : Int) (i : Int) st wg a b) r
 | 0, i, a, b, hd, h => by
  refine Ev.up ?_; simp only [rf_Flocks.l2, if_neg (show ¬ (i : Int) ≤ (w : Int) by omega)]; refine Ev.up ?_; simp only [rf_Flocks.j3, Bool.false_eq_true, if_false, wi w (by omega)]; exact h
 | d + 1, i, a, b, hd, h => by
  have hlen := hok.len; rw [toSt_len] at hlen; refine Ev.up ?_; simp only [rf_Flocks.l2, if_pos (show (i : Int) ≤ (w : Int) by omega), if_pos (show (0 : Int) ≤ (p : Int) by omega), rowsL_len, if_pos (show (p : Int) < (n : Int) by omega), if_pos (show (0 : Int) ≤ (w : Int) by omega), rowsL_get n R p (by omega), T4_len, if_pos (show (w : Int) < ((401 : Nat) : Int) by omega), T4_get _ w hw, hr]; refine Ev.up ?_; simp only [rf_Flocks.j3, if_true, wi p (by omega), if_pos (show (0 : Int) ≤ ((p + 1 : Nat) : Int) by omega), rowsL_len, if_pos (show ((p + 1 : Nat) : Int) < (n : Int) by omega), if_pos (show (0 : Int) ≤ (i : Int) by omega), rowsL_get n R (p + 1) (by omega), T4_len, if_pos (show (i : Int) < ((401 : Nat) : Int) by omega), T4_get _ i (show i ≤ 400 by omega), wi i (by omega)]; rw [flV] at h
  have hst : rf_Step.f st wg (p : Int) (w : Int) (i : Int) false = some (stpB (toSt st) (-1) p w i) := by
   have h9 := Step_f st wg hok (-1) p w i hp hw
   rwa [show ((p : Int) == -1) = false from beq_eq_false_iff_ne.2 (by omega)] at h9
  cases h2 : R (p + 1) i
  ·simp only [Bool.false_eq_true, if_false]
   rw [h2] at h; simp only [Bool.false_and, Bool.false_eq_true, if_false] at h; exact Flocks_l2 n p w R hn hp hw hok x5 r hr d (i + 1) a b (by omega) h
  ·simp only [if_true, hst, Option.bind_some]
   rw [h2, Bool.true_and] at h
   cases h3 : stpB (toSt st) (-1) p w i
   ·simp only [Bool.false_eq_true, if_false]
    rw [h3] at h; simp only [Bool.false_eq_true, if_false] at h; exact Flocks_l2 n p w R hn hp hw hok x5 r hr d (i + 1) a b (by omega) h
   ·simp only [if_true]
    rw [h3] at h; simp only [if_true] at h; rw [wr (x := (w : Int) - (i : Int)) (by omega)]; exact Flocks_l2 n p w R hn hp hw hok x5 r hr d (i + 1) _ _ (by omega) h
theorem Flocks_l1 (n p : Nat) (R : Nat → Nat → Bool) (hn : n = st.length + 1) (hp : p < st.length) (hok : RdOk (toSt st) (toWg wg)) (x5 r : List S41) (hx : x5.length ≤ 1000) : ∀ (d w : Nat) (a b : Int), w + d = 401 →
  Ev (fun k => rf_Flocks.l0 k (rowsL n R) (x5 ++ [⟨(flW (R p) (fun w v => R (p + 1) v && stpB (toSt st) (-1) p w v) d w (a, b)).1, (flW (R p) (fun w v => R (p + 1) v && stpB (toSt st) (-1) p w v) d w (a, b)).2⟩]) ((p + 1 : Nat) : Int) st wg) r →
  Ev (fun k => rf_Flocks.l1 k (rowsL n R) x5 (p : Int) (w : Int) st wg a b) r
 | 0, w, a, b, hd, h => by
  have hlen := hok.len; rw [toSt_len] at hlen; refine Ev.up ?_; simp only [rf_Flocks.l1, if_neg (show ¬ (w : Int) ≤ 400 by omega), if_pos (show x5.length < 8796093022208 by omega), wi p (by omega)]; exact h
 | d + 1, w, a, b, hd, h => by
  refine Ev.up ?_; simp only [rf_Flocks.l1, if_pos (show (w : Int) ≤ 400 by omega)]; rw [flW] at h
  cases hr : R p w
  ·rw [hr] at h
   simp only [Bool.false_eq_true, if_false] at h; refine Ev.up ?_; simp only [rf_Flocks.l2, if_pos (show (0 : Int) ≤ (w : Int) by omega), if_pos (show (0 : Int) ≤ (p : Int) by omega), rowsL_len, if_pos (show (p : Int) < (n : Int) by omega), rowsL_get n R p (by omega), T4_len, if_pos (show (w : Int) < ((401 : Nat) : Int) by omega), T4_get _ w (show w ≤ 400 by omega), hr]; refine Ev.up ?_; simp only [rf_Flocks.j3, Bool.false_eq_true, if_false, wi w (by omega)]; exact Flocks_l1 n p R hn hp hok x5 r hx d (w + 1) a b (by omega) h
  ·rw [hr] at h
   simp only [if_true] at h; refine Flocks_l2 st wg n p w R hn hp (by omega) hok x5 r hr (w + 1) 0 a b (by omega) ?_; exact Flocks_l1 n p R hn hp hok x5 r hx d (w + 1) _ _ (by omega) h
theorem Flocks_l0 (R : Nat → Nat → Bool) (hok : RdOk (toSt st) (toWg wg)) : ∀ (d p : Nat), p + d = st.length →
  Ev (fun k => rf_Flocks.l0 k (rowsL (st.length + 1) R) (ofSp ((List.range p).map fun q => spE (flW (R q) (fun w v => R (q + 1) v && stpB (toSt st) (-1) q w v) 401 0 (401, -1)))) (p : Int) st wg) (ofSp ((List.range st.length).map fun q => spE (flW (R q) (fun w v => R (q + 1) v && stpB (toSt st) (-1) q w v) 401 0 (401, -1))))
 | 0, p, hd => by
  obtain rfl : p = st.length := by omega
  refine Ev.up ?_; simp only [rf_Flocks.l0, if_neg (show ¬ (st.length : Int) < (st.length : Int) by omega)]; exact Ev.now _
 | d + 1, p, hd => by
  have ih := Flocks_l0 R hok d (p + 1) (by omega); have hlen := hok.len; rw [toSt_len] at hlen; refine Ev.up ?_; simp only [rf_Flocks.l0, if_pos (show (p : Int) < (st.length : Int) by omega)]; refine Flocks_l1 st wg (st.length + 1) p R rfl (by omega) hok _ _ (by simp [ofSp]; omega) 401 0 401 (-1) (by omega) ?_; rw [List.range_succ, List.map_append, List.map_cons, List.map_nil, ofSp_snoc] at ih; exact ih
end
theorem flW_flk (t s s2 : Sp) (ht : stB t) (hs : fullS s) (hs2 : fullS s2) (g : Nat → Bool) (f : Nat → Nat → Bool) (hg : ∀ w : Nat, w ≤ 400 → (g w = true ↔ inS s (w : Int)))
  (hf : ∀ w v : Nat, w ≤ 400 → v ≤ w → (f w v = true ↔ inS s2 (v : Int) ∧ loS t w ≤ (v : Int) ∧ (v : Int) ≤ hiS t w)) (hne : ∀ w : Int, inS s w → ∃ v, inS s2 v ∧ loS t w ≤ v ∧ v ≤ hiS t w) :
  spE (flW g f 401 0 (401, -1)) = flk t s s2 := by
 unfold fullS at hs hs2
 obtain ⟨lo, hlo⟩ : ∃ n : Nat, s.lo = (n : Int) := ⟨s.lo.toNat, by omega⟩; obtain ⟨hi, hhi⟩ : ∃ n : Nat, s.hi = (n : Int) := ⟨s.hi.toNat, by omega⟩
 have hF : ∀ w : Nat, w ≤ 400 → (w < lo ∨ hi < w) → g w = false := fun w hw h => by
  rw [← Bool.not_eq_true, hg w hw]
  unfold inS
  omega
 have one : ∀ (w : Nat) (x : Int × Int), lo ≤ w → w ≤ hi → spE (if g w then flV (f w) w (w + 1) 0 x else x) = flkStep t s2 (spE x) (w : Int) := by
  intro w x h1 h2; rw [(hg w (by omega)).2 (by unfold inS; omega)]; simp only [if_true]
  have hw0 : (0 : Int) ≤ (w : Int) := by omega
  have g1 := loS_nn ht hw0; have g2 := hiS_le ht hw0; obtain ⟨v, hv1, hv2, hv3⟩ := hne (w : Int) (by unfold inS; omega); obtain ⟨a, ha⟩ : ∃ n : Nat, (andS ⟨loS t w, hiS t w⟩ s2).lo = (n : Int) := ⟨(andS ⟨loS t w, hiS t w⟩ s2).lo.toNat, by simp only [andS]; omega⟩; obtain ⟨b, hb⟩ : ∃ n : Nat, (andS ⟨loS t w, hiS t w⟩ s2).hi = (n : Int) := ⟨(andS ⟨loS t w, hiS t w⟩ s2).hi.toNat, by simp only [andS]; unfold inS at hv1; omega⟩; have ha' := ha; have hb' := hb; simp only [andS] at ha' hb'
  unfold inS at hv1
  rw [flV_int (f w) w a b (by omega) (by omega) (fun v hv => by rw [hf w v (by omega) hv]; unfold inS; omega) x]
  unfold flkStep
  rw [ha, hb]; rfl
 have run : ∀ (n : Nat) (x : Int × Int), lo + n ≤ hi + 1 → spE (flW g f n lo x) = (List.range n).foldl (fun y (j : Nat) => flkStep t s2 y (s.lo + (j : Int))) (spE x) := by
  intro n
  induction n with
  | zero => intro x _; rfl
  | succ n ih =>
   intro x h; rw [flW_add g f n 1 lo x, List.range_succ, List.foldl_append, List.foldl_cons, List.foldl_nil, ← ih x (by omega), hlo]; have := one (lo + n) (flW g f n lo x) (by omega) (by omega); rw [show (lo : Int) + (n : Int) = ((lo + n : Nat) : Int) by omega, ← this]; rfl
 rw [show (401 : Nat) = lo + ((hi - lo + 1) + (400 - hi)) by omega, flW_add, flW_none g f lo 0 _ (fun j h1 h2 => hF j (by omega) (.inl (by omega))), flW_add, Nat.zero_add, flW_none g f (400 - hi) _ _ (fun j h1 h2 => hF j (by omega) (.inr (by omega))), run _ _ (by omega)]
 unfold flk flkN
 rw [show (s.hi + 1 - s.lo).toNat = (hi - lo) + 1 by omega, List.range_succ_eq_map, List.foldl_cons, List.foldl_cons]
 congr 1
 have h0 := hne s.lo (by unfold inS; omega); obtain ⟨v, hv1, hv2, hv3⟩ := h0; have g1 := loS_nn ht (w := s.lo) (by omega); have g2 := hiS_le ht (w := s.lo) (by omega)
 unfold inS at hv1
 unfold flkStep spE
 simp only [Int.natCast_zero, Int.ofNat_eq_natCast, Int.add_zero, andS, Sp.mk.injEq]
 constructor <;> omega
theorem map_rd (l : List Sp) (n : Nat) (hl : l.length = n) : (List.range n).map (fun (p : Nat) => rdS l (p : Int)) = l := by
 subst hl
 apply List.ext_getElem?
 intro j; rw [List.getElem?_map]
 by_cases hj : j < l.length
 ·rw [List.getElem?_range hj, Option.map_some, rdS_nat l j hj, List.getElem?_eq_getElem hj]
 ·rw [List.getElem?_eq_none (l := List.range l.length) (by simpa using hj), List.getElem?_eq_none (by omega)]
  rfl
section
variable (st : List S41) (wg : List S80)
theorem WoolWeights_ev : Ev (fun k => lw_WoolWeights.f k st wg) true := by
 unfold lw_WoolWeights.f
 simp only [long_f, Option.bind_some]
 by_cases hlong : (st.length : Int) > 10 ∨ (wg.length : Int) > 12
 ·simp only [hlong, decide_true, if_true, known_f, Option.bind_some]
  exact Ev.now _
 ·simp only [hlong, decide_false, Bool.false_eq_true, if_false]
  simp only [Copy_f st wg (by omega) (by omega), Option.bind_some, wool_Check.f, wool_Weights.f, wool_Flocks.f]; refine Ev.bind (Check_f st wg (by omega) (by omega)) ?_; refine Ev.bind (Same_f st wg (by omega) (by omega)) ?_; simp only [if_true, bne_self_eq_false]; refine Ev.up ?_; simp only [lw_WoolWeights.j0, Bool.false_eq_true, if_false]
  by_cases he : roadE (toSt st) (toWg wg) = 0
  ·simp only [if_pos he]
   have hrk := road_ok he; have hok := hrk.1; have hs5 := hrk.2.2.1; rw [toSt_len] at hs5; refine Ev.bind (Sets_f st wg (-1) hok (by omega) (by omega)) ?_; refine Ev.bind (Is_f (st.length + 1) _ (by omega)) ?_; have his := hon_is hok; rw [toSt_len] at his; simp only [Nat.sub_zero]
   by_cases hh : honB (toSt st) (toWg wg) = true
   ·have e1 : ohE (toSt st) (toWg wg) = 0 := by simp [ohE, he, hh]
    simp only [decide_eq_true (his.1 hh), if_true]; refine Ev.up ?_
    have e2 : ohL (toSt st) (toWg wg) = honL (toSt st) (toWg wg) := by rw [ohL, if_pos e1]
    have hfull := honL_full e1; rw [toSt_len] at hfull
    have hset : ∀ q, q ≤ st.length → ∀ w : Nat, w ≤ 400 → (fuB (toSt st) (toWg wg) (-1) (st.length - q) q w = true ↔ inS (rdS (honL (toSt st) (toWg wg)) (q : Int)) (w : Int)) := fun q hq w hw => fu_hon hok (st.length - q) q (by rw [toSt_len]; omega) w hw
    have hW : (ofSp ((List.range (st.length + 1)).map fun q => spE (enF (fun w => fuB (toSt st) (toWg wg) (-1) (st.length - q) q w) 401 0 (-1, -1)))) = ofSp (honL (toSt st) (toWg wg)) := by
     rw [← map_rd (honL (toSt st) (toWg wg)) (st.length + 1) (by rw [honL_len, toSt_len])]
     congr 1
     refine List.map_congr_left (fun q hq => ?_); have hq' := List.mem_range.1 hq; rw [enF_int _ (rdS (honL (toSt st) (toWg wg)) (q : Int)) (hfull q (by omega)) (fun w hw => hset q (by omega) w hw)]; rfl
    have hF : (ofSp ((List.range st.length).map fun q => spE (flW (fun w => fuB (toSt st) (toWg wg) (-1) (st.length - q) q w) (fun w v => fuB (toSt st) (toWg wg) (-1) (st.length - (q + 1)) (q + 1) v && stpB (toSt st) (-1) q w v) 401 0 (401, -1)))) = ofSp (flocksL (toSt st) (toWg wg)) := by
     rw [flocksL, if_pos e1, toSt_len]
     congr 1
     refine List.map_congr_left (fun q hq => ?_); have hq' := List.mem_range.1 hq; have hst := hok.at (q : Int) (by omega) (by rw [toSt_len]; omega); refine flW_flk (rdS (toSt st) (q : Int)) _ _ hst (hfull q (by omega)) (hfull (q + 1) (by omega)) _ _ (hset q (by omega)) (fun w v hw hv => ?_) (fun w hw => ?_)
     ·rw [Bool.and_eq_true, hset (q + 1) (by omega) v (by omega), stp_hon]
     ·have h8 := (goL_rd (toSt st) (comeL (toSt st) (toWg wg)) (comeL_len _ _)).1 q (by rw [toSt_len]; omega)
      have h9 : inS (backS (rdS (toSt st) (q : Int)) (rdS (comeL (toSt st) (toWg wg)) (q : Int)) (rdS (honL (toSt st) (toWg wg)) ((q + 1 : Nat) : Int))) w := by
       refine h8 ▸ ?_; exact hw
      rw [comeL_rd' _ _ q (by rw [toSt_len]; omega), back_in hst (comeAt_ok hok q (by rw [toSt_len]; omega))] at h9; exact h9.2
    simp only [lw_WoolWeights.j1, he, e1, e2, if_true]; refine Ev.bind (Weights_f (st.length + 1) (by omega) _) ?_; rw [hW]; refine Ev.bind (Spans_f _ _ (by rw [ofSp_len, honL_len, toSt_len]; omega)) ?_; simp only [decide_true, if_true]; refine Ev.bind (Flocks_l0 st wg (fun q => fuB (toSt st) (toWg wg) (-1) (st.length - q) q) hok st.length 0 (by omega)) ?_; rw [hF]; refine Ev.bind (Spans_f _ _ (by rw [ofSp_len, flocksL, if_pos e1]; simp [toSt_len]; omega)) ?_; simp only [decide_true, if_true, known_f, Option.bind_some]; exact Ev.now _
   ·have hh2 : honB (toSt st) (toWg wg) = false := by simpa using hh
    have e1 : ohE (toSt st) (toWg wg) = 9 := by simp [ohE, he, hh2]
    have e2 : ohL (toSt st) (toWg wg) = [] := by rw [ohL, e1]; rfl
    have e3 : flocksL (toSt st) (toWg wg) = [] := by rw [flocksL, e1]; rfl
    simp only [decide_eq_false (fun h => hh (his.2 h)), Bool.false_eq_true, if_false]; refine Ev.up ?_; simp only [lw_WoolWeights.j1, e1, e2, e3, if_neg (show ¬ (9 : Int) = 0 by omega), if_true]
    have e4 : wrap64 (((ofSp []).length : Int) + ((ofSp []).length : Int)) = 0 := by simp [ofSp, wrap64]
    simp only [e4, if_true, known_f, Option.bind_some]; exact Ev.now _
  ·have e1 : ohE (toSt st) (toWg wg) = roadE (toSt st) (toWg wg) := by simp [ohE, he]
   have e2 : ohL (toSt st) (toWg wg) = [] := by rw [ohL, e1, if_neg he]
   have e3 : flocksL (toSt st) (toWg wg) = [] := by rw [flocksL, e1, if_neg he]
   simp only [if_neg he]; refine Ev.up ?_; simp only [lw_WoolWeights.j1, e1, e2, e3, if_neg he, if_true]
   have e4 : wrap64 (((ofSp []).length : Int) + ((ofSp []).length : Int)) = 0 := by simp [ofSp, wrap64]
   simp only [e4, if_true, known_f, Option.bind_some]; exact Ev.now _
end
theorem WoolWeights_pure (l0_0 : List (S41)) (l0_1 : List (S80)) (w0 : (∀ x_ ∈ l0_0, ((Lit.int .i64 x_.f0).wf = true) ∧ ((Lit.int .i64 x_.f1).wf = true)) ∧ (∀ x_ ∈ l0_1, ((Lit.int .i64 x_.f0).wf = true) ∧ (((Lit.int .i64 x_.f1).wf = true) ∧ ((Lit.int .i64 x_.f2).wf = true)))) : ∃ k, lw_WoolWeights.f k l0_0 l0_1 = some true := (WoolWeights_ev l0_0 l0_1).rounds
end Go.Proofs.YtemingmeidmjkaaDoor.Q
namespace Go.Proofs.YtemingmeidmjkaaDoor
open Go.RowKit Go.ChangeShapes Go.Shelf Go.Proofs.YtemingmeidmjkaaDoorW.PrintWords
set_option linter.unusedVariables false
set_option maxRecDepth 100000
theorem glNamed : Tryd.prog.globalNamed "walkmill/wool.all" = some 0 := by kernel_rfl
theorem glType : (Tryd.prog.globals[0]?).map (·.type) = some 100 := by kernel_rfl
theorem cells3 : Tryd.prog.cellsOf 3 = 1 := by kernel_rfl
theorem cellsSome : Tryd.prog.cellsOf 100 = 2 := by kernel_rfl
theorem gl_of_laid {W : World} (h : laidMetH Tryd.prog [("walkmill/wool.all", Rows.laid_walkmill_wool_all)] W) : GL W := by
 have h' : laidMet Tryd.prog [("walkmill/wool.all", Rows.laid_walkmill_wool_all)] W := h; clear h; have h := h'; obtain ⟨ps, ⟨g, t, cs, fuel, p, q, e1, e2, e3, e4, _, _⟩, _⟩ := h; obtain rfl := Option.some.inj (glNamed.symm.trans e1); obtain rfl := Option.some.inj (glType.symm.trans e2); obtain ⟨xs, n, _, hx, hl, hlen, hf⟩ := DataW.trod_struct Tryd.underlying100 e4
 have hcell := fun i => World.var?_cell glNamed e3 i
 have hl2 : cs.toList.length = 2 := by rw [hl]; exact cellsSome
 match xs, hlen with
 | [y0, y1], _ =>
  have f0 := hf 0 _ rfl; have f1 := hf 1 _ rfl; simp only [List.getElem?_cons_zero, List.getElem?_cons_succ] at f0 f1; obtain ⟨a, ha, rfl, _⟩ := DataW.trod_int Tryd.underlying3 f0; obtain ⟨b, hb, rfl, _⟩ := DataW.trod_int Tryd.underlying3 f1; simp only [List.map_cons, List.map_nil, Rows.laid_walkmill_wool_all, Prod.mk.injEq, DataW.agg.injEq, List.cons.injEq, DataW.lit.injEq, Lit.int.injEq, true_and, and_true] at hx; obtain ⟨⟨rfl, rfl⟩, _⟩ := hx
  have hcs : cs = #[.int .i64 0, .int .i64 400] := by
   apply Array.toList_inj.1
   match hc : cs.toList, hl2 with
   | [u, v], _ =>
    rw [hc] at ha hb
    simp [cells3] at ha hb
    rw [ha, hb]
  refine ⟨rfl, by decide, fun _ => ⟨_, rfl, fun j x hj => ?_⟩⟩
  match j, hj with
  | 0, hj =>
   simp only [List.getElem?_cons_zero, Option.some.injEq] at hj; subst hj; refine ⟨[.int .i64 0, .int .i64 400], rfl, kSp_mk _ ⟨0, 400⟩, fun i u hi => ?_⟩; have h9 := hcell i; rw [hcs] at h9; rw [add_plain]; simp only [Nat.zero_mul, Nat.zero_add] at *; rw [h9]
   simpa using hi
def lay0 (w : World) : World := { w with heap := w.heap.modify 0 fun o => match o with
  | .cells _ t frozen => .cells #[.int .i64 0, .int .i64 400] t frozen
  | o => o }
theorem lay0_met (os : Os) (args : Array Value) : laidMetH Tryd.prog [("walkmill/wool.all", Rows.laid_walkmill_wool_all)] ((lay0 (World.holding Tryd.prog os ⟨#[], #[], []⟩)).forCall (fun _ _ => 0) ⟨#[], args, []⟩).memory := by
 show laidMet Tryd.prog [("walkmill/wool.all", Rows.laid_walkmill_wool_all)] _
 exact laidMet_of_run' 8 sqF sqF
end Go.Proofs.YtemingmeidmjkaaDoor
