/- Functions printed by the kit's printer over these walks, and the plain law. No condition. -/
import Derived.Test.YtemingmeidmjkaaDoorV0
import Derived.Test.YtemingmeidmjkaaDoorGWoolWheres0
import Derived.Test.YtemingmeidmjkaaDoorV2
import Derived.Test.YtemingmeidmjkaaDoorV3
import Derived.WalkKit
import Derived.ProofKit
import Derived.OpenShut
import Derived.ShutString
import Derived.ChangeOld
import Derived.Below
import Derived.SizedLaws
import Derived.ChangeArms
import Derived.WideShapes
import Derived.Carry
import Derived.Test.YtemingmeidmjkaaDoorV1
set_option linter.unusedVariables false
set_option linter.unusedSimpArgs false
namespace Go.Proofs.YtemingmeidmjkaaDoor.Q
open Go.RowKit Go.Proofs.YtemingmeidmjkaaDoorW.PrintWords Go.Proofs.YtemingmeidmjkaaDoorW.PrintLast Go.Proofs.YtemingmeidmjkaaDoorW.PrintMore
attribute [local go_sem] max2_int min2_int max_two min_two max_three min_three max_four min_four   -- for this text's walks alone
set_option linter.unusedVariables false
set_option linter.unusedSimpArgs false
def rf_Is.f (k : Nat) (l0 : List (List Bool)) : Option (Bool) := if 0 < (l0.length : Int) then ((rf_Ends.f k (rd_L9 l0 0)).bind fun bt246 => (some (decide (bt246.1 ≥ 0)))) else (none)
set_option maxHeartbeats 8000000 in
set_option maxRecDepth 100000 in
theorem rf_Is.calls (k : Nat) (A0 : Option Addr) (c0 : Nat) (l0 : List (List Bool)) (r : Bool) (w : World) (hr0 : Kd.C (Kd.slice 4 Kd.bool) w A0 l0.length l0) (hc0 : l0.length ≤ c0) (h : rf_Is.f k l0 = some r) :
  Calls Tryd.prog 25 #[.slice A0 l0.length c0] w fun e w' => e = .returned (.bool r) ∧ Below w.heap.size w w' := by
 have HR0 := Aside0.mk hr0; have HC0 := Aside0.mk hc0
 have hfd0_ : ∀ (w_ : World) (a0_ a1_ : Int), (Instr.field 41 (.agg #[.int .i64 a0_, .int .i64 a1_]) 0).run Tryd.prog w_ = .ok (.int .i64 a0_) w_ := by intros; kernel_rfl
 have hfd1_ : ∀ (w_ : World) (a0_ a1_ : Int), (Instr.field 41 (.agg #[.int .i64 a0_, .int .i64 a1_]) 1).run Tryd.prog w_ = .ok (.int .i64 a1_) w_ := by intros; kernel_rfl
 clear hr0 hc0; have HB := Aside0.mk (Below.refl w.heap.size w); have H : (if 0 < (l0.length : Int) then ((rf_Ends.f k (rd_L9 l0 0)).bind fun bt246 => (some (decide (bt246.1 ≥ 0)))) else (none)) = some r := h; clear h
 by_cases c2 : 0 < (l0.length : Int)
 ·rw [if_pos c2] at H
  have c2b0 : decide (0 < (l0.length : Int)) = true := decide_eq_true c2; have c2b1 : decide (0 < l0.length) = true := decide_eq_true (by omega); clear c2; obtain ⟨⟨t246, t247⟩, A30, H⟩ := Option.bind_eq_some_iff.mp H; replace H : (some (decide (t246 ≥ 0))) = some r := H; have A3 := Aside0.mk A30; clear A30; obtain rfl := Option.some.inj H; have p245 : 0 ≤ (0 : Int) := (by omega); have q245 : 0 < (l0.length : Int) := sqD; obtain ⟨ad245, A245_0, c245_0, e245, hx245_0, hl245_0, hi245_0⟩ := at_L9 HR0.out 0 p245 q245
  cases e245
  have qi245 : (0 < l0.length) = True := eq_true (by omega)
  (try rw [show ((0 : Int)).toNat = 0 from rfl] at hx245_0)
  (try rw [Addr.add_zero'] at hx245_0)
  have HR245_0 := Aside0.mk hi245_0; have HC245_0 := Aside0.mk hl245_0; clear hi245_0 hl245_0; replace p245 := eq_true p245; replace q245 := eq_true q245
  go_enter Tryd.func25, Tryd.ntmps25
  go_wp2_with (first | ((with_reducible refine gate_callee (f := 66) rfl ?_); refine goesL_ (some 6) rfl rfl Tryd.func66 sqF rfl #[.slice A245_0 (rd_L9 l0 0).length c245_0] rfl sqM ?_; (with_reducible refine (rf_Ends.calls k _ _ (rd_L9 l0 0) t246 t247 _ ?side1 ?side2 A3.out).mono ?_); (case side1 => repeat (first | exact HR245_0.out | (with_reducible refine Kd.C_alloc ?_ _) | (with_reducible refine Kd.C_drewN ?_ _) | (with_reducible refine Kd.C_drew ?_))); (case side2 => exact HC245_0.out); rintro e w4 ⟨rfl, hb⟩; refine ⟨_, rfl, ?_⟩; replace HB := sqb hb HB; (try clear hb); (try clear hb2); (try clear hk); (try clear hi)))
  go_ret
  exact ⟨by first | rfl | (simp [errW_none, errW_some] <;> rfl) | (simp [*, errW_none, errW_some] <;> rfl), sqB HB⟩
 ·rw [if_neg c2] at H
  exact absurd H (by simp)
end Go.Proofs.YtemingmeidmjkaaDoor.Q
namespace Go.Proofs.YtemingmeidmjkaaDoor.Q
open Go.RowKit Go.Proofs.YtemingmeidmjkaaDoorW.PrintWords Go.Proofs.YtemingmeidmjkaaDoorW.PrintLast Go.Proofs.YtemingmeidmjkaaDoorW.PrintMore
attribute [local go_sem] max2_int min2_int max_two min_two max_three min_three max_four min_four   -- for this text's walks alone
set_option linter.unusedVariables false
set_option linter.unusedSimpArgs false
def rf_Where.l0 : Nat → List Int → Int → List (S41) → List (S80) → Option (List Int)
 | 0, _, _, _, _ => none
 | k + 1, x3, x4, x360000, x360001 => if x4 < (x360000.length : Int) then ((rf_Sets.f k x360000 x360001 x4).bind fun t363 => ((rf_Is.f k t363).bind fun t366 => (if t366 = true then (if x3.length < 17592186044416 then (rf_Where.l0 k (x3 ++ [x4]) (wrap64 (x4 + 1)) x360000 x360001) else (none)) else (rf_Where.l0 k x3 (wrap64 (x4 + 1)) x360000 x360001)))) else (some x3)
def rf_Where.f (k : Nat) (l0_0 : List (S41)) (l0_1 : List (S80)) : Option (List Int) := rf_Where.l0 k (([] : List Int)) 0 l0_0 l0_1
set_option maxHeartbeats 8000000 in
set_option maxRecDepth 100000 in
theorem rf_Where.calls (k : Nat) (A0_0 : Option Addr) (c0_0 : Nat) (l0_0 : List (S41)) (A0_1 : Option Addr) (c0_1 : Nat) (l0_1 : List (S80)) (r : List Int) (w : World) (hr0_0 : Kd.C k41 w A0_0 l0_0.length l0_0) (hc0_0 : l0_0.length ≤ c0_0) (hr0_1 : Kd.C k80 w A0_1 l0_1.length l0_1) (hc0_1 : l0_1.length ≤ c0_1) (h : rf_Where.f k l0_0 l0_1 = some r) :
  Calls Tryd.prog 73 #[.agg #[.slice A0_0 l0_0.length c0_0, .slice A0_1 l0_1.length c0_1]] w fun e w' => ∃ v0_ : Value, e = .returned (v0_) ∧ Kd.R (Kd.int .i64) 3 w' w.heap.size (fun _ => True) v0_ r ∧ Below w.heap.size w w' := by
 have hu25 := Tryd.underlying25; have HR0_0 := Aside0.mk hr0_0; have HC0_0 := Aside0.mk hc0_0; clear hr0_0 hc0_0; have HR0_1 := Aside0.mk hr0_1; have HC0_1 := Aside0.mk hc0_1; clear hr0_1 hc0_1; have HB := Aside0.mk (Below.refl w.heap.size w); have H : (rf_Where.l0 k (([] : List Int)) 0 l0_0 l0_1) = some r := h; clear h; replace H : ∃ y_ : List Int, y_ = (([] : List Int)) ∧ (rf_Where.l0 k y_ 0 l0_0 l0_1) = some r := ⟨_, rfl, sqJ H⟩; obtain ⟨y360, hy360, H⟩ := H; have Ny360 := Aside0.mk hy360; clear hy360; have H' := Aside0.mk H; clear H; go_enter Tryd.func73, Tryd.ntmps73
 go_wp2_with (first | ((with_reducible refine gate_dst (N := 1) rfl ?_); refine box_event ?hg (N := 1) ?hd (cs := #[.slice A0_0 l0_0.length c0_0, .slice A0_1 l0_1.length c0_1]) (t := 25) ?hr ?_; (case hd => rfl); (case hg => rfl); (case hr => first | (go_simp; done) | (go_simp; rfl)); intro gb359 hg w2 hbox hb; have BK359 := Aside0.mk (hbox); have GW359 := Aside0.mk (sqZ hg HB); have GE359 := Aside0.mk (sqZ hg HB); replace HB := sqb hb HB; clear hb hbox hg) | ((with_reducible refine gate_dst (N := 5) rfl ?_); refine Kd.R_lit (Kd.int .i64) _ 3 ?hg (N := 5) ?hd (xs := ([] : List Int)) (inner := []) (ok := fun _ => True) (okp := fun _ => True) ?hr ?hp (fun _ hk => hk) trivial (Below.refl _ _) (Nat.le_refl _) (by simp) ?_; (case hd => rfl); (case hg => rfl); (case hr => first | (go_simp; done) | (go_simp; rfl)); (case hp => exact (Reps.none _ _)); intro v361 w3 ho4 hb hg_ hnew_; clear hg_ hnew_; (first | rw [← Ny360.out] at ho4 | (simp only [Int.reduceToNat] at ho4; rw [← Ny360.out] at ho4)); have HO362 := Aside0.mk (Kd.R_lower ho4 (below_size (sqB HB))); replace BK359 := sqk BK359 hb; replace HB := sqb hb HB; clear hb ho4))
 go_loopg [3, 4] k (fun kq v3 v4 w' => ∃ (x3_1 : List Int) (x4_1 : Int), v4 = .int .i64 x4_1 ∧ Aside0 (rf_Where.l0 kq x3_1 x4_1 l0_0 l0_1 = some r) ∧ Aside0 (kq ≤ k) ∧ Aside0 (Kd.R (Kd.int .i64) 3 w' w.heap.size (fun _ => True) v3 x3_1) ∧ Aside0 (w'.heap[gb359]? = some (.cells #[(.slice A0_0 l0_0.length c0_0), (.slice A0_1 l0_1.length c0_1)] 25 (0, 0))) ∧ Aside0 (Below w.heap.size w w'))
 case atStart => exact ⟨(y360), (0), sqE, H', ⟨Nat.le_refl _⟩, ⟨sqR HO362⟩, ⟨sqK BK359⟩, ⟨sqB HB⟩⟩
 case round =>
  clear H'; obtain ⟨x3_1, x4_1, rfl, HA, HK1, HO_3, BK359, HB⟩ := hrel
  cases gk with
  | zero => exact absurd HA.out (by simp [rf_Where.l0])
  | succ k1 =>
   have H := HA.out; clear HA; simp only [rf_Where.l0] at H
   by_cases c5 : x4_1 < (l0_0.length : Int)
   ·rw [if_pos c5] at H
    have c5b0 : decide (x4_1 < (l0_0.length : Int)) = true := decide_eq_true c5; clear c5; obtain ⟨t363, A60, H⟩ := Option.bind_eq_some_iff.mp H; have A6 := Aside0.mk A60; clear A60; obtain ⟨t366, A70, H⟩ := Option.bind_eq_some_iff.mp H; have A7 := Aside0.mk A70; clear A70
    by_cases c8 : t366 = true
    ·subst c8
     rw [if_pos rfl] at H
     by_cases c9 : x3_1.length < 17592186044416
     ·rw [if_pos c9] at H
      have LMc9 := Aside0.mk c9; clear c9; replace H : ∃ y_ : List Int, y_ = (x3_1 ++ [x4_1]) ∧ (rf_Where.l0 k1 y_ (wrap64 (x4_1 + 1)) l0_0 l0_1) = some r := ⟨_, rfl, sqJ H⟩; obtain ⟨y367, hy367, H⟩ := H; have Ny367 := Aside0.mk hy367; clear hy367; have H' := Aside0.mk H; clear H; have hcz10_0 := sqc0 BK359; have hcz10_1 := sqc1 BK359; have hfz10_0 := blk_frozen BK359.out 0; have hfz10_1 := blk_frozen BK359.out 1
      go_wp2_with (first | ((with_reducible refine gate_callee (f := 24) rfl ?_); refine goesL_ (some 15) rfl rfl Tryd.func24 sqF rfl #[.agg #[.slice A0_0 l0_0.length c0_0, .slice A0_1 l0_1.length c0_1], .int .i64 x4_1] rfl sqM ?_; (with_reducible refine (rf_Sets.calls k1 _ _ l0_0 _ _ l0_1 x4_1 t363 _ ?side1 ?side2 ?side3 ?side4 A6.out).mono ?_); (case side1 => exact sqQ HR0_0 HB); (case side2 => exact HC0_0.out); (case side3 => exact sqQ HR0_1 HB); (case side4 => exact HC0_1.out); rintro e w11 ⟨v364, rfl, ho0, hb⟩; refine ⟨_, rfl, ?_⟩; replace HO_3 := Aside0.mk (Kd.R_below (sqR HO_3) hb); have HO365 := Aside0.mk (Kd.S_lower ho0 (below_size (sqB HB))); replace BK359 := sqk BK359 hb; replace HB := sqb hb HB; (try clear hb); (try clear hb2); (try clear hk); (try clear hi); (try clear ho0); obtain ⟨Ao12, co12, eo12⟩ := Kd.S_slice HO365.out; subst eo12) | ((with_reducible refine gate_callee (f := 25) rfl ?_); refine goesL_ (some 16) rfl rfl Tryd.func25 sqF rfl #[.slice Ao12 t363.length co12] rfl sqM ?_; (with_reducible refine (rf_Is.calls k1 _ _ t363 true _ ?side1 ?side2 A7.out).mono ?_); (case side1 => repeat (first | exact (Kd.S_reads' HO365.out).2.2 | (with_reducible refine Kd.C_alloc ?_ _) | (with_reducible refine Kd.C_drewN ?_ _) | (with_reducible refine Kd.C_drew ?_))); (case side2 => exact (Kd.S_reads' HO365.out).2.1); rintro e w13 ⟨rfl, hb⟩; refine ⟨_, rfl, ?_⟩; replace HO_3 := Aside0.mk (Kd.R_below (sqR HO_3) hb); replace HO365 := Aside0.mk (Kd.S_below (sqS HO365) hb); replace BK359 := sqk BK359 hb; replace HB := sqb hb HB; (try clear hb); (try clear hb2); (try clear hk); (try clear hi)) | ((with_reducible refine gate_builtin (b := .append) (xs := #[.tmp 17, .tmp 19]) rfl ?_); at_builtin; refine Kd.R_append (Kd.int .i64) (w0 := w) w.heap.size rfl (.tmp 17) (.tmp 19) 45 3 (.int .i64 0) 8 rfl Tryd.underlying45 info3 rfl (by decide) (by omega) u3 x3_1 x4_1 [.int .i64 x4_1] (fun _ => True) (fun _ => False) rfl rfl ?aP (fun _ hk => hk.elim) ?aF ?aO ?aB ?aS ?aL ?_; (case aP => exact rfl); (case aB => exact (sqB HB)); (case aF => exact (fun _ _ => trivial)); (case aO => exact (sqR HO_3)); (case aS => exact (below_size (sqB HB))); (case aL => have := LMc9.out; omega); intro v368 w14 ho hb hg hat; rw [← Ny367.out] at ho; replace BK359 := Aside0.mk (blk_grown (g := gb359) (o := .cells #[.slice A0_0 l0_0.length c0_0, .slice A0_1 l0_1.length c0_1] 25 (0, 0)) (sqK BK359) hg (Kd.R_ne HO_3.out BK359.out (by decide))); replace HO365 := Aside0.mk (Kd.S_over' (sqS HO365) (Kd.R_typed (sqR HO_3)) (by decide) hg); replace HB := Aside0.mk (hb); have HO369 := Aside0.mk (ho); clear HO_3; clear ho hb hg hat))
      go_roundg k1
      case measure => have := HK1.out; omega
      case rel => exact ⟨(y367), (wrap64 (x4_1 + 1)), sqE, H', ⟨by have := HK1.out; omega⟩, ⟨sqR HO369⟩, ⟨sqK BK359⟩, ⟨sqB HB⟩⟩
     ·rw [if_neg c9] at H
      exact absurd H (by simp)
    ·replace c8 := Bool.eq_false_iff.mpr c8
     subst c8; rw [if_neg Bool.false_ne_true] at H; have H' := Aside0.mk H; clear H; have hcz15_0 := sqc0 BK359; have hcz15_1 := sqc1 BK359; have hfz15_0 := blk_frozen BK359.out 0; have hfz15_1 := blk_frozen BK359.out 1
     go_wp2_with (first | ((with_reducible refine gate_callee (f := 24) rfl ?_); refine goesL_ (some 15) rfl rfl Tryd.func24 sqF rfl #[.agg #[.slice A0_0 l0_0.length c0_0, .slice A0_1 l0_1.length c0_1], .int .i64 x4_1] rfl sqM ?_; (with_reducible refine (rf_Sets.calls k1 _ _ l0_0 _ _ l0_1 x4_1 t363 _ ?side1 ?side2 ?side3 ?side4 A6.out).mono ?_); (case side1 => exact sqQ HR0_0 HB); (case side2 => exact HC0_0.out); (case side3 => exact sqQ HR0_1 HB); (case side4 => exact HC0_1.out); rintro e w16 ⟨v364, rfl, ho0, hb⟩; refine ⟨_, rfl, ?_⟩; replace HO_3 := Aside0.mk (Kd.R_below (sqR HO_3) hb); have HO365 := Aside0.mk (Kd.S_lower ho0 (below_size (sqB HB))); replace BK359 := sqk BK359 hb; replace HB := sqb hb HB; (try clear hb); (try clear hb2); (try clear hk); (try clear hi); (try clear ho0); obtain ⟨Ao17, co17, eo17⟩ := Kd.S_slice HO365.out; subst eo17) | ((with_reducible refine gate_callee (f := 25) rfl ?_); refine goesL_ (some 16) rfl rfl Tryd.func25 sqF rfl #[.slice Ao17 t363.length co17] rfl sqM ?_; (with_reducible refine (rf_Is.calls k1 _ _ t363 false _ ?side1 ?side2 A7.out).mono ?_); (case side1 => repeat (first | exact (Kd.S_reads' HO365.out).2.2 | (with_reducible refine Kd.C_alloc ?_ _) | (with_reducible refine Kd.C_drewN ?_ _) | (with_reducible refine Kd.C_drew ?_))); (case side2 => exact (Kd.S_reads' HO365.out).2.1); rintro e w18 ⟨rfl, hb⟩; refine ⟨_, rfl, ?_⟩; replace HO_3 := Aside0.mk (Kd.R_below (sqR HO_3) hb); replace HO365 := Aside0.mk (Kd.S_below (sqS HO365) hb); replace BK359 := sqk BK359 hb; replace HB := sqb hb HB; (try clear hb); (try clear hb2); (try clear hk); (try clear hi)))
     go_roundg k1
     case measure => have := HK1.out; omega
     case rel => exact ⟨(x3_1), (wrap64 (x4_1 + 1)), sqE, H', ⟨by have := HK1.out; omega⟩, ⟨sqR HO_3⟩, ⟨sqK BK359⟩, ⟨sqB HB⟩⟩
   ·rw [if_neg c5] at H
    have c5b0 : decide (x4_1 < (l0_0.length : Int)) = false := decide_eq_false c5; clear c5; obtain rfl := Option.some.inj H; have hcz19_0 := sqc0 BK359; have hcz19_1 := sqc1 BK359; have hfz19_0 := blk_frozen BK359.out 0; have hfz19_1 := blk_frozen BK359.out 1
    go_wp2
    go_ret
    exact ⟨_, by first | rfl | (simp [errW_none, errW_some] <;> rfl) | (simp [*, errW_none, errW_some] <;> rfl), by (with_reducible repeat (first | apply Kd.R_alloc | apply Kd.R_drewN | apply Kd.R_drew)); exact HO_3.out, sqB HB⟩
end Go.Proofs.YtemingmeidmjkaaDoor.Q
namespace Go.Proofs.YtemingmeidmjkaaDoor.Q
open Go.RowKit Go.Proofs.YtemingmeidmjkaaDoorW.PrintWords Go.Proofs.YtemingmeidmjkaaDoorW.PrintLast Go.Proofs.YtemingmeidmjkaaDoorW.PrintMore
attribute [local go_sem] max2_int min2_int max_two min_two max_three min_three max_four min_four   -- for this text's walks alone
set_option linter.unusedVariables false
set_option linter.unusedSimpArgs false
def rf_Stolen.f (k : Nat) (l0_0 : List (S41)) (l0_1 : List (S80)) : Option (List Int × Int) := (rf_Check.f k l0_0 l0_1).bind fun t371 => (if t371 = 0 then ((rf_Sets.f k l0_0 l0_1 (-1)).bind fun t372 => ((rf_Is.f k t372).bind fun t375 => (if t375 = true then (some (([] : List Int), 6)) else ((rf_Where.f k l0_0 l0_1).bind fun t376 => (if (t376.length : Int) > 0 then (some (t376, 0)) else (some (([] : List Int), 9))))))) else (some (([] : List Int), t371)))
set_option maxHeartbeats 8000000 in
set_option maxRecDepth 100000 in
theorem rf_Stolen.calls (k : Nat) (A0_0 : Option Addr) (c0_0 : Nat) (l0_0 : List (S41)) (A0_1 : Option Addr) (c0_1 : Nat) (l0_1 : List (S80)) (r1 : List Int) (r2 : Int) (w : World) (hr0_0 : Kd.C k41 w A0_0 l0_0.length l0_0) (hc0_0 : l0_0.length ≤ c0_0) (hr0_1 : Kd.C k80 w A0_1 l0_1.length l0_1) (hc0_1 : l0_1.length ≤ c0_1) (h : rf_Stolen.f k l0_0 l0_1 = some (r1, r2)) :
  Calls Tryd.prog 33 #[.agg #[.slice A0_0 l0_0.length c0_0, .slice A0_1 l0_1.length c0_1]] w fun e w' => ∃ v0_ : Value, e = .returned (.tuple #[v0_, .int .i64 r2]) ∧ Kd.R (Kd.int .i64) 3 w' w.heap.size (fun _ => True) v0_ r1 ∧ Below w.heap.size w w' := by
 have hu25 := Tryd.underlying25; have HR0_0 := Aside0.mk hr0_0; have HC0_0 := Aside0.mk hc0_0; clear hr0_0 hc0_0; have HR0_1 := Aside0.mk hr0_1; have HC0_1 := Aside0.mk hc0_1; clear hr0_1 hc0_1; have HB := Aside0.mk (Below.refl w.heap.size w); have H : ((rf_Check.f k l0_0 l0_1).bind fun t371 => (if t371 = 0 then ((rf_Sets.f k l0_0 l0_1 (-1)).bind fun t372 => ((rf_Is.f k t372).bind fun t375 => (if t375 = true then (some (([] : List Int), 6)) else ((rf_Where.f k l0_0 l0_1).bind fun t376 => (if (t376.length : Int) > 0 then (some (t376, 0)) else (some (([] : List Int), 9))))))) else (some (([] : List Int), t371)))) = some (r1, r2) := h; clear h; obtain ⟨t371, A20, H⟩ := Option.bind_eq_some_iff.mp H; have A2 := Aside0.mk A20; clear A20
 by_cases c3 : t371 = 0
 ·rw [if_pos c3] at H
  have c3b0 : (t371 == 0) = true := beq_iff_eq.mpr c3; have c3b1 : (t371 != 0) = false := bne_eq_false_iff_eq.mpr c3; clear c3; obtain ⟨t372, A40, H⟩ := Option.bind_eq_some_iff.mp H; have A4 := Aside0.mk A40; clear A40; obtain ⟨t375, A50, H⟩ := Option.bind_eq_some_iff.mp H; have A5 := Aside0.mk A50; clear A50
  by_cases c6 : t375 = true
  ·subst c6
   rw [if_pos rfl] at H; simp only [Option.some.injEq, Prod.mk.injEq] at H; obtain ⟨rfl, rfl⟩ := H
   go_enter Tryd.func33, Tryd.ntmps33
   go_wp2_with (first | ((with_reducible refine gate_dst (N := 1) rfl ?_); refine box_event ?hg (N := 1) ?hd (cs := #[.slice A0_0 l0_0.length c0_0, .slice A0_1 l0_1.length c0_1]) (t := 25) ?hr ?_; (case hd => rfl); (case hg => rfl); (case hr => first | (go_simp; done) | (go_simp; rfl)); intro gb370 hg w7 hbox hb; have BK370 := Aside0.mk (hbox); have GW370 := Aside0.mk (sqZ hg HB); have GE370 := Aside0.mk (sqZ hg HB); replace HB := sqb hb HB; clear hb hbox hg; have hcz8_0 := sqc0 BK370; have hcz8_1 := sqc1 BK370; have hfz8_0 := blk_frozen BK370.out 0; have hfz8_1 := blk_frozen BK370.out 1) | ((with_reducible refine gate_callee (f := 22) rfl ?_); refine goesL_ (some 7) rfl rfl Tryd.func22 sqF rfl #[.agg #[.slice A0_0 l0_0.length c0_0, .slice A0_1 l0_1.length c0_1]] rfl sqM ?_; (with_reducible refine (rf_Check.calls k _ _ l0_0 _ _ l0_1 t371 _ ?side1 ?side2 ?side3 ?side4 A2.out).mono ?_); (case side1 => exact sqQ HR0_0 HB); (case side2 => exact HC0_0.out); (case side3 => exact sqQ HR0_1 HB); (case side4 => exact HC0_1.out); rintro e w9 ⟨rfl, hb⟩; refine ⟨_, rfl, ?_⟩; replace BK370 := sqk BK370 hb; replace HB := sqb hb HB; (try clear hb); (try clear hb2); (try clear hk); (try clear hi); have hcz10_0 := sqc0 BK370; have hcz10_1 := sqc1 BK370; have hfz10_0 := blk_frozen BK370.out 0; have hfz10_1 := blk_frozen BK370.out 1) | ((with_reducible refine gate_callee (f := 24) rfl ?_); refine goesL_ (some 12) rfl rfl Tryd.func24 sqF rfl #[.agg #[.slice A0_0 l0_0.length c0_0, .slice A0_1 l0_1.length c0_1], .int .i64 (-1)] rfl sqM ?_; (with_reducible refine (rf_Sets.calls k _ _ l0_0 _ _ l0_1 (-1) t372 _ ?side1 ?side2 ?side3 ?side4 A4.out).mono ?_); (case side1 => exact sqQ HR0_0 HB); (case side2 => exact HC0_0.out); (case side3 => exact sqQ HR0_1 HB); (case side4 => exact HC0_1.out); rintro e w11 ⟨v373, rfl, ho0, hb⟩; refine ⟨_, rfl, ?_⟩; have HO374 := Aside0.mk (Kd.S_lower ho0 (below_size (sqB HB))); replace BK370 := sqk BK370 hb; replace HB := sqb hb HB; (try clear hb); (try clear hb2); (try clear hk); (try clear hi); (try clear ho0); obtain ⟨Ao12, co12, eo12⟩ := Kd.S_slice HO374.out; subst eo12) | ((with_reducible refine gate_callee (f := 25) rfl ?_); refine goesL_ (some 13) rfl rfl Tryd.func25 sqF rfl #[.slice Ao12 t372.length co12] rfl sqM ?_; (with_reducible refine (rf_Is.calls k _ _ t372 true _ ?side1 ?side2 A5.out).mono ?_); (case side1 => repeat (first | exact (Kd.S_reads' HO374.out).2.2 | (with_reducible refine Kd.C_alloc ?_ _) | (with_reducible refine Kd.C_drewN ?_ _) | (with_reducible refine Kd.C_drew ?_))); (case side2 => exact (Kd.S_reads' HO374.out).2.1); rintro e w13 ⟨rfl, hb⟩; refine ⟨_, rfl, ?_⟩; replace HO374 := Aside0.mk (Kd.S_below (sqS HO374) hb); replace BK370 := sqk BK370 hb; replace HB := sqb hb HB; (try clear hb); (try clear hb2); (try clear hk); (try clear hi)))
   go_ret2
   exact ⟨_, by first | rfl | (simp [errW_none, errW_some] <;> rfl) | (simp [*, errW_none, errW_some] <;> rfl), by first | exact Kd.R_nil _ _ _ _ _ | exact Kd.N_nil _ _ _ _ _ | exact Kd.V_nil _ _ _ _ _ | exact Kd.Q_nil _ _ _ _ _ | exact Kd.S_nil _ _ _ _ _, sqB HB⟩
  ·replace c6 := Bool.eq_false_iff.mpr c6
   subst c6; rw [if_neg Bool.false_ne_true] at H; obtain ⟨t376, A140, H⟩ := Option.bind_eq_some_iff.mp H; have A14 := Aside0.mk A140; clear A140
   by_cases c15 : (t376.length : Int) > 0
   ·rw [if_pos c15] at H
    have c15b0 : decide (0 < (t376.length : Int)) = true := decide_eq_true c15; have c15b1 : decide (0 < t376.length) = true := decide_eq_true (by omega); clear c15; simp only [Option.some.injEq, Prod.mk.injEq] at H; obtain ⟨rfl, rfl⟩ := H
    go_enter Tryd.func33, Tryd.ntmps33
    go_wp2_with (first | ((with_reducible refine gate_dst (N := 1) rfl ?_); refine box_event ?hg (N := 1) ?hd (cs := #[.slice A0_0 l0_0.length c0_0, .slice A0_1 l0_1.length c0_1]) (t := 25) ?hr ?_; (case hd => rfl); (case hg => rfl); (case hr => first | (go_simp; done) | (go_simp; rfl)); intro gb370 hg w16 hbox hb; have BK370 := Aside0.mk (hbox); have GW370 := Aside0.mk (sqZ hg HB); have GE370 := Aside0.mk (sqZ hg HB); replace HB := sqb hb HB; clear hb hbox hg; have hcz17_0 := sqc0 BK370; have hcz17_1 := sqc1 BK370; have hfz17_0 := blk_frozen BK370.out 0; have hfz17_1 := blk_frozen BK370.out 1) | ((with_reducible refine gate_callee (f := 22) rfl ?_); refine goesL_ (some 7) rfl rfl Tryd.func22 sqF rfl #[.agg #[.slice A0_0 l0_0.length c0_0, .slice A0_1 l0_1.length c0_1]] rfl sqM ?_; (with_reducible refine (rf_Check.calls k _ _ l0_0 _ _ l0_1 t371 _ ?side1 ?side2 ?side3 ?side4 A2.out).mono ?_); (case side1 => exact sqQ HR0_0 HB); (case side2 => exact HC0_0.out); (case side3 => exact sqQ HR0_1 HB); (case side4 => exact HC0_1.out); rintro e w18 ⟨rfl, hb⟩; refine ⟨_, rfl, ?_⟩; replace BK370 := sqk BK370 hb; replace HB := sqb hb HB; (try clear hb); (try clear hb2); (try clear hk); (try clear hi); have hcz19_0 := sqc0 BK370; have hcz19_1 := sqc1 BK370; have hfz19_0 := blk_frozen BK370.out 0; have hfz19_1 := blk_frozen BK370.out 1) | ((with_reducible refine gate_callee (f := 24) rfl ?_); refine goesL_ (some 12) rfl rfl Tryd.func24 sqF rfl #[.agg #[.slice A0_0 l0_0.length c0_0, .slice A0_1 l0_1.length c0_1], .int .i64 (-1)] rfl sqM ?_; (with_reducible refine (rf_Sets.calls k _ _ l0_0 _ _ l0_1 (-1) t372 _ ?side1 ?side2 ?side3 ?side4 A4.out).mono ?_); (case side1 => exact sqQ HR0_0 HB); (case side2 => exact HC0_0.out); (case side3 => exact sqQ HR0_1 HB); (case side4 => exact HC0_1.out); rintro e w20 ⟨v373, rfl, ho0, hb⟩; refine ⟨_, rfl, ?_⟩; have HO374 := Aside0.mk (Kd.S_lower ho0 (below_size (sqB HB))); replace BK370 := sqk BK370 hb; replace HB := sqb hb HB; (try clear hb); (try clear hb2); (try clear hk); (try clear hi); (try clear ho0); obtain ⟨Ao21, co21, eo21⟩ := Kd.S_slice HO374.out; subst eo21) | ((with_reducible refine gate_callee (f := 25) rfl ?_); refine goesL_ (some 13) rfl rfl Tryd.func25 sqF rfl #[.slice Ao21 t372.length co21] rfl sqM ?_; (with_reducible refine (rf_Is.calls k _ _ t372 false _ ?side1 ?side2 A5.out).mono ?_); (case side1 => repeat (first | exact (Kd.S_reads' HO374.out).2.2 | (with_reducible refine Kd.C_alloc ?_ _) | (with_reducible refine Kd.C_drewN ?_ _) | (with_reducible refine Kd.C_drew ?_))); (case side2 => exact (Kd.S_reads' HO374.out).2.1); rintro e w22 ⟨rfl, hb⟩; refine ⟨_, rfl, ?_⟩; replace HO374 := Aside0.mk (Kd.S_below (sqS HO374) hb); replace BK370 := sqk BK370 hb; replace HB := sqb hb HB; (try clear hb); (try clear hb2); (try clear hk); (try clear hi); have hcz23_0 := sqc0 BK370; have hcz23_1 := sqc1 BK370; have hfz23_0 := blk_frozen BK370.out 0; have hfz23_1 := blk_frozen BK370.out 1) | ((with_reducible refine gate_callee (f := 73) rfl ?_); refine goesL_ (some 15) rfl rfl Tryd.func73 sqF rfl #[.agg #[.slice A0_0 l0_0.length c0_0, .slice A0_1 l0_1.length c0_1]] rfl sqM ?_; (with_reducible refine (rf_Where.calls k _ _ l0_0 _ _ l0_1 t376 _ ?side1 ?side2 ?side3 ?side4 A14.out).mono ?_); (case side1 => exact sqQ HR0_0 HB); (case side2 => exact HC0_0.out); (case side3 => exact sqQ HR0_1 HB); (case side4 => exact HC0_1.out); rintro e w24 ⟨v377, rfl, ho0, hb⟩; refine ⟨_, rfl, ?_⟩; replace HO374 := Aside0.mk (Kd.S_below (sqS HO374) hb); have HO378 := Aside0.mk (Kd.R_lower ho0 (below_size (sqB HB))); replace BK370 := sqk BK370 hb; replace HB := sqb hb HB; (try clear hb); (try clear hb2); (try clear hk); (try clear hi); (try clear ho0); obtain ⟨Ao25, co25, eo25⟩ := Kd.R_slice HO378.out; subst eo25))
    go_ret2
    exact ⟨_, by first | rfl | (simp [errW_none, errW_some] <;> rfl) | (simp [*, errW_none, errW_some] <;> rfl), by (with_reducible repeat (first | apply Kd.R_alloc | apply Kd.R_drewN | apply Kd.R_drew)); exact HO378.out, sqB HB⟩
   ·rw [if_neg c15] at H
    have c15b0 : decide (0 < (t376.length : Int)) = false := decide_eq_false c15; have c15b1 : decide (0 < t376.length) = false := decide_eq_false (by omega); clear c15; simp only [Option.some.injEq, Prod.mk.injEq] at H; obtain ⟨rfl, rfl⟩ := H
    go_enter Tryd.func33, Tryd.ntmps33
    go_wp2_with (first | ((with_reducible refine gate_dst (N := 1) rfl ?_); refine box_event ?hg (N := 1) ?hd (cs := #[.slice A0_0 l0_0.length c0_0, .slice A0_1 l0_1.length c0_1]) (t := 25) ?hr ?_; (case hd => rfl); (case hg => rfl); (case hr => first | (go_simp; done) | (go_simp; rfl)); intro gb370 hg w26 hbox hb; have BK370 := Aside0.mk (hbox); have GW370 := Aside0.mk (sqZ hg HB); have GE370 := Aside0.mk (sqZ hg HB); replace HB := sqb hb HB; clear hb hbox hg; have hcz27_0 := sqc0 BK370; have hcz27_1 := sqc1 BK370; have hfz27_0 := blk_frozen BK370.out 0; have hfz27_1 := blk_frozen BK370.out 1) | ((with_reducible refine gate_callee (f := 22) rfl ?_); refine goesL_ (some 7) rfl rfl Tryd.func22 sqF rfl #[.agg #[.slice A0_0 l0_0.length c0_0, .slice A0_1 l0_1.length c0_1]] rfl sqM ?_; (with_reducible refine (rf_Check.calls k _ _ l0_0 _ _ l0_1 t371 _ ?side1 ?side2 ?side3 ?side4 A2.out).mono ?_); (case side1 => exact sqQ HR0_0 HB); (case side2 => exact HC0_0.out); (case side3 => exact sqQ HR0_1 HB); (case side4 => exact HC0_1.out); rintro e w28 ⟨rfl, hb⟩; refine ⟨_, rfl, ?_⟩; replace BK370 := sqk BK370 hb; replace HB := sqb hb HB; (try clear hb); (try clear hb2); (try clear hk); (try clear hi); have hcz29_0 := sqc0 BK370; have hcz29_1 := sqc1 BK370; have hfz29_0 := blk_frozen BK370.out 0; have hfz29_1 := blk_frozen BK370.out 1) | ((with_reducible refine gate_callee (f := 24) rfl ?_); refine goesL_ (some 12) rfl rfl Tryd.func24 sqF rfl #[.agg #[.slice A0_0 l0_0.length c0_0, .slice A0_1 l0_1.length c0_1], .int .i64 (-1)] rfl sqM ?_; (with_reducible refine (rf_Sets.calls k _ _ l0_0 _ _ l0_1 (-1) t372 _ ?side1 ?side2 ?side3 ?side4 A4.out).mono ?_); (case side1 => exact sqQ HR0_0 HB); (case side2 => exact HC0_0.out); (case side3 => exact sqQ HR0_1 HB); (case side4 => exact HC0_1.out); rintro e w30 ⟨v373, rfl, ho0, hb⟩; refine ⟨_, rfl, ?_⟩; have HO374 := Aside0.mk (Kd.S_lower ho0 (below_size (sqB HB))); replace BK370 := sqk BK370 hb; replace HB := sqb hb HB; (try clear hb); (try clear hb2); (try clear hk); (try clear hi); (try clear ho0); obtain ⟨Ao31, co31, eo31⟩ := Kd.S_slice HO374.out; subst eo31) | ((with_reducible refine gate_callee (f := 25) rfl ?_); refine goesL_ (some 13) rfl rfl Tryd.func25 sqF rfl #[.slice Ao31 t372.length co31] rfl sqM ?_; (with_reducible refine (rf_Is.calls k _ _ t372 false _ ?side1 ?side2 A5.out).mono ?_); (case side1 => repeat (first | exact (Kd.S_reads' HO374.out).2.2 | (with_reducible refine Kd.C_alloc ?_ _) | (with_reducible refine Kd.C_drewN ?_ _) | (with_reducible refine Kd.C_drew ?_))); (case side2 => exact (Kd.S_reads' HO374.out).2.1); rintro e w32 ⟨rfl, hb⟩; refine ⟨_, rfl, ?_⟩; replace HO374 := Aside0.mk (Kd.S_below (sqS HO374) hb); replace BK370 := sqk BK370 hb; replace HB := sqb hb HB; (try clear hb); (try clear hb2); (try clear hk); (try clear hi); have hcz33_0 := sqc0 BK370; have hcz33_1 := sqc1 BK370; have hfz33_0 := blk_frozen BK370.out 0; have hfz33_1 := blk_frozen BK370.out 1) | ((with_reducible refine gate_callee (f := 73) rfl ?_); refine goesL_ (some 15) rfl rfl Tryd.func73 sqF rfl #[.agg #[.slice A0_0 l0_0.length c0_0, .slice A0_1 l0_1.length c0_1]] rfl sqM ?_; (with_reducible refine (rf_Where.calls k _ _ l0_0 _ _ l0_1 t376 _ ?side1 ?side2 ?side3 ?side4 A14.out).mono ?_); (case side1 => exact sqQ HR0_0 HB); (case side2 => exact HC0_0.out); (case side3 => exact sqQ HR0_1 HB); (case side4 => exact HC0_1.out); rintro e w34 ⟨v377, rfl, ho0, hb⟩; refine ⟨_, rfl, ?_⟩; replace HO374 := Aside0.mk (Kd.S_below (sqS HO374) hb); have HO378 := Aside0.mk (Kd.R_lower ho0 (below_size (sqB HB))); replace BK370 := sqk BK370 hb; replace HB := sqb hb HB; (try clear hb); (try clear hb2); (try clear hk); (try clear hi); (try clear ho0); obtain ⟨Ao35, co35, eo35⟩ := Kd.R_slice HO378.out; subst eo35))
    go_ret2
    exact ⟨_, by first | rfl | (simp [errW_none, errW_some] <;> rfl) | (simp [*, errW_none, errW_some] <;> rfl), by first | exact Kd.R_nil _ _ _ _ _ | exact Kd.N_nil _ _ _ _ _ | exact Kd.V_nil _ _ _ _ _ | exact Kd.Q_nil _ _ _ _ _ | exact Kd.S_nil _ _ _ _ _, sqB HB⟩
 ·rw [if_neg c3] at H
  have c3b0 : (t371 == 0) = false := beq_eq_false_iff_ne.mpr c3; have c3b1 : (t371 != 0) = true := bne_iff_ne.mpr c3; simp only [Option.some.injEq, Prod.mk.injEq] at H; obtain ⟨rfl, rfl⟩ := H
  go_enter Tryd.func33, Tryd.ntmps33
  go_wp2_with (first | ((with_reducible refine gate_dst (N := 1) rfl ?_); refine box_event ?hg (N := 1) ?hd (cs := #[.slice A0_0 l0_0.length c0_0, .slice A0_1 l0_1.length c0_1]) (t := 25) ?hr ?_; (case hd => rfl); (case hg => rfl); (case hr => first | (go_simp; done) | (go_simp; rfl)); intro gb370 hg w36 hbox hb; have BK370 := Aside0.mk (hbox); have GW370 := Aside0.mk (sqZ hg HB); have GE370 := Aside0.mk (sqZ hg HB); replace HB := sqb hb HB; clear hb hbox hg; have hcz37_0 := sqc0 BK370; have hcz37_1 := sqc1 BK370; have hfz37_0 := blk_frozen BK370.out 0; have hfz37_1 := blk_frozen BK370.out 1) | ((with_reducible refine gate_callee (f := 22) rfl ?_); refine goesL_ (some 7) rfl rfl Tryd.func22 sqF rfl #[.agg #[.slice A0_0 l0_0.length c0_0, .slice A0_1 l0_1.length c0_1]] rfl sqM ?_; (with_reducible refine (rf_Check.calls k _ _ l0_0 _ _ l0_1 t371 _ ?side1 ?side2 ?side3 ?side4 A2.out).mono ?_); (case side1 => exact sqQ HR0_0 HB); (case side2 => exact HC0_0.out); (case side3 => exact sqQ HR0_1 HB); (case side4 => exact HC0_1.out); rintro e w38 ⟨rfl, hb⟩; refine ⟨_, rfl, ?_⟩; replace BK370 := sqk BK370 hb; replace HB := sqb hb HB; (try clear hb); (try clear hb2); (try clear hk); (try clear hi)))
  go_ret2
  exact ⟨_, by first | rfl | (simp [errW_none, errW_some] <;> rfl) | (simp [*, errW_none, errW_some] <;> rfl), by first | exact Kd.R_nil _ _ _ _ _ | exact Kd.N_nil _ _ _ _ _ | exact Kd.V_nil _ _ _ _ _ | exact Kd.Q_nil _ _ _ _ _ | exact Kd.S_nil _ _ _ _ _, sqB HB⟩
end Go.Proofs.YtemingmeidmjkaaDoor.Q
namespace Go.Proofs.YtemingmeidmjkaaDoor.Q
open Go.RowKit Go.Proofs.YtemingmeidmjkaaDoorW.PrintWords Go.Proofs.YtemingmeidmjkaaDoorW.PrintLast Go.Proofs.YtemingmeidmjkaaDoorW.PrintMore
attribute [local go_sem] max2_int min2_int max_two min_two max_three min_three max_four min_four   -- for this text's walks alone
set_option linter.unusedVariables false
set_option linter.unusedSimpArgs false
mutual
def rf_Amount.l0 : Nat → Int → List (List Bool) → Int → List (S41) → List (S80) → Int → Int → Option (Int × Int)
 | 0, _, _, _, _, _, _, _ => none
 | k + 1, x1, x5, x7, x382000, x382001, x387000, x387001 => if x7 ≤ 400 then (rf_Amount.l1 k x1 x5 x7 0 x382000 x382001 x387000 x387001) else (some (x387000, x387001))
def rf_Amount.l1 : Nat → Int → List (List Bool) → Int → Int → List (S41) → List (S80) → Int → Int → Option (Int × Int)
 | 0, _, _, _, _, _, _, _, _ => none
 | k + 1, x1, x5, x7, x8, x382000, x382001, x387000, x387001 => if x8 ≤ x7 then (if 0 ≤ x1 then (if x1 < (x5.length : Int) then (if 0 ≤ x7 then (if x7 < ((rd_L9 x5 x1).length : Int) then (rf_Amount.j2 k x1 x5 x7 x8 (rdOf false (rd_L9 x5 x1) x7) x382000 x382001 x387000 x387001) else (none)) else (none)) else (none)) else (none)) else (rf_Amount.j2 k x1 x5 x7 x8 false x382000 x382001 x387000 x387001)
def rf_Amount.j2 : Nat → Int → List (List Bool) → Int → Int → Bool → List (S41) → List (S80) → Int → Int → Option (Int × Int)
 | 0, _, _, _, _, _, _, _, _, _ => none
 | k + 1, x1, x5, x7, x8, x29, x382000, x382001, x387000, x387001 => if x29 = true then (if 0 ≤ (wrap64 (x1 + 1)) then (if (wrap64 (x1 + 1)) < (x5.length : Int) then (if 0 ≤ x8 then (if x8 < ((rd_L9 x5 (wrap64 (x1 + 1))).length : Int) then (if (rdOf false (rd_L9 x5 (wrap64 (x1 + 1))) x8 = true) then ((rf_Step.f x382000 x382001 x1 x7 x8 true).bind fun t391 => (rf_Amount.j3 k x1 x5 x7 x8 (!t391) x382000 x382001 x387000 x387001)) else (rf_Amount.j3 k x1 x5 x7 x8 true x382000 x382001 x387000 x387001)) else (none)) else (none)) else (none)) else (none)) else (rf_Amount.l0 k x1 x5 (wrap64 (x7 + 1)) x382000 x382001 x387000 x387001)
def rf_Amount.j3 : Nat → Int → List (List Bool) → Int → Int → Bool → List (S41) → List (S80) → Int → Int → Option (Int × Int)
 | 0, _, _, _, _, _, _, _, _, _ => none
 | k + 1, x1, x5, x7, x8, x48, x382000, x382001, x387000, x387001 => if x48 = true then (rf_Amount.l1 k x1 x5 x7 (wrap64 (x8 + 1)) x382000 x382001 x387000 x387001) else (if 0 ≤ x1 then (if x1 < (x382000.length : Int) then ((rf_Least.f ((rd_T41 x382000 x1).f0) ((rd_T41 x382000 x1).f1) x7).bind fun t393 => (if x387000 < 0 then ((rf_Greatest.f ((rd_T41 x382000 x1).f0) ((rd_T41 x382000 x1).f1) x7).bind fun t395 => (rf_Amount.l1 k x1 x5 x7 (wrap64 (x8 + 1)) x382000 x382001 (mx 1 (wrap64 (t393 - x8))) (mx x387001 (wrap64 (t395 - x8))))) else (if (mx 1 (wrap64 (t393 - x8))) < x387000 then ((rf_Greatest.f ((rd_T41 x382000 x1).f0) ((rd_T41 x382000 x1).f1) x7).bind fun t397 => (rf_Amount.l1 k x1 x5 x7 (wrap64 (x8 + 1)) x382000 x382001 (mx 1 (wrap64 (t393 - x8))) (mx x387001 (wrap64 (t397 - x8))))) else ((rf_Greatest.f ((rd_T41 x382000 x1).f0) ((rd_T41 x382000 x1).f1) x7).bind fun t399 => (rf_Amount.l1 k x1 x5 x7 (wrap64 (x8 + 1)) x382000 x382001 x387000 (mx x387001 (wrap64 (t399 - x8)))))))) else (none)) else (none))
end
def rf_Amount.f (k : Nat) (l0_0 : List (S41)) (l0_1 : List (S80)) (a1 : Int) : Option (Int × Int) := (rf_Sets.f k l0_0 l0_1 a1).bind fun t383 => (rf_Amount.l0 k a1 t383 0 l0_0 l0_1 (-1) (-1))
def rf_Amount.T12 : Bool × List (List Nat × List Nat) := (true, [([], []), ([0], [0]), ([], []), ([2], [2]), ([], []), ([3, 4], [3, 4]), ([5], [5]), ([], []), ([6, 7], [6, 7]), ([], []), ([8, 9], [8, 9]), ([1, 10], [1, 10]), ([0, 1, 2, 3, 4, 5, 6, 7, 8, 9, 10, 11], []), ([12, 11, 8, 0, 1, 2, 3, 4, 5, 6, 7, 8, 9, 10, 11], [11, 12])])
def rf_Amount.B12 : List Nat := [0, 1, 0, 4, 0, 28, 60, 0, 252, 0, 1020, 2047, 4095, 8191]
theorem rf_Amount.tab12 : rtab .any (opsOf Tryd.f36 12) = rf_Amount.T12 := by kernel_rfl
theorem rf_Amount.bits12 : waitsOk rf_Amount.T12.2 rf_Amount.B12 = true := by kernel_rfl
set_option maxHeartbeats 8000000 in
set_option maxRecDepth 100000 in
theorem rf_Amount.calls (k : Nat) (A0_0 : Option Addr) (c0_0 : Nat) (l0_0 : List (S41)) (A0_1 : Option Addr) (c0_1 : Nat) (l0_1 : List (S80)) (a1 : Int) (r1 : Int) (r2 : Int) (w : World) (hr0_0 : Kd.C k41 w A0_0 l0_0.length l0_0) (hc0_0 : l0_0.length ≤ c0_0) (hr0_1 : Kd.C k80 w A0_1 l0_1.length l0_1) (hc0_1 : l0_1.length ≤ c0_1) (h : rf_Amount.f k l0_0 l0_1 a1 = some (r1, r2)) :
  Calls Tryd.prog 36 #[.agg #[.slice A0_0 l0_0.length c0_0, .slice A0_1 l0_1.length c0_1], .int .i64 a1] w fun e w' => e = .returned (.agg #[.int .i64 r1, .int .i64 r2]) ∧ Below w.heap.size w w' := by
 have hu25 := Tryd.underlying25; have hu41 := Tryd.underlying41; have HR0_0 := Aside0.mk hr0_0; have HC0_0 := Aside0.mk hc0_0; clear hr0_0 hc0_0; have HR0_1 := Aside0.mk hr0_1; have HC0_1 := Aside0.mk hc0_1; clear hr0_1 hc0_1; have HB := Aside0.mk (Below.refl w.heap.size w); have H : ((rf_Sets.f k l0_0 l0_1 a1).bind fun t383 => (rf_Amount.l0 k a1 t383 0 l0_0 l0_1 (-1) (-1))) = some (r1, r2) := h; clear h; obtain ⟨t383, A30, H⟩ := Option.bind_eq_some_iff.mp H; have A3 := Aside0.mk A30; clear A30; have H' := Aside0.mk H; clear H; go_enter Tryd.func36, Tryd.ntmps36
 go_wp2_with (first | ((with_reducible refine gate_dst (N := 2) rfl ?_); refine box_event ?hg (N := 2) ?hd (cs := #[.slice A0_0 l0_0.length c0_0, .slice A0_1 l0_1.length c0_1]) (t := 25) ?hr ?_; (case hd => rfl); (case hg => rfl); (case hr => first | (go_simp; done) | (go_simp; rfl)); intro gb381 hg w4 hbox hb; have BK381 := Aside0.mk (hbox); have GW381 := Aside0.mk (sqZ hg HB); have GE381 := Aside0.mk (sqZ hg HB); replace HB := sqb hb HB; clear hb hbox hg) | ((with_reducible refine gate_dst (N := 4) rfl ?_); refine box_event ?hg (N := 4) ?hd (cs := #[.int .i64 0, .int .i64 0]) (t := 41) ?hr ?_; (case hd => rfl); (case hg => rfl); (case hr => first | (go_simp; done) | (go_simp; rfl)); intro gb382 hg w5 hbox hb; have BK382 := Aside0.mk (hbox); have GW382 := Aside0.mk (sqZ hg HB); have GE382 := Aside0.mk (sqZ hg HB); replace HB := sqb hb HB; have NB381_382 := Aside0.mk (sqL hg BK381); have NB382_381 := Aside0.mk (sqG hg BK381); replace BK381 := sqk BK381 hb; clear hb hbox hg; have hnb6 := NB381_382.out; have hnc6 := NB382_381.out; have hcz7_0 := sqc0 BK381; have hcz7_1 := sqc1 BK381; have hfz7_0 := blk_frozen BK381.out 0; have hfz7_1 := blk_frozen BK381.out 1) | ((with_reducible refine gate_callee (f := 24) rfl ?_); refine goesL_ (some 12) rfl rfl Tryd.func24 sqF rfl #[.agg #[.slice A0_0 l0_0.length c0_0, .slice A0_1 l0_1.length c0_1], .int .i64 a1] rfl sqM ?_; (with_reducible refine (rf_Sets.calls k _ _ l0_0 _ _ l0_1 a1 t383 _ ?side1 ?side2 ?side3 ?side4 A3.out).mono ?_); (case side1 => exact sqQ HR0_0 HB); (case side2 => exact HC0_0.out); (case side3 => exact sqQ HR0_1 HB); (case side4 => exact HC0_1.out); rintro e w8 ⟨v384, rfl, ho0, hb⟩; refine ⟨_, rfl, ?_⟩; have HO385 := Aside0.mk (Kd.S_lower ho0 (below_size (sqB HB))); replace BK381 := sqk BK381 hb; replace BK382 := sqk BK382 hb; replace HB := sqb hb HB; (try clear hb); (try clear hb2); (try clear hk); (try clear hi); (try clear ho0)) | ((with_reducible refine gate_dst (N := 6) rfl ?_); refine box_event ?hg (N := 6) ?hd (cs := #[.int .i64 0, .int .i64 0]) (t := 41) ?hr ?_; (case hd => rfl); (case hg => rfl); (case hr => first | (go_simp; done) | (go_simp; rfl)); intro gb386 hg w9 hbox hb; replace HO385 := Aside0.mk (Kd.S_below (sqS HO385) hb); have BK386 := Aside0.mk (hbox); have GW386 := Aside0.mk (sqZ hg HB); have GE386 := Aside0.mk (sqZ hg HB); replace HB := sqb hb HB; have NB381_386 := Aside0.mk (sqL hg BK381); have NB386_381 := Aside0.mk (sqG hg BK381); replace BK381 := sqk BK381 hb; have NB382_386 := Aside0.mk (sqL hg BK382); have NB386_382 := Aside0.mk (sqG hg BK382); replace BK382 := sqk BK382 hb; clear hb hbox hg; have hnb10 := NB386_381.out; have hnc10 := NB381_386.out; have hnb11 := NB386_382.out; have hnc11 := NB382_386.out; have hcz12_0 := sqc0 BK386; have hcz12_1 := sqc1 BK386; have hfz12_0 := blk_frozen BK386.out 0; have hfz12_1 := blk_frozen BK386.out 1))
 go_loopg [7] k (fun kq v7 w' => ∃ (x7_1 : Int) (x387000_1 : Int) (x387001_1 : Int), v7 = .int .i64 x7_1 ∧ Aside0 (rf_Amount.l0 kq a1 t383 x7_1 l0_0 l0_1 x387000_1 x387001_1 = some (r1, r2)) ∧ Aside0 (kq ≤ k) ∧ Aside0 (Kd.S (Kd.slice 4 Kd.bool) 104 w' w.heap.size (fun _ => True) v384 t383) ∧ Aside0 (w'.heap[gb381]? = some (.cells #[(.slice A0_0 l0_0.length c0_0), (.slice A0_1 l0_1.length c0_1)] 25 (0, 0))) ∧ Aside0 (w'.heap[gb382]? = some (.cells #[.int .i64 0, .int .i64 0] 41 (0, 0))) ∧ Aside0 (w'.heap[gb386]? = some (.cells #[.int .i64 x387000_1, .int .i64 x387001_1] 41 (0, 0))) ∧ Aside0 (Below w.heap.size w w'))
 case atStart => exact ⟨(0), ((-1)), ((-1)), sqE, H', ⟨Nat.le_refl _⟩, ⟨by (with_reducible repeat (first | apply Kd.S_alloc | apply Kd.S_drewN | apply Kd.S_drew)); exact Kd.S_mono (Kd.S_far (p := ⟨gb386, 1, none⟩) (Kd.S_far (p := ⟨gb386, 0, none⟩) (Kd.S_types HO385.out BK386.out (by decide)) (fun _ hk => hk.2) (.int .i64 (-1))) (fun _ hk => hk.2) (.int .i64 (-1))) (fun _ hk => trivial)⟩, ⟨sqX⟩, ⟨sqX⟩, ⟨by (with_reducible repeat (first | refine blk_drewN ?_ _ | refine blk_drew ?_ | refine blk_alloc ?_ _)); refine blk_put (cs := #[.int .i64 (-1), .int .i64 0]) ?_ 1 _ rfl; (with_reducible repeat (first | refine blk_drewN ?_ _ | refine blk_drew ?_ | refine blk_alloc ?_ _)); refine blk_put (cs := #[.int .i64 0, .int .i64 0]) ?_ 0 _ rfl; (with_reducible repeat (first | refine blk_drewN ?_ _ | refine blk_drew ?_ | refine blk_alloc ?_ _)); exact BK386.out⟩, ⟨sqB HB⟩⟩
 case round =>
  clear H'; try clear hcz12_0
  (try clear hcz12_1); (try clear hcz7_0); (try clear hcz7_1); (try clear hfz12_0); (try clear hfz12_1); (try clear hfz7_0); (try clear hfz7_1); obtain ⟨x7_1, x387000_1, x387001_1, rfl, HA, HK1, HO_5, BK381, BK382, BK386, HB⟩ := hrel
  cases gk with
  | zero => exact absurd HA.out (by simp [rf_Amount.l0])
  | succ k1 =>
   have H := HA.out; clear HA; simp only [rf_Amount.l0] at H
   by_cases c13 : x7_1 ≤ 400
   ·rw [if_pos c13] at H
    have c13b0 : decide (x7_1 ≤ 400) = true := decide_eq_true c13; clear c13; have H' := Aside0.mk H; clear H; go_wp2
    go_loopg [8] k1 (fun kq v8 w' => ∃ (x8_2 : Int) (x387000_2 : Int) (x387001_2 : Int), v8 = .int .i64 x8_2 ∧ Aside0 (rf_Amount.l1 kq a1 t383 x7_1 x8_2 l0_0 l0_1 x387000_2 x387001_2 = some (r1, r2)) ∧ Aside0 (kq ≤ k1) ∧ Aside0 (Kd.S (Kd.slice 4 Kd.bool) 104 w' w.heap.size (fun _ => True) v384 t383) ∧ Aside0 (w'.heap[gb381]? = some (.cells #[(.slice A0_0 l0_0.length c0_0), (.slice A0_1 l0_1.length c0_1)] 25 (0, 0))) ∧ Aside0 (w'.heap[gb382]? = some (.cells #[.int .i64 0, .int .i64 0] 41 (0, 0))) ∧ Aside0 (w'.heap[gb386]? = some (.cells #[.int .i64 x387000_2, .int .i64 x387001_2] 41 (0, 0))) ∧ Aside0 (Below w.heap.size w w'))
    case atStart => exact ⟨(0), (x387000_1), (x387001_1), sqE, H', ⟨Nat.le_refl _⟩, ⟨sqS HO_5⟩, ⟨sqK BK381⟩, ⟨sqK BK382⟩, ⟨sqK BK386⟩, ⟨sqB HB⟩⟩
    case round =>
     clear H'; try clear c13b0
     obtain ⟨x8_2, x387000_2, x387001_2, rfl, HA, HK2, HO_5, BK381, BK382, BK386, HB⟩ := hrel
     cases gk with
     | zero => exact absurd HA.out (by simp [rf_Amount.l1])
     | succ k2 =>
      have H := HA.out; clear HA; simp only [rf_Amount.l1] at H; have HC14 := Aside0.mk H
      clear H; go_upto_region 6 with (fail)
      go_cut [29] (fun v29 wc => ∃ (kq : Nat) (x29_13 : Bool), v29 = .bool x29_13 ∧ Aside0 (rf_Amount.j2 kq a1 t383 x7_1 x8_2 x29_13 l0_0 l0_1 x387000_2 x387001_2 = some (r1, r2)) ∧ Aside0 (kq ≤ k2) ∧ Aside0 (Kd.S (Kd.slice 4 Kd.bool) 104 wc w.heap.size (fun _ => True) v384 t383) ∧ Aside0 (wc.heap[gb381]? = some (.cells #[(.slice A0_0 l0_0.length c0_0), (.slice A0_1 l0_1.length c0_1)] 25 (0, 0))) ∧ Aside0 (wc.heap[gb382]? = some (.cells #[.int .i64 0, .int .i64 0] 41 (0, 0))) ∧ Aside0 (wc.heap[gb386]? = some (.cells #[.int .i64 x387000_2, .int .i64 x387001_2] 41 (0, 0))) ∧ Aside0 (Below w.heap.size w wc))
      case first =>
       have H := HC14.out; clear HC14
       by_cases c15 : x8_2 ≤ x7_1
       ·rw [if_pos c15] at H
        have c15b0 : decide (x8_2 ≤ x7_1) = true := decide_eq_true c15; clear c15
        (first | rw [c15b0] | (simp only [i64_w, i32_w]; rw [c15b0]) | skip)
        by_cases c16 : 0 ≤ a1
        ·rw [if_pos c16] at H
         have c16b0 : decide (0 ≤ a1) = true := decide_eq_true c16; clear c16
         by_cases c17 : a1 < (t383.length : Int)
         ·rw [if_pos c17] at H
          have c17b0 : decide (a1 < (t383.length : Int)) = true := decide_eq_true c17; clear c17
          by_cases c18 : 0 ≤ x7_1
          ·rw [if_pos c18] at H
           have c18b0 : decide (0 ≤ x7_1) = true := decide_eq_true c18; clear c18
           by_cases c19 : x7_1 < ((rd_L9 t383 a1).length : Int)
           ·rw [if_pos c19] at H
            have c19b0 : decide (x7_1 < ((rd_L9 t383 a1).length : Int)) = true := decide_eq_true c19; clear c19; have H' := Aside0.mk H; clear H; obtain ⟨Ao20, co20, eo20⟩ := Kd.S_slice HO_5.out; subst eo20; have p387 : 0 ≤ (a1 : Int) := sqD; have q387 : a1 < (t383.length : Int) := sqD; obtain ⟨ad387, A387_0, c387_0, e387, hx387_0, hl387_0, hi387_0⟩ := at_L9 (Kd.S_reads' HO_5.out).2.2 a1 p387 q387
            cases e387
            obtain ⟨ce387, hce387, hMe387, hcc387⟩ := Kd.S_get HO_5.out [] a1 p387 (by first | exact q387 | exact sqD | (have e_ := (Kd.S_reads' HO_5.out).1; omega)); obtain ⟨ve387_0, rfl, ge387_0⟩ := hMe387; have hv387_0 := hcc387 0 _ rfl; rw [Nat.add_zero, show ((Kd.slice 4 Kd.bool)).sz = 1 from rfl, Nat.mul_one] at hv387_0; replace hv387_0 := Option.some.inj (hv387_0.symm.trans hx387_0); rw [hv387_0] at ge387_0; have HL387_0 := Aside0.mk (show Kd.R Kd.bool 4 _ _ _ _ (rd_L9 t383 a1) from ge387_0); clear hv387_0 ge387_0 hcc387 hce387; have HR387_0 := Aside0.mk hi387_0; have HC387_0 := Aside0.mk hl387_0; clear hi387_0 hl387_0; replace p387 := eq_true p387; replace q387 := eq_true q387; have p388 : 0 ≤ (x7_1 : Int) := sqD; have q388 : x7_1 < ((rd_L9 t383 a1).length : Int) := sqD; obtain ⟨ad388, e388, hx388_0⟩ := Kd.at_bool (sqC HR387_0) x7_1 p388 q388
            cases e388
            replace p388 := eq_true p388; replace q388 := eq_true q388
            go_wp2
            go_meet
            case rel => exact ⟨_, (rdOf false (rd_L9 t383 a1) x7_1), sqE, H', ⟨by have := HK1.out; have := HK2.out; first | omega | exact Nat.le_refl _⟩, ⟨sqS HO_5⟩, ⟨sqK BK381⟩, ⟨sqK BK382⟩, ⟨sqK BK386⟩, ⟨sqB HB⟩⟩
           ·rw [if_neg c19] at H
            exact absurd H (by simp)
          ·rw [if_neg c18] at H
           exact absurd H (by simp)
         ·rw [if_neg c17] at H
          exact absurd H (by simp)
        ·rw [if_neg c16] at H
         exact absurd H (by simp)
       ·rw [if_neg c15] at H
        have c15b0 : decide (x8_2 ≤ x7_1) = false := decide_eq_false c15; clear c15
        (first | rw [c15b0] | (simp only [i64_w, i32_w]; rw [c15b0]) | skip)
        have H' := Aside0.mk H; clear H; go_wp2
        go_meet
        case rel => exact ⟨_, (false), sqE, H', ⟨by have := HK1.out; have := HK2.out; first | omega | exact Nat.le_refl _⟩, ⟨sqS HO_5⟩, ⟨sqK BK381⟩, ⟨sqK BK382⟩, ⟨sqK BK386⟩, ⟨sqB HB⟩⟩
      case rest =>
       clear HC14; obtain ⟨kq, x29_13, rfl, HA, HJ13, HO_5, BK381, BK382, BK386, HB⟩ := hcut
       cases kq with
       | zero => exact absurd HA.out (by simp [rf_Amount.j2])
       | succ kj13 =>
        have H := HA.out; clear HA; simp only [rf_Amount.j2] at H
        by_cases c21 : x29_13 = true
        ·subst c21
         rw [if_pos rfl] at H; have HC22 := Aside0.mk H
         clear H; go_upto_region 8 with (fail)
         go_cut [48] (fun v48 wc => ∃ (kq : Nat) (x48_21 : Bool), v48 = .bool x48_21 ∧ Aside0 (rf_Amount.j3 kq a1 t383 x7_1 x8_2 x48_21 l0_0 l0_1 x387000_2 x387001_2 = some (r1, r2)) ∧ Aside0 (kq ≤ kj13) ∧ Aside0 (Kd.S (Kd.slice 4 Kd.bool) 104 wc w.heap.size (fun _ => True) v384 t383) ∧ Aside0 (wc.heap[gb381]? = some (.cells #[(.slice A0_0 l0_0.length c0_0), (.slice A0_1 l0_1.length c0_1)] 25 (0, 0))) ∧ Aside0 (wc.heap[gb382]? = some (.cells #[.int .i64 0, .int .i64 0] 41 (0, 0))) ∧ Aside0 (wc.heap[gb386]? = some (.cells #[.int .i64 x387000_2, .int .i64 x387001_2] 41 (0, 0))) ∧ Aside0 (Below w.heap.size w wc))
         case first =>
          have H := HC22.out; clear HC22; obtain ⟨ji23, hji23⟩ : ∃ j_ : Int, (wrap64 (a1 + 1)) = j_ := ⟨_, rfl⟩
          replace H : (if 0 ≤ (ji23) then (if (ji23) < (t383.length : Int) then (if 0 ≤ x8_2 then (if x8_2 < ((rd_L9 t383 (ji23)).length : Int) then (if (rdOf false (rd_L9 t383 (ji23)) x8_2 = true) then ((rf_Step.f l0_0 l0_1 a1 x7_1 x8_2 true).bind fun t391 => (rf_Amount.j3 kj13 a1 t383 x7_1 x8_2 (!t391) l0_0 l0_1 x387000_2 x387001_2)) else (rf_Amount.j3 kj13 a1 t383 x7_1 x8_2 true l0_0 l0_1 x387000_2 x387001_2)) else (none)) else (none)) else (none)) else (none)) = some (r1, r2) := by first | (rw [hji23] at H; exact H) | (simp only [hji23] at H ⊢; exact H)
          have hji23w : (IntKind.i64.wrap (a1 + 1)) = ji23 := (i64_w _).trans hji23
          by_cases c24 : 0 ≤ (ji23)
          ·rw [if_pos c24] at H
           have c24b0 : decide (0 ≤ (ji23)) = true := decide_eq_true c24; clear c24
           (first | rw [c24b0] | (simp only [i64_w, i32_w]; rw [c24b0]) | skip)
           by_cases c25 : (ji23) < (t383.length : Int)
           ·rw [if_pos c25] at H
            have c25b0 : decide ((ji23) < (t383.length : Int)) = true := decide_eq_true c25; clear c25
            by_cases c26 : 0 ≤ x8_2
            ·rw [if_pos c26] at H
             have c26b0 : decide (0 ≤ x8_2) = true := decide_eq_true c26; clear c26
             by_cases c27 : x8_2 < ((rd_L9 t383 (ji23)).length : Int)
             ·rw [if_pos c27] at H
              have c27b0 : decide (x8_2 < ((rd_L9 t383 (ji23)).length : Int)) = true := decide_eq_true c27; clear c27; obtain ⟨bq28, hbq28⟩ : ∃ b_ : Bool, b_ = (rdOf false (rd_L9 t383 (ji23)) x8_2) := ⟨_, rfl⟩
              replace H : (if (bq28 = true) then ((rf_Step.f l0_0 l0_1 a1 x7_1 x8_2 true).bind fun t391 => (rf_Amount.j3 kj13 a1 t383 x7_1 x8_2 (!t391) l0_0 l0_1 x387000_2 x387001_2)) else (rf_Amount.j3 kj13 a1 t383 x7_1 x8_2 true l0_0 l0_1 x387000_2 x387001_2)) = some (r1, r2) := by rw [← hbq28] at H; exact H
              have Nbq28 := Aside0.mk hbq28; clear hbq28
              by_cases c29 : (bq28 = true)
              ·subst c29
               rw [if_pos rfl] at H; obtain ⟨t391, A300, H⟩ := Option.bind_eq_some_iff.mp H; have A30 := Aside0.mk A300; clear A300; have H' := Aside0.mk H; clear H; obtain ⟨Ao31, co31, eo31⟩ := Kd.S_slice HO_5.out; subst eo31; have p389 : 0 ≤ ((ji23) : Int) := sqD; have q389 : (ji23) < (t383.length : Int) := sqD; obtain ⟨ad389, A389_0, c389_0, e389, hx389_0, hl389_0, hi389_0⟩ := at_L9 (Kd.S_reads' HO_5.out).2.2 (ji23) p389 q389
               cases e389
               obtain ⟨ce389, hce389, hMe389, hcc389⟩ := Kd.S_get HO_5.out [] (ji23) p389 (by first | exact q389 | exact sqD | (have e_ := (Kd.S_reads' HO_5.out).1; omega)); obtain ⟨ve389_0, rfl, ge389_0⟩ := hMe389; have hv389_0 := hcc389 0 _ rfl; rw [Nat.add_zero, show ((Kd.slice 4 Kd.bool)).sz = 1 from rfl, Nat.mul_one] at hv389_0; replace hv389_0 := Option.some.inj (hv389_0.symm.trans hx389_0); rw [hv389_0] at ge389_0; have HL389_0 := Aside0.mk (show Kd.R Kd.bool 4 _ _ _ _ (rd_L9 t383 (ji23)) from ge389_0); clear hv389_0 ge389_0 hcc389 hce389; have HR389_0 := Aside0.mk hi389_0; have HC389_0 := Aside0.mk hl389_0; clear hi389_0 hl389_0; replace p389 := eq_true p389; replace q389 := eq_true q389; have p390 : 0 ≤ (x8_2 : Int) := sqD; have q390 : x8_2 < ((rd_L9 t383 (ji23)).length : Int) := sqD; obtain ⟨ad390, e390, hx390_0⟩ := Kd.at_bool (sqC HR389_0) x8_2 p390 q390
               (try rw [← Nbq28.out] at hx390_0)
               cases e390
               replace p390 := eq_true p390; replace q390 := eq_true q390; have hnb32 := NB381_382.out; have hnc32 := NB382_381.out; have hnb33 := NB381_386.out; have hnc33 := NB386_381.out; have hcz34_0 := sqc0 BK381; have hcz34_1 := sqc1 BK381; have hfz34_0 := blk_frozen BK381.out 0; have hfz34_1 := blk_frozen BK381.out 1
               go_wp2_with (first | (go_at_call 65; (with_reducible refine (rf_Step.calls _ _ l0_0 _ _ l0_1 a1 x7_1 x8_2 true t391 _ ?side1 ?side2 ?side3 ?side4 A30.out).mono ?_); (case side1 => exact sqQ HR0_0 HB); (case side2 => exact HC0_0.out); (case side3 => exact sqQ HR0_1 HB); (case side4 => exact HC0_1.out); rintro e w35 ⟨rfl, hb⟩; replace HO_5 := Aside0.mk (Kd.S_below (sqS HO_5) hb); replace HL389_0 := Aside0.mk (Kd.R_below (sqR HL389_0) hb); replace BK381 := sqk BK381 hb; replace BK382 := sqk BK382 hb; replace BK386 := sqk BK386 hb; replace HR389_0 := Aside0.mk (Kd.C_below (sqC HR389_0) hb); replace HB := sqb hb HB; (try clear hb); (try clear hb2); (try clear hk); (try clear hi)))
               go_meet
               case rel => exact ⟨_, (!t391), sqE, H', ⟨by have := HK1.out; have := HK2.out; have := HJ13.out; first | omega | exact Nat.le_refl _⟩, ⟨sqS HO_5⟩, ⟨sqK BK381⟩, ⟨sqK BK382⟩, ⟨sqK BK386⟩, ⟨sqB HB⟩⟩
              ·replace c29 := Bool.eq_false_iff.mpr c29
               subst c29; rw [if_neg Bool.false_ne_true] at H; have H' := Aside0.mk H; clear H; obtain ⟨Ao36, co36, eo36⟩ := Kd.S_slice HO_5.out; subst eo36; have p389 : 0 ≤ ((ji23) : Int) := sqD; have q389 : (ji23) < (t383.length : Int) := sqD; obtain ⟨ad389, A389_0, c389_0, e389, hx389_0, hl389_0, hi389_0⟩ := at_L9 (Kd.S_reads' HO_5.out).2.2 (ji23) p389 q389
               cases e389
               obtain ⟨ce389, hce389, hMe389, hcc389⟩ := Kd.S_get HO_5.out [] (ji23) p389 (by first | exact q389 | exact sqD | (have e_ := (Kd.S_reads' HO_5.out).1; omega)); obtain ⟨ve389_0, rfl, ge389_0⟩ := hMe389; have hv389_0 := hcc389 0 _ rfl; rw [Nat.add_zero, show ((Kd.slice 4 Kd.bool)).sz = 1 from rfl, Nat.mul_one] at hv389_0; replace hv389_0 := Option.some.inj (hv389_0.symm.trans hx389_0); rw [hv389_0] at ge389_0; have HL389_0 := Aside0.mk (show Kd.R Kd.bool 4 _ _ _ _ (rd_L9 t383 (ji23)) from ge389_0); clear hv389_0 ge389_0 hcc389 hce389; have HR389_0 := Aside0.mk hi389_0; have HC389_0 := Aside0.mk hl389_0; clear hi389_0 hl389_0; replace p389 := eq_true p389; replace q389 := eq_true q389; have p390 : 0 ≤ (x8_2 : Int) := sqD; have q390 : x8_2 < ((rd_L9 t383 (ji23)).length : Int) := sqD; obtain ⟨ad390, e390, hx390_0⟩ := Kd.at_bool (sqC HR389_0) x8_2 p390 q390
               (try rw [← Nbq28.out] at hx390_0)
               cases e390
               replace p390 := eq_true p390; replace q390 := eq_true q390
               go_wp2
               go_meet
               case rel => exact ⟨_, (true), sqE, H', ⟨by have := HK1.out; have := HK2.out; have := HJ13.out; first | omega | exact Nat.le_refl _⟩, ⟨sqS HO_5⟩, ⟨sqK BK381⟩, ⟨sqK BK382⟩, ⟨sqK BK386⟩, ⟨sqB HB⟩⟩
             ·rw [if_neg c27] at H
              exact absurd H (by simp)
            ·rw [if_neg c26] at H
             exact absurd H (by simp)
           ·rw [if_neg c25] at H
            exact absurd H (by simp)
          ·rw [if_neg c24] at H
           exact absurd H (by simp)
         case rest =>
          clear HC22; try clear c21
          obtain ⟨kq, x48_21, rfl, HA, HJ21, HO_5, BK381, BK382, BK386, HB⟩ := hcut
          cases kq with
          | zero => exact absurd HA.out (by simp [rf_Amount.j3])
          | succ kj21 =>
           have H := HA.out; clear HA; simp only [rf_Amount.j3] at H
           by_cases c37 : x48_21 = true
           ·subst c37
            rw [if_pos rfl] at H; have H' := Aside0.mk H; clear H; go_wp2
            go_roundg kj21
            case measure => have := HK1.out; have := HK2.out; have := HJ13.out; have := HJ21.out; omega
            case rel => exact ⟨(wrap64 (x8_2 + 1)), (x387000_2), (x387001_2), sqE, H', ⟨by have := HK1.out; have := HK2.out; have := HJ13.out; have := HJ21.out; omega⟩, ⟨sqS HO_5⟩, ⟨sqK BK381⟩, ⟨sqK BK382⟩, ⟨sqK BK386⟩, ⟨sqB HB⟩⟩
           ·replace c37 := Bool.eq_false_iff.mpr c37
            subst c37; rw [if_neg Bool.false_ne_true] at H
            by_cases c38 : 0 ≤ a1
            ·rw [if_pos c38] at H
             have c38b0 : decide (0 ≤ a1) = true := decide_eq_true c38; clear c38
             by_cases c39 : a1 < (l0_0.length : Int)
             ·rw [if_pos c39] at H
              have c39b0 : decide (a1 < (l0_0.length : Int)) = true := decide_eq_true c39; clear c39; obtain ⟨t393, A400, H⟩ := Option.bind_eq_some_iff.mp H; have A40 := Aside0.mk A400; clear A400; obtain ⟨ji41, hji41⟩ : ∃ j_ : Int, (mx 1 (wrap64 (t393 - x8_2))) = j_ := ⟨_, rfl⟩
              replace H : (if x387000_2 < 0 then ((rf_Greatest.f ((rd_T41 l0_0 a1).f0) ((rd_T41 l0_0 a1).f1) x7_1).bind fun t395 => (rf_Amount.l1 kj21 a1 t383 x7_1 (wrap64 (x8_2 + 1)) l0_0 l0_1 ji41 (mx x387001_2 (wrap64 (t395 - x8_2))))) else (if (ji41) < x387000_2 then ((rf_Greatest.f ((rd_T41 l0_0 a1).f0) ((rd_T41 l0_0 a1).f1) x7_1).bind fun t397 => (rf_Amount.l1 kj21 a1 t383 x7_1 (wrap64 (x8_2 + 1)) l0_0 l0_1 ji41 (mx x387001_2 (wrap64 (t397 - x8_2))))) else ((rf_Greatest.f ((rd_T41 l0_0 a1).f0) ((rd_T41 l0_0 a1).f1) x7_1).bind fun t399 => (rf_Amount.l1 kj21 a1 t383 x7_1 (wrap64 (x8_2 + 1)) l0_0 l0_1 x387000_2 (mx x387001_2 (wrap64 (t399 - x8_2))))))) = some (r1, r2) := by first | (rw [hji41] at H; exact H) | (simp only [hji41] at H ⊢; exact H)
              (try rw [hji41] at A40)
              have hji41_ : (if 1 < (wrap64 (t393 - x8_2)) then (wrap64 (t393 - x8_2)) else 1) = ji41 := hji41
              by_cases c42 : x387000_2 < 0
              ·rw [if_pos c42] at H
               have c42b0 : decide (x387000_2 < 0) = true := decide_eq_true c42; clear c42; obtain ⟨t395, A430, H⟩ := Option.bind_eq_some_iff.mp H; have A43 := Aside0.mk A430; clear A430; obtain ⟨ji44, hji44⟩ : ∃ j_ : Int, (mx x387001_2 (wrap64 (t395 - x8_2))) = j_ := ⟨_, rfl⟩
               replace H : (rf_Amount.l1 kj21 a1 t383 x7_1 (wrap64 (x8_2 + 1)) l0_0 l0_1 ji41 ji44) = some (r1, r2) := by first | (rw [hji44] at H; exact H) | (simp only [hji44] at H ⊢; exact H)
               (try rw [hji44] at A40)
               (try rw [hji44] at A43)
               have hji44_ : (if x387001_2 < (wrap64 (t395 - x8_2)) then (wrap64 (t395 - x8_2)) else x387001_2) = ji44 := hji44; have H' := Aside0.mk H; clear H; have hnb45 := NB381_382.out; have hnc45 := NB382_381.out; have hnb46 := NB381_386.out; have hnc46 := NB386_381.out; have hcz47_0 := sqc0 BK381; have hcz47_1 := sqc1 BK381; have hfz47_0 := blk_frozen BK381.out 0; have hfz47_1 := blk_frozen BK381.out 1; have p392 : 0 ≤ (a1 : Int) := sqD; have q392 : a1 < (l0_0.length : Int) := sqD; obtain ⟨ad392, e392, hx392_0, hx392_1⟩ := at_T41 HR0_0.out a1 p392 q392
               cases e392
               replace hx392_0 := (HB.out.cell (World.block_lt_of_cell? w _ hx392_0)).trans hx392_0; replace hx392_1 := (HB.out.cell (World.block_lt_of_cell? w _ hx392_1)).trans hx392_1; replace p392 := eq_true p392; replace q392 := eq_true q392
               try go_wp2_with (first | ((with_reducible refine gate_callee (f := 74) rfl ?_); refine goesL_ (some 55) rfl rfl Tryd.func74 sqF rfl #[.agg #[.int .i64 ((rd_T41 l0_0 a1).f0), .int .i64 ((rd_T41 l0_0 a1).f1)], .int .i64 x7_1] rfl sqM ?_; (with_reducible refine (rf_Least.calls ((rd_T41 l0_0 a1).f0) ((rd_T41 l0_0 a1).f1) x7_1 t393 _ A40.out).mono ?_); rintro e w48 ⟨rfl, hb⟩; refine ⟨_, rfl, ?_⟩; replace HO_5 := Aside0.mk (Kd.S_below (sqS HO_5) hb); replace BK381 := sqk BK381 hb; replace BK382 := sqk BK382 hb; replace BK386 := sqk BK386 hb; replace HB := sqb hb HB; (try clear hb); (try clear hb2); (try clear hk); (try clear hi); have hnb49 := NB386_382.out; have hnc49 := NB382_386.out; have hcz50_0 := sqc0 BK386; have hcz50_1 := sqc1 BK386; have hfz50_0 := blk_frozen BK386.out 0; have hfz50_1 := blk_frozen BK386.out 1))
               have n0_ : Aside0 (Kd.S (Kd.slice 4 Kd.bool) 104 (w48.setCell ⟨gb386, 0, none⟩ (.int .i64 ji41)) w.heap.size (fun _ => True) v384 t383) := ⟨by (with_reducible repeat (first | apply Kd.S_alloc | apply Kd.S_drewN | apply Kd.S_drew)); exact Kd.S_mono (Kd.S_far (p := ⟨gb386, 0, none⟩) (Kd.S_types HO_5.out BK386.out (by decide)) (fun _ hk => hk.2) (.int .i64 ji41)) (fun _ hk => trivial)⟩; have n1_ : Aside0 ((w48.setCell ⟨gb386, 0, none⟩ (.int .i64 ji41)).heap[gb381]? = some (.cells #[.slice (some ad392) l0_0.length c0_0, .slice A0_1 l0_1.length c0_1] 25 (0, 0))) := ⟨sqX⟩; have n2_ : Aside0 ((w48.setCell ⟨gb386, 0, none⟩ (.int .i64 ji41)).heap[gb382]? = some (.cells #[.int .i64 0, .int .i64 0] 41 (0, 0))) := ⟨sqX⟩; have n3_ : Aside0 ((w48.setCell ⟨gb386, 0, none⟩ (.int .i64 ji41)).heap[gb386]? = some (.cells #[.int .i64 ji41, .int .i64 x387001_2] 41 (0, 0))) := ⟨by (with_reducible repeat (first | refine blk_drewN ?_ _ | refine blk_drew ?_ | refine blk_alloc ?_ _)); refine blk_put (cs := #[.int .i64 x387000_2, .int .i64 x387001_2]) ?_ 0 _ rfl; (with_reducible repeat (first | refine blk_drewN ?_ _ | refine blk_drew ?_ | refine blk_alloc ?_ _)); exact BK386.out⟩; have n4_ : Aside0 (Below w.heap.size w (w48.setCell ⟨gb386, 0, none⟩ (.int .i64 ji41))) := ⟨sqB HB⟩; (try clear HO_5); (try clear BK381); (try clear BK382); (try clear BK386); (try clear HB)
               generalize (w48.setCell ⟨gb386, 0, none⟩ (.int .i64 ji41)) = w51 at n0_ n1_ n2_ n3_ n4_ ⊢
               have HO_5 := n0_; have BK381 := n1_; have BK382 := n2_; have BK386 := n3_; have HB := n4_; clear n0_ n1_ n2_ n3_ n4_; have n0_ := Aside0.mk (Kd.S_drew HO_5.out); have n1_ := Aside0.mk (blk_drew BK381.out); have n2_ := Aside0.mk (blk_drew BK382.out); have n3_ := Aside0.mk (blk_drew BK386.out); have n4_ := Aside0.mk (below_drew1 HB.out); clear HO_5 BK381 BK382 BK386 HB; have HO_5 := n0_; have BK381 := n1_; have BK382 := n2_; have BK386 := n3_; have HB := n4_; clear n0_ n1_ n2_ n3_ n4_; have p394 : 0 ≤ (a1 : Int) := sqD; have q394 : a1 < (l0_0.length : Int) := sqD; obtain ⟨ad394, e394, hx394_0, hx394_1⟩ := at_T41 HR0_0.out a1 p394 q394; have hw394_1 := hx394_1; have hw394_0 := hx394_0; obtain rfl : ad392 = ad394 := (by injection e394); replace hx394_0 := (HB.out.cell (World.block_lt_of_cell? w _ hx394_0)).trans hx394_0; replace hx394_1 := (HB.out.cell (World.block_lt_of_cell? w _ hx394_1)).trans hx394_1; replace p394 := eq_true p394; replace q394 := eq_true q394; refine start_ (n := 14) (S := fun w' => w'.cell? ⟨gb386, 0, none⟩ = some (.int .i64 ji41) ∧ w'.cell? ⟨gb386, 1, none⟩ = some (.int .i64 x387001_2) ∧ w'.cell? ⟨gb381, 0, none⟩ = some (.slice (some ad392) l0_0.length c0_0) ∧ w'.cell? ⟨gb381, 1, none⟩ = some (.slice A0_1 l0_1.length c0_1) ∧ w'.cell? (ad392.add ((a1).toNat * 2)) = some (.int .i64 ((rd_T41 l0_0 a1).f0)) ∧ w'.cell? ⟨(ad392.add ((a1).toNat * 2)).block, (ad392.add ((a1).toNat * 2)).off + 1, none⟩ = some (.int .i64 ((rd_T41 l0_0 a1).f1))) (ds := [13]) (bm 14 0) sqF rfl rfl ⟨(blk_cell BK386.out 0).trans rfl, (blk_cell BK386.out 1).trans rfl, (blk_cell BK381.out 0).trans rfl, (blk_cell BK381.out 1).trans rfl, ((HB.out.cell (World.block_lt_of_cell? w _ hw394_0)).trans hw394_0), ((HB.out.cell (World.block_lt_of_cell? w _ hw394_1)).trans hw394_1)⟩ (fun hHeld => ?_); refine with_tabW rf_Amount.tab12 rf_Amount.bits12 (fun HT_ HW_ => ?_)
               generalize w51.drew = w52 at HO_5 BK381 BK382 BK386 HB hx394_0 hx394_1 hHeld ⊢
               refine pure_ (i := 0) (N := some 70) (v := ?_) (a' := ?_) (bm 14 1) rfl rfl (any_of HT_.out sqF) (fun _ _ _ h => h) (Or.inl ⟨by rfl, ?_⟩) ?_ ?_
               rotate_left
               ·intro w'
                go_simp; with_reducible rfl
               rotate_left
               ·simp only [Act.put, sqA, i64_w, i32_w]; rfl
               refine pure_ (i := 2) (N := some 72) (v := ?_) (a' := ?_) (bm 14 5) rfl rfl (any_of HT_.out sqF) (fun _ _ _ h => h) (Or.inl ⟨by rfl, ?_⟩) ?_ ?_
               rotate_left
               ·intro w'
                go_simp; with_reducible rfl
               rotate_left
               ·simp only [Act.put, sqA, i64_w, i32_w]; rfl
               refine pure_ (i := 4) (N := some 74) (v := ?_) (a' := ?_) (bm 14 21) rfl rfl (any_of HT_.out sqF) (fun _ _ _ h => h) (Or.inl ⟨by rfl, ?_⟩) ?_ ?_
               rotate_left
               ·intro w'
                go_simp; with_reducible rfl
               rotate_left
               ·simp only [Act.put, sqA, i64_w, i32_w]; rfl
               refine pure_ (i := 7) (N := some 77) (v := ?_) (a' := ?_) (bm 14 149) rfl rfl (any_of HT_.out sqF) (fun _ _ _ h => h) (Or.inl ⟨by rfl, ?_⟩) ?_ ?_
               rotate_left
               ·intro w'
                go_simp; with_reducible rfl
               rotate_left
               ·simp only [Act.put, sqA, i64_w, i32_w]; rfl
               refine pure_ (i := 9) (N := some 79) (v := ?_) (a' := ?_) (bm 14 661) rfl rfl (any_of HT_.out sqF) (fun _ _ _ h => h) (Or.inl ⟨by rfl, ?_⟩) ?_ ?_
               rotate_left
               ·intro w'
                go_simp; with_reducible rfl
               rotate_left
               ·simp only [Act.put, sqA, i64_w, i32_w]; rfl
               refine take_ (i := 1) (N := some 71) (v := ?_) (a' := ?_) (bm 14 663) rfl rfl (take_ofW HT_.out HW_.out sqF) (fun _ _ _ h => h) (Or.inl ⟨by rfl, ?_⟩) hHeld ?_ ?_
               rotate_left
               ·rintro w' ⟨s0, s1, s2, s3, s4, s5⟩
                go_simp; with_reducible rfl
               rotate_left
               ·simp only [Act.put, sqA, i64_w, i32_w]; rfl
               refine take_ (i := 3) (N := some 73) (v := ?_) (a' := ?_) (bm 14 671) rfl rfl (take_ofW HT_.out HW_.out sqF) (fun _ _ _ h => h) (Or.inl ⟨by rfl, ?_⟩) hHeld ?_ ?_
               rotate_left
               ·rintro w' ⟨s0, s1, s2, s3, s4, s5⟩
                go_simp; with_reducible rfl
               rotate_left
               ·simp only [Act.put, sqA, i64_w, i32_w]; rfl
               refine pure_ (i := 5) (N := some 75) (v := ?_) (a' := ?_) (bm 14 703) rfl rfl (any_of HT_.out sqF) (fun _ _ _ h => h) (Or.inl ⟨by rfl, ?_⟩) ?_ ?_
               rotate_left
               ·intro w'
                go_simp; with_reducible rfl
               rotate_left
               ·simp only [Act.put, sqA, i64_w, i32_w]; rfl
               refine take_ (i := 6) (N := some 76) (v := ?_) (a' := ?_) (bm 14 767) rfl rfl (take_ofW HT_.out HW_.out sqF) (fun _ _ _ h => h) (Or.inl ⟨by rfl, ?_⟩) hHeld ?_ ?_
               rotate_left
               ·rintro w' ⟨s0, s1, s2, s3, s4, s5⟩
                go_simp; with_reducible rfl
               rotate_left
               ·simp only [Act.put, sqA, i64_w, i32_w]; rfl
               refine one_ (i := 8) (N := some 78) (bm 14 1023) rfl rfl (one_of HT_.out sqF) (by decide) (fun K hK => ?_); refine goes_ Tryd.func75 sqF rfl #[.agg #[.int .i64 ((rd_T41 l0_0 a1).f0), .int .i64 ((rd_T41 l0_0 a1).f1)], .int .i64 x7_1] (by rfl) rfl rfl sqM ?_
               with_reducible refine (rf_Greatest.calls ((rd_T41 l0_0 a1).f0) ((rd_T41 l0_0 a1).f1) x7_1 t395 _ A43.out).mono ?_
               rintro e w53 ⟨rfl, hb⟩; refine ⟨_, rfl, ?_⟩; have n0_ := Aside0.mk (Kd.S_below (sqS HO_5) hb); have n1_ := Aside0.mk (blk_below (g := gb381) (o := .cells #[.slice (some ad392) l0_0.length c0_0, .slice A0_1 l0_1.length c0_1] 25 (0, 0)) (sqK BK381) hb); have n2_ := Aside0.mk (blk_below (g := gb382) (o := .cells #[.int .i64 0, .int .i64 0] 41 (0, 0)) (sqK BK382) hb); have n3_ := Aside0.mk (blk_below (g := gb386) (o := .cells #[.int .i64 ji41, .int .i64 x387001_2] 41 (0, 0)) (sqK BK386) hb); have n4_ := Aside0.mk (below_step (sqB HB) hb); clear HO_5 BK381 BK382 BK386 HB; have HO_5 := n0_; have BK381 := n1_; have BK382 := n2_; have BK386 := n3_; have HB := n4_; clear n0_ n1_ n2_ n3_ n4_; (try clear hb); (try clear hb2); (try clear hk); (try clear hi); refine hK.out _ _ ⟨(blk_cell BK386.out 0).trans rfl, (blk_cell BK386.out 1).trans rfl, (blk_cell BK381.out 0).trans rfl, (blk_cell BK381.out 1).trans rfl, ((HB.out.cell (World.block_lt_of_cell? w _ hw394_0)).trans hw394_0), ((HB.out.cell (World.block_lt_of_cell? w _ hw394_1)).trans hw394_1)⟩ (fun hHeld => ?_); clear hK K; refine norm_ (a' := ?_) ?_ ?_
               rotate_left
               ·show Act.put _ (some 78) _ = _
                simp only [Act.put, sqA, i64_w, i32_w]; rfl
               refine pure_ (i := 10) (N := some 80) (v := ?_) (a' := ?_) (bm 14 2047) rfl rfl (any_of HT_.out sqF) (fun _ _ _ h => h) (Or.inl ⟨by rfl, ?_⟩) ?_ ?_
               rotate_left
               ·intro w'
                go_simp; with_reducible rfl
               rotate_left
               ·simp only [Act.put, sqA, i64_w, i32_w]; rfl
               refine pure_ (i := 11) (N := some 81) (v := ?_) (a' := ?_) (bm 14 4095) rfl rfl (any_of HT_.out sqF) (fun _ _ _ h => h) (Or.inl ⟨by rfl, ?_⟩) ?_ ?_
               rotate_left
               ·intro w'
                go_simp; with_reducible rfl
               rotate_left
               ·simp only [Act.put, sqA, i64_w, i32_w]; rfl
               refine pure_ (i := 12) (N := some 82) (v := ?_) (a' := ?_) (bm 14 8191) rfl rfl (any_of HT_.out sqF) (fun _ _ _ h => h) (Or.inl ⟨by rfl, ?_⟩) ?_ ?_
               rotate_left
               ·intro w'
                go_simp; with_reducible rfl
               rotate_left
               ·simp only [Act.put, sqA, i64_w, i32_w]; rfl
               refine last_ (i := 13) (N := none) (bm 14 16383) rfl rfl (one_of HT_.out sqF) (by decide) (fun K hK => ?_); have hs54 : w53.cell? ⟨gb386, 1, none⟩ = some (.int .i64 x387001_2) := (blk_cell BK386.out 1).trans rfl; have hfs54 := blk_frozen BK386.out 1; have hns54_0 := NB381_386.out; have hns54_1 := NB382_386.out; have hms54_0 := NB386_381.out; have hms54_1 := NB386_382.out; refine skip_ (w1 := ?_) (by rfl) rfl ?_ ?_
               rotate_left
               ·go_simp
                rfl
               refine hK.out _ _ ?_; clear hK K; refine done_ (done_of HT_.out sqF) ?_
               try go_wp2
               go_roundg kj21
               case measure => have := HK1.out; have := HK2.out; have := HJ13.out; have := HJ21.out; omega
               case rel => exact ⟨(wrap64 (x8_2 + 1)), (ji41), (ji44), sqE, H', ⟨by have := HK1.out; have := HK2.out; have := HJ13.out; have := HJ21.out; omega⟩, ⟨by (with_reducible repeat (first | apply Kd.S_alloc | apply Kd.S_drewN | apply Kd.S_drew)); exact Kd.S_mono (Kd.S_far (p := ⟨gb386, 1, none⟩) (Kd.S_types HO_5.out BK386.out (by decide)) (fun _ hk => hk.2) (.int .i64 ji44)) (fun _ hk => trivial)⟩, ⟨sqX⟩, ⟨sqX⟩, ⟨by (with_reducible repeat (first | refine blk_drewN ?_ _ | refine blk_drew ?_ | refine blk_alloc ?_ _)); refine blk_put (cs := #[.int .i64 ji41, .int .i64 x387001_2]) ?_ 1 _ rfl; (with_reducible repeat (first | refine blk_drewN ?_ _ | refine blk_drew ?_ | refine blk_alloc ?_ _)); exact BK386.out⟩, ⟨sqB HB⟩⟩
              ·rw [if_neg c42] at H
               have c42b0 : decide (x387000_2 < 0) = false := decide_eq_false c42; clear c42
               by_cases c55 : (ji41) < x387000_2
               ·rw [if_pos c55] at H
                have c55b0 : decide ((ji41) < x387000_2) = true := decide_eq_true c55; clear c55; obtain ⟨t397, A560, H⟩ := Option.bind_eq_some_iff.mp H; have A56 := Aside0.mk A560; clear A560; obtain ⟨ji57, hji57⟩ : ∃ j_ : Int, (mx x387001_2 (wrap64 (t397 - x8_2))) = j_ := ⟨_, rfl⟩
                replace H : (rf_Amount.l1 kj21 a1 t383 x7_1 (wrap64 (x8_2 + 1)) l0_0 l0_1 ji41 ji57) = some (r1, r2) := by first | (rw [hji57] at H; exact H) | (simp only [hji57] at H ⊢; exact H)
                (try rw [hji57] at A40)
                (try rw [hji57] at A56)
                have hji57_ : (if x387001_2 < (wrap64 (t397 - x8_2)) then (wrap64 (t397 - x8_2)) else x387001_2) = ji57 := hji57; have H' := Aside0.mk H; clear H; have hnb58 := NB381_382.out; have hnc58 := NB382_381.out; have hnb59 := NB381_386.out; have hnc59 := NB386_381.out; have hcz60_0 := sqc0 BK381; have hcz60_1 := sqc1 BK381; have hfz60_0 := blk_frozen BK381.out 0; have hfz60_1 := blk_frozen BK381.out 1; have p392 : 0 ≤ (a1 : Int) := sqD; have q392 : a1 < (l0_0.length : Int) := sqD; obtain ⟨ad392, e392, hx392_0, hx392_1⟩ := at_T41 HR0_0.out a1 p392 q392
                cases e392
                replace hx392_0 := (HB.out.cell (World.block_lt_of_cell? w _ hx392_0)).trans hx392_0; replace hx392_1 := (HB.out.cell (World.block_lt_of_cell? w _ hx392_1)).trans hx392_1; replace p392 := eq_true p392; replace q392 := eq_true q392
                try go_wp2_with (first | ((with_reducible refine gate_callee (f := 74) rfl ?_); refine goesL_ (some 55) rfl rfl Tryd.func74 sqF rfl #[.agg #[.int .i64 ((rd_T41 l0_0 a1).f0), .int .i64 ((rd_T41 l0_0 a1).f1)], .int .i64 x7_1] rfl sqM ?_; (with_reducible refine (rf_Least.calls ((rd_T41 l0_0 a1).f0) ((rd_T41 l0_0 a1).f1) x7_1 t393 _ A40.out).mono ?_); rintro e w61 ⟨rfl, hb⟩; refine ⟨_, rfl, ?_⟩; replace HO_5 := Aside0.mk (Kd.S_below (sqS HO_5) hb); replace BK381 := sqk BK381 hb; replace BK382 := sqk BK382 hb; replace BK386 := sqk BK386 hb; replace HB := sqb hb HB; (try clear hb); (try clear hb2); (try clear hk); (try clear hi); have hnb62 := NB386_382.out; have hnc62 := NB382_386.out; have hcz63_0 := sqc0 BK386; have hcz63_1 := sqc1 BK386; have hfz63_0 := blk_frozen BK386.out 0; have hfz63_1 := blk_frozen BK386.out 1))
                have n0_ : Aside0 (Kd.S (Kd.slice 4 Kd.bool) 104 (w61.setCell ⟨gb386, 0, none⟩ (.int .i64 ji41)) w.heap.size (fun _ => True) v384 t383) := ⟨by (with_reducible repeat (first | apply Kd.S_alloc | apply Kd.S_drewN | apply Kd.S_drew)); exact Kd.S_mono (Kd.S_far (p := ⟨gb386, 0, none⟩) (Kd.S_types HO_5.out BK386.out (by decide)) (fun _ hk => hk.2) (.int .i64 ji41)) (fun _ hk => trivial)⟩; have n1_ : Aside0 ((w61.setCell ⟨gb386, 0, none⟩ (.int .i64 ji41)).heap[gb381]? = some (.cells #[.slice (some ad392) l0_0.length c0_0, .slice A0_1 l0_1.length c0_1] 25 (0, 0))) := ⟨sqX⟩; have n2_ : Aside0 ((w61.setCell ⟨gb386, 0, none⟩ (.int .i64 ji41)).heap[gb382]? = some (.cells #[.int .i64 0, .int .i64 0] 41 (0, 0))) := ⟨sqX⟩; have n3_ : Aside0 ((w61.setCell ⟨gb386, 0, none⟩ (.int .i64 ji41)).heap[gb386]? = some (.cells #[.int .i64 ji41, .int .i64 x387001_2] 41 (0, 0))) := ⟨by (with_reducible repeat (first | refine blk_drewN ?_ _ | refine blk_drew ?_ | refine blk_alloc ?_ _)); refine blk_put (cs := #[.int .i64 x387000_2, .int .i64 x387001_2]) ?_ 0 _ rfl; (with_reducible repeat (first | refine blk_drewN ?_ _ | refine blk_drew ?_ | refine blk_alloc ?_ _)); exact BK386.out⟩; have n4_ : Aside0 (Below w.heap.size w (w61.setCell ⟨gb386, 0, none⟩ (.int .i64 ji41))) := ⟨sqB HB⟩; (try clear HO_5); (try clear BK381); (try clear BK382); (try clear BK386); (try clear HB)
                generalize (w61.setCell ⟨gb386, 0, none⟩ (.int .i64 ji41)) = w64 at n0_ n1_ n2_ n3_ n4_ ⊢
                have HO_5 := n0_; have BK381 := n1_; have BK382 := n2_; have BK386 := n3_; have HB := n4_; clear n0_ n1_ n2_ n3_ n4_; have n0_ := Aside0.mk (Kd.S_drew HO_5.out); have n1_ := Aside0.mk (blk_drew BK381.out); have n2_ := Aside0.mk (blk_drew BK382.out); have n3_ := Aside0.mk (blk_drew BK386.out); have n4_ := Aside0.mk (below_drew1 HB.out); clear HO_5 BK381 BK382 BK386 HB; have HO_5 := n0_; have BK381 := n1_; have BK382 := n2_; have BK386 := n3_; have HB := n4_; clear n0_ n1_ n2_ n3_ n4_; have p396 : 0 ≤ (a1 : Int) := sqD; have q396 : a1 < (l0_0.length : Int) := sqD; obtain ⟨ad396, e396, hx396_0, hx396_1⟩ := at_T41 HR0_0.out a1 p396 q396; have hw396_1 := hx396_1; have hw396_0 := hx396_0; obtain rfl : ad392 = ad396 := (by injection e396); replace hx396_0 := (HB.out.cell (World.block_lt_of_cell? w _ hx396_0)).trans hx396_0; replace hx396_1 := (HB.out.cell (World.block_lt_of_cell? w _ hx396_1)).trans hx396_1; replace p396 := eq_true p396; replace q396 := eq_true q396; refine start_ (n := 14) (S := fun w' => w'.cell? ⟨gb386, 0, none⟩ = some (.int .i64 ji41) ∧ w'.cell? ⟨gb386, 1, none⟩ = some (.int .i64 x387001_2) ∧ w'.cell? ⟨gb381, 0, none⟩ = some (.slice (some ad392) l0_0.length c0_0) ∧ w'.cell? ⟨gb381, 1, none⟩ = some (.slice A0_1 l0_1.length c0_1) ∧ w'.cell? (ad392.add ((a1).toNat * 2)) = some (.int .i64 ((rd_T41 l0_0 a1).f0)) ∧ w'.cell? ⟨(ad392.add ((a1).toNat * 2)).block, (ad392.add ((a1).toNat * 2)).off + 1, none⟩ = some (.int .i64 ((rd_T41 l0_0 a1).f1))) (ds := [13]) (bm 14 0) sqF rfl rfl ⟨(blk_cell BK386.out 0).trans rfl, (blk_cell BK386.out 1).trans rfl, (blk_cell BK381.out 0).trans rfl, (blk_cell BK381.out 1).trans rfl, ((HB.out.cell (World.block_lt_of_cell? w _ hw396_0)).trans hw396_0), ((HB.out.cell (World.block_lt_of_cell? w _ hw396_1)).trans hw396_1)⟩ (fun hHeld => ?_); refine with_tabW rf_Amount.tab12 rf_Amount.bits12 (fun HT_ HW_ => ?_)
                generalize w64.drew = w65 at HO_5 BK381 BK382 BK386 HB hx396_0 hx396_1 hHeld ⊢
                refine pure_ (i := 0) (N := some 70) (v := ?_) (a' := ?_) (bm 14 1) rfl rfl (any_of HT_.out sqF) (fun _ _ _ h => h) (Or.inl ⟨by rfl, ?_⟩) ?_ ?_
                rotate_left
                ·intro w'
                 go_simp; with_reducible rfl
                rotate_left
                ·simp only [Act.put, sqA, i64_w, i32_w]; rfl
                refine pure_ (i := 2) (N := some 72) (v := ?_) (a' := ?_) (bm 14 5) rfl rfl (any_of HT_.out sqF) (fun _ _ _ h => h) (Or.inl ⟨by rfl, ?_⟩) ?_ ?_
                rotate_left
                ·intro w'
                 go_simp; with_reducible rfl
                rotate_left
                ·simp only [Act.put, sqA, i64_w, i32_w]; rfl
                refine pure_ (i := 4) (N := some 74) (v := ?_) (a' := ?_) (bm 14 21) rfl rfl (any_of HT_.out sqF) (fun _ _ _ h => h) (Or.inl ⟨by rfl, ?_⟩) ?_ ?_
                rotate_left
                ·intro w'
                 go_simp; with_reducible rfl
                rotate_left
                ·simp only [Act.put, sqA, i64_w, i32_w]; rfl
                refine pure_ (i := 7) (N := some 77) (v := ?_) (a' := ?_) (bm 14 149) rfl rfl (any_of HT_.out sqF) (fun _ _ _ h => h) (Or.inl ⟨by rfl, ?_⟩) ?_ ?_
                rotate_left
                ·intro w'
                 go_simp; with_reducible rfl
                rotate_left
                ·simp only [Act.put, sqA, i64_w, i32_w]; rfl
                refine pure_ (i := 9) (N := some 79) (v := ?_) (a' := ?_) (bm 14 661) rfl rfl (any_of HT_.out sqF) (fun _ _ _ h => h) (Or.inl ⟨by rfl, ?_⟩) ?_ ?_
                rotate_left
                ·intro w'
                 go_simp; with_reducible rfl
                rotate_left
                ·simp only [Act.put, sqA, i64_w, i32_w]; rfl
                refine take_ (i := 1) (N := some 71) (v := ?_) (a' := ?_) (bm 14 663) rfl rfl (take_ofW HT_.out HW_.out sqF) (fun _ _ _ h => h) (Or.inl ⟨by rfl, ?_⟩) hHeld ?_ ?_
                rotate_left
                ·rintro w' ⟨s0, s1, s2, s3, s4, s5⟩
                 go_simp; with_reducible rfl
                rotate_left
                ·simp only [Act.put, sqA, i64_w, i32_w]; rfl
                refine take_ (i := 3) (N := some 73) (v := ?_) (a' := ?_) (bm 14 671) rfl rfl (take_ofW HT_.out HW_.out sqF) (fun _ _ _ h => h) (Or.inl ⟨by rfl, ?_⟩) hHeld ?_ ?_
                rotate_left
                ·rintro w' ⟨s0, s1, s2, s3, s4, s5⟩
                 go_simp; with_reducible rfl
                rotate_left
                ·simp only [Act.put, sqA, i64_w, i32_w]; rfl
                refine pure_ (i := 5) (N := some 75) (v := ?_) (a' := ?_) (bm 14 703) rfl rfl (any_of HT_.out sqF) (fun _ _ _ h => h) (Or.inl ⟨by rfl, ?_⟩) ?_ ?_
                rotate_left
                ·intro w'
                 go_simp; with_reducible rfl
                rotate_left
                ·simp only [Act.put, sqA, i64_w, i32_w]; rfl
                refine take_ (i := 6) (N := some 76) (v := ?_) (a' := ?_) (bm 14 767) rfl rfl (take_ofW HT_.out HW_.out sqF) (fun _ _ _ h => h) (Or.inl ⟨by rfl, ?_⟩) hHeld ?_ ?_
                rotate_left
                ·rintro w' ⟨s0, s1, s2, s3, s4, s5⟩
                 go_simp; with_reducible rfl
                rotate_left
                ·simp only [Act.put, sqA, i64_w, i32_w]; rfl
                refine one_ (i := 8) (N := some 78) (bm 14 1023) rfl rfl (one_of HT_.out sqF) (by decide) (fun K hK => ?_); refine goes_ Tryd.func75 sqF rfl #[.agg #[.int .i64 ((rd_T41 l0_0 a1).f0), .int .i64 ((rd_T41 l0_0 a1).f1)], .int .i64 x7_1] (by rfl) rfl rfl sqM ?_
                with_reducible refine (rf_Greatest.calls ((rd_T41 l0_0 a1).f0) ((rd_T41 l0_0 a1).f1) x7_1 t397 _ A56.out).mono ?_
                rintro e w66 ⟨rfl, hb⟩; refine ⟨_, rfl, ?_⟩; have n0_ := Aside0.mk (Kd.S_below (sqS HO_5) hb); have n1_ := Aside0.mk (blk_below (g := gb381) (o := .cells #[.slice (some ad392) l0_0.length c0_0, .slice A0_1 l0_1.length c0_1] 25 (0, 0)) (sqK BK381) hb); have n2_ := Aside0.mk (blk_below (g := gb382) (o := .cells #[.int .i64 0, .int .i64 0] 41 (0, 0)) (sqK BK382) hb); have n3_ := Aside0.mk (blk_below (g := gb386) (o := .cells #[.int .i64 ji41, .int .i64 x387001_2] 41 (0, 0)) (sqK BK386) hb); have n4_ := Aside0.mk (below_step (sqB HB) hb); clear HO_5 BK381 BK382 BK386 HB; have HO_5 := n0_; have BK381 := n1_; have BK382 := n2_; have BK386 := n3_; have HB := n4_; clear n0_ n1_ n2_ n3_ n4_; (try clear hb); (try clear hb2); (try clear hk); (try clear hi); refine hK.out _ _ ⟨(blk_cell BK386.out 0).trans rfl, (blk_cell BK386.out 1).trans rfl, (blk_cell BK381.out 0).trans rfl, (blk_cell BK381.out 1).trans rfl, ((HB.out.cell (World.block_lt_of_cell? w _ hw396_0)).trans hw396_0), ((HB.out.cell (World.block_lt_of_cell? w _ hw396_1)).trans hw396_1)⟩ (fun hHeld => ?_); clear hK K; refine norm_ (a' := ?_) ?_ ?_
                rotate_left
                ·show Act.put _ (some 78) _ = _
                 simp only [Act.put, sqA, i64_w, i32_w]; rfl
                refine pure_ (i := 10) (N := some 80) (v := ?_) (a' := ?_) (bm 14 2047) rfl rfl (any_of HT_.out sqF) (fun _ _ _ h => h) (Or.inl ⟨by rfl, ?_⟩) ?_ ?_
                rotate_left
                ·intro w'
                 go_simp; with_reducible rfl
                rotate_left
                ·simp only [Act.put, sqA, i64_w, i32_w]; rfl
                refine pure_ (i := 11) (N := some 81) (v := ?_) (a' := ?_) (bm 14 4095) rfl rfl (any_of HT_.out sqF) (fun _ _ _ h => h) (Or.inl ⟨by rfl, ?_⟩) ?_ ?_
                rotate_left
                ·intro w'
                 go_simp; with_reducible rfl
                rotate_left
                ·simp only [Act.put, sqA, i64_w, i32_w]; rfl
                refine pure_ (i := 12) (N := some 82) (v := ?_) (a' := ?_) (bm 14 8191) rfl rfl (any_of HT_.out sqF) (fun _ _ _ h => h) (Or.inl ⟨by rfl, ?_⟩) ?_ ?_
                rotate_left
                ·intro w'
                 go_simp; with_reducible rfl
                rotate_left
                ·simp only [Act.put, sqA, i64_w, i32_w]; rfl
                refine last_ (i := 13) (N := none) (bm 14 16383) rfl rfl (one_of HT_.out sqF) (by decide) (fun K hK => ?_); have hs67 : w66.cell? ⟨gb386, 1, none⟩ = some (.int .i64 x387001_2) := (blk_cell BK386.out 1).trans rfl; have hfs67 := blk_frozen BK386.out 1; have hns67_0 := NB381_386.out; have hns67_1 := NB382_386.out; have hms67_0 := NB386_381.out; have hms67_1 := NB386_382.out; refine skip_ (w1 := ?_) (by rfl) rfl ?_ ?_
                rotate_left
                ·go_simp
                 rfl
                refine hK.out _ _ ?_; clear hK K; refine done_ (done_of HT_.out sqF) ?_
                try go_wp2
                go_roundg kj21
                case measure => have := HK1.out; have := HK2.out; have := HJ13.out; have := HJ21.out; omega
                case rel => exact ⟨(wrap64 (x8_2 + 1)), (ji41), (ji57), sqE, H', ⟨by have := HK1.out; have := HK2.out; have := HJ13.out; have := HJ21.out; omega⟩, ⟨by (with_reducible repeat (first | apply Kd.S_alloc | apply Kd.S_drewN | apply Kd.S_drew)); exact Kd.S_mono (Kd.S_far (p := ⟨gb386, 1, none⟩) (Kd.S_types HO_5.out BK386.out (by decide)) (fun _ hk => hk.2) (.int .i64 ji57)) (fun _ hk => trivial)⟩, ⟨sqX⟩, ⟨sqX⟩, ⟨by (with_reducible repeat (first | refine blk_drewN ?_ _ | refine blk_drew ?_ | refine blk_alloc ?_ _)); refine blk_put (cs := #[.int .i64 ji41, .int .i64 x387001_2]) ?_ 1 _ rfl; (with_reducible repeat (first | refine blk_drewN ?_ _ | refine blk_drew ?_ | refine blk_alloc ?_ _)); exact BK386.out⟩, ⟨sqB HB⟩⟩
               ·rw [if_neg c55] at H
                have c55b0 : decide ((ji41) < x387000_2) = false := decide_eq_false c55; clear c55; obtain ⟨t399, A680, H⟩ := Option.bind_eq_some_iff.mp H; have A68 := Aside0.mk A680; clear A680; obtain ⟨ji69, hji69⟩ : ∃ j_ : Int, (mx x387001_2 (wrap64 (t399 - x8_2))) = j_ := ⟨_, rfl⟩
                replace H : (rf_Amount.l1 kj21 a1 t383 x7_1 (wrap64 (x8_2 + 1)) l0_0 l0_1 x387000_2 ji69) = some (r1, r2) := by first | (rw [hji69] at H; exact H) | (simp only [hji69] at H ⊢; exact H)
                (try rw [hji69] at A40)
                (try rw [hji69] at A68)
                have hji69_ : (if x387001_2 < (wrap64 (t399 - x8_2)) then (wrap64 (t399 - x8_2)) else x387001_2) = ji69 := hji69; have H' := Aside0.mk H; clear H; have hnb70 := NB381_382.out; have hnc70 := NB382_381.out; have hnb71 := NB381_386.out; have hnc71 := NB386_381.out; have hcz72_0 := sqc0 BK381; have hcz72_1 := sqc1 BK381; have hfz72_0 := blk_frozen BK381.out 0; have hfz72_1 := blk_frozen BK381.out 1; have p392 : 0 ≤ (a1 : Int) := sqD; have q392 : a1 < (l0_0.length : Int) := sqD; obtain ⟨ad392, e392, hx392_0, hx392_1⟩ := at_T41 HR0_0.out a1 p392 q392
                cases e392
                replace hx392_0 := (HB.out.cell (World.block_lt_of_cell? w _ hx392_0)).trans hx392_0; replace hx392_1 := (HB.out.cell (World.block_lt_of_cell? w _ hx392_1)).trans hx392_1; replace p392 := eq_true p392; replace q392 := eq_true q392
                try go_wp2_with (first | ((with_reducible refine gate_callee (f := 74) rfl ?_); refine goesL_ (some 55) rfl rfl Tryd.func74 sqF rfl #[.agg #[.int .i64 ((rd_T41 l0_0 a1).f0), .int .i64 ((rd_T41 l0_0 a1).f1)], .int .i64 x7_1] rfl sqM ?_; (with_reducible refine (rf_Least.calls ((rd_T41 l0_0 a1).f0) ((rd_T41 l0_0 a1).f1) x7_1 t393 _ A40.out).mono ?_); rintro e w73 ⟨rfl, hb⟩; refine ⟨_, rfl, ?_⟩; replace HO_5 := Aside0.mk (Kd.S_below (sqS HO_5) hb); replace BK381 := sqk BK381 hb; replace BK382 := sqk BK382 hb; replace BK386 := sqk BK386 hb; replace HB := sqb hb HB; (try clear hb); (try clear hb2); (try clear hk); (try clear hi); have hnb74 := NB386_382.out; have hnc74 := NB382_386.out; have hcz75_0 := sqc0 BK386; have hcz75_1 := sqc1 BK386; have hfz75_0 := blk_frozen BK386.out 0; have hfz75_1 := blk_frozen BK386.out 1))
                have n0_ := Aside0.mk (Kd.S_drew HO_5.out); have n1_ := Aside0.mk (blk_drew BK381.out); have n2_ := Aside0.mk (blk_drew BK382.out); have n3_ := Aside0.mk (blk_drew BK386.out); have n4_ := Aside0.mk (below_drew1 HB.out); clear HO_5 BK381 BK382 BK386 HB; have HO_5 := n0_; have BK381 := n1_; have BK382 := n2_; have BK386 := n3_; have HB := n4_; clear n0_ n1_ n2_ n3_ n4_; have p398 : 0 ≤ (a1 : Int) := sqD; have q398 : a1 < (l0_0.length : Int) := sqD; obtain ⟨ad398, e398, hx398_0, hx398_1⟩ := at_T41 HR0_0.out a1 p398 q398; have hw398_1 := hx398_1; have hw398_0 := hx398_0; obtain rfl : ad392 = ad398 := (by injection e398); replace hx398_0 := (HB.out.cell (World.block_lt_of_cell? w _ hx398_0)).trans hx398_0; replace hx398_1 := (HB.out.cell (World.block_lt_of_cell? w _ hx398_1)).trans hx398_1; replace p398 := eq_true p398; replace q398 := eq_true q398; refine start_ (n := 14) (S := fun w' => w'.cell? ⟨gb386, 0, none⟩ = some (.int .i64 x387000_2) ∧ w'.cell? ⟨gb386, 1, none⟩ = some (.int .i64 x387001_2) ∧ w'.cell? ⟨gb381, 0, none⟩ = some (.slice (some ad392) l0_0.length c0_0) ∧ w'.cell? ⟨gb381, 1, none⟩ = some (.slice A0_1 l0_1.length c0_1) ∧ w'.cell? (ad392.add ((a1).toNat * 2)) = some (.int .i64 ((rd_T41 l0_0 a1).f0)) ∧ w'.cell? ⟨(ad392.add ((a1).toNat * 2)).block, (ad392.add ((a1).toNat * 2)).off + 1, none⟩ = some (.int .i64 ((rd_T41 l0_0 a1).f1))) (ds := [13]) (bm 14 0) sqF rfl rfl ⟨(blk_cell BK386.out 0).trans rfl, (blk_cell BK386.out 1).trans rfl, (blk_cell BK381.out 0).trans rfl, (blk_cell BK381.out 1).trans rfl, ((HB.out.cell (World.block_lt_of_cell? w _ hw398_0)).trans hw398_0), ((HB.out.cell (World.block_lt_of_cell? w _ hw398_1)).trans hw398_1)⟩ (fun hHeld => ?_); refine with_tabW rf_Amount.tab12 rf_Amount.bits12 (fun HT_ HW_ => ?_)
                generalize w73.drew = w76 at HO_5 BK381 BK382 BK386 HB hx398_0 hx398_1 hHeld ⊢
                refine pure_ (i := 0) (N := some 70) (v := ?_) (a' := ?_) (bm 14 1) rfl rfl (any_of HT_.out sqF) (fun _ _ _ h => h) (Or.inl ⟨by rfl, ?_⟩) ?_ ?_
                rotate_left
                ·intro w'
                 go_simp; with_reducible rfl
                rotate_left
                ·simp only [Act.put, sqA, i64_w, i32_w]; rfl
                refine pure_ (i := 2) (N := some 72) (v := ?_) (a' := ?_) (bm 14 5) rfl rfl (any_of HT_.out sqF) (fun _ _ _ h => h) (Or.inl ⟨by rfl, ?_⟩) ?_ ?_
                rotate_left
                ·intro w'
                 go_simp; with_reducible rfl
                rotate_left
                ·simp only [Act.put, sqA, i64_w, i32_w]; rfl
                refine pure_ (i := 4) (N := some 74) (v := ?_) (a' := ?_) (bm 14 21) rfl rfl (any_of HT_.out sqF) (fun _ _ _ h => h) (Or.inl ⟨by rfl, ?_⟩) ?_ ?_
                rotate_left
                ·intro w'
                 go_simp; with_reducible rfl
                rotate_left
                ·simp only [Act.put, sqA, i64_w, i32_w]; rfl
                refine pure_ (i := 7) (N := some 77) (v := ?_) (a' := ?_) (bm 14 149) rfl rfl (any_of HT_.out sqF) (fun _ _ _ h => h) (Or.inl ⟨by rfl, ?_⟩) ?_ ?_
                rotate_left
                ·intro w'
                 go_simp; with_reducible rfl
                rotate_left
                ·simp only [Act.put, sqA, i64_w, i32_w]; rfl
                refine pure_ (i := 9) (N := some 79) (v := ?_) (a' := ?_) (bm 14 661) rfl rfl (any_of HT_.out sqF) (fun _ _ _ h => h) (Or.inl ⟨by rfl, ?_⟩) ?_ ?_
                rotate_left
                ·intro w'
                 go_simp; with_reducible rfl
                rotate_left
                ·simp only [Act.put, sqA, i64_w, i32_w]; rfl
                refine take_ (i := 1) (N := some 71) (v := ?_) (a' := ?_) (bm 14 663) rfl rfl (take_ofW HT_.out HW_.out sqF) (fun _ _ _ h => h) (Or.inl ⟨by rfl, ?_⟩) hHeld ?_ ?_
                rotate_left
                ·rintro w' ⟨s0, s1, s2, s3, s4, s5⟩
                 go_simp; with_reducible rfl
                rotate_left
                ·simp only [Act.put, sqA, i64_w, i32_w]; rfl
                refine take_ (i := 3) (N := some 73) (v := ?_) (a' := ?_) (bm 14 671) rfl rfl (take_ofW HT_.out HW_.out sqF) (fun _ _ _ h => h) (Or.inl ⟨by rfl, ?_⟩) hHeld ?_ ?_
                rotate_left
                ·rintro w' ⟨s0, s1, s2, s3, s4, s5⟩
                 go_simp; with_reducible rfl
                rotate_left
                ·simp only [Act.put, sqA, i64_w, i32_w]; rfl
                refine pure_ (i := 5) (N := some 75) (v := ?_) (a' := ?_) (bm 14 703) rfl rfl (any_of HT_.out sqF) (fun _ _ _ h => h) (Or.inl ⟨by rfl, ?_⟩) ?_ ?_
                rotate_left
                ·intro w'
                 go_simp; with_reducible rfl
                rotate_left
                ·simp only [Act.put, sqA, i64_w, i32_w]; rfl
                refine take_ (i := 6) (N := some 76) (v := ?_) (a' := ?_) (bm 14 767) rfl rfl (take_ofW HT_.out HW_.out sqF) (fun _ _ _ h => h) (Or.inl ⟨by rfl, ?_⟩) hHeld ?_ ?_
                rotate_left
                ·rintro w' ⟨s0, s1, s2, s3, s4, s5⟩
                 go_simp; with_reducible rfl
                rotate_left
                ·simp only [Act.put, sqA, i64_w, i32_w]; rfl
                refine one_ (i := 8) (N := some 78) (bm 14 1023) rfl rfl (one_of HT_.out sqF) (by decide) (fun K hK => ?_); refine goes_ Tryd.func75 sqF rfl #[.agg #[.int .i64 ((rd_T41 l0_0 a1).f0), .int .i64 ((rd_T41 l0_0 a1).f1)], .int .i64 x7_1] (by rfl) rfl rfl sqM ?_
                with_reducible refine (rf_Greatest.calls ((rd_T41 l0_0 a1).f0) ((rd_T41 l0_0 a1).f1) x7_1 t399 _ A68.out).mono ?_
                rintro e w77 ⟨rfl, hb⟩; refine ⟨_, rfl, ?_⟩; have n0_ := Aside0.mk (Kd.S_below (sqS HO_5) hb); have n1_ := Aside0.mk (blk_below (g := gb381) (o := .cells #[.slice (some ad392) l0_0.length c0_0, .slice A0_1 l0_1.length c0_1] 25 (0, 0)) (sqK BK381) hb); have n2_ := Aside0.mk (blk_below (g := gb382) (o := .cells #[.int .i64 0, .int .i64 0] 41 (0, 0)) (sqK BK382) hb); have n3_ := Aside0.mk (blk_below (g := gb386) (o := .cells #[.int .i64 x387000_2, .int .i64 x387001_2] 41 (0, 0)) (sqK BK386) hb); have n4_ := Aside0.mk (below_step (sqB HB) hb); clear HO_5 BK381 BK382 BK386 HB; have HO_5 := n0_; have BK381 := n1_; have BK382 := n2_; have BK386 := n3_; have HB := n4_; clear n0_ n1_ n2_ n3_ n4_; (try clear hb); (try clear hb2); (try clear hk); (try clear hi); refine hK.out _ _ ⟨(blk_cell BK386.out 0).trans rfl, (blk_cell BK386.out 1).trans rfl, (blk_cell BK381.out 0).trans rfl, (blk_cell BK381.out 1).trans rfl, ((HB.out.cell (World.block_lt_of_cell? w _ hw398_0)).trans hw398_0), ((HB.out.cell (World.block_lt_of_cell? w _ hw398_1)).trans hw398_1)⟩ (fun hHeld => ?_); clear hK K; refine norm_ (a' := ?_) ?_ ?_
                rotate_left
                ·show Act.put _ (some 78) _ = _
                 simp only [Act.put, sqA, i64_w, i32_w]; rfl
                refine pure_ (i := 10) (N := some 80) (v := ?_) (a' := ?_) (bm 14 2047) rfl rfl (any_of HT_.out sqF) (fun _ _ _ h => h) (Or.inl ⟨by rfl, ?_⟩) ?_ ?_
                rotate_left
                ·intro w'
                 go_simp; with_reducible rfl
                rotate_left
                ·simp only [Act.put, sqA, i64_w, i32_w]; rfl
                refine pure_ (i := 11) (N := some 81) (v := ?_) (a' := ?_) (bm 14 4095) rfl rfl (any_of HT_.out sqF) (fun _ _ _ h => h) (Or.inl ⟨by rfl, ?_⟩) ?_ ?_
                rotate_left
                ·intro w'
                 go_simp; with_reducible rfl
                rotate_left
                ·simp only [Act.put, sqA, i64_w, i32_w]; rfl
                refine pure_ (i := 12) (N := some 82) (v := ?_) (a' := ?_) (bm 14 8191) rfl rfl (any_of HT_.out sqF) (fun _ _ _ h => h) (Or.inl ⟨by rfl, ?_⟩) ?_ ?_
                rotate_left
                ·intro w'
                 go_simp; with_reducible rfl
                rotate_left
                ·simp only [Act.put, sqA, i64_w, i32_w]; rfl
                refine last_ (i := 13) (N := none) (bm 14 16383) rfl rfl (one_of HT_.out sqF) (by decide) (fun K hK => ?_); have hs78 : w77.cell? ⟨gb386, 1, none⟩ = some (.int .i64 x387001_2) := (blk_cell BK386.out 1).trans rfl; have hfs78 := blk_frozen BK386.out 1; have hns78_0 := NB381_386.out; have hns78_1 := NB382_386.out; have hms78_0 := NB386_381.out; have hms78_1 := NB386_382.out; refine skip_ (w1 := ?_) (by rfl) rfl ?_ ?_
                rotate_left
                ·go_simp
                 rfl
                refine hK.out _ _ ?_; clear hK K; refine done_ (done_of HT_.out sqF) ?_
                try go_wp2
                go_roundg kj21
                case measure => have := HK1.out; have := HK2.out; have := HJ13.out; have := HJ21.out; omega
                case rel => exact ⟨(wrap64 (x8_2 + 1)), (x387000_2), (ji69), sqE, H', ⟨by have := HK1.out; have := HK2.out; have := HJ13.out; have := HJ21.out; omega⟩, ⟨by (with_reducible repeat (first | apply Kd.S_alloc | apply Kd.S_drewN | apply Kd.S_drew)); exact Kd.S_mono (Kd.S_far (p := ⟨gb386, 1, none⟩) (Kd.S_types HO_5.out BK386.out (by decide)) (fun _ hk => hk.2) (.int .i64 ji69)) (fun _ hk => trivial)⟩, ⟨sqX⟩, ⟨sqX⟩, ⟨by (with_reducible repeat (first | refine blk_drewN ?_ _ | refine blk_drew ?_ | refine blk_alloc ?_ _)); refine blk_put (cs := #[.int .i64 x387000_2, .int .i64 x387001_2]) ?_ 1 _ rfl; (with_reducible repeat (first | refine blk_drewN ?_ _ | refine blk_drew ?_ | refine blk_alloc ?_ _)); exact BK386.out⟩, ⟨sqB HB⟩⟩
             ·rw [if_neg c39] at H
              exact absurd H (by simp)
            ·rw [if_neg c38] at H
             exact absurd H (by simp)
        ·replace c21 := Bool.eq_false_iff.mpr c21
         subst c21; rw [if_neg Bool.false_ne_true] at H; have H' := Aside0.mk H; clear H; go_wp2
         go_roundg kj13
         case measure => have := HK1.out; have := HK2.out; have := HJ13.out; omega
         case rel => exact ⟨(wrap64 (x7_1 + 1)), (x387000_2), (x387001_2), sqE, H', ⟨by have := HK1.out; have := HK2.out; have := HJ13.out; omega⟩, ⟨sqS HO_5⟩, ⟨sqK BK381⟩, ⟨sqK BK382⟩, ⟨sqK BK386⟩, ⟨sqB HB⟩⟩
   ·rw [if_neg c13] at H
    have c13b0 : decide (x7_1 ≤ 400) = false := decide_eq_false c13; clear c13; simp only [Option.some.injEq, Prod.mk.injEq] at H; obtain ⟨rfl, rfl⟩ := H; have hnb79 := NB386_381.out; have hnc79 := NB381_386.out; have hnb80 := NB386_382.out; have hnc80 := NB382_386.out; have hcz81_0 := sqc0 BK386; have hcz81_1 := sqc1 BK386; have hfz81_0 := blk_frozen BK386.out 0; have hfz81_1 := blk_frozen BK386.out 1; have hnb82 := NB382_381.out; have hnc82 := NB381_382.out; have hcz83_0 := sqc0 BK382; have hcz83_1 := sqc1 BK382; have hfz83_0 := blk_frozen BK382.out 0; have hfz83_1 := blk_frozen BK382.out 1
    go_wp2
    refine bodyPost_ret (results_cell_row rfl _ _ gb382 41 #[.int .i64 x387000_1, .int .i64 x387001_1] (0, 0) _ rfl (by (with_reducible repeat (first | refine blk_drewN ?_ _ | refine blk_drew ?_ | refine blk_alloc ?_ _)); refine blk_put (cs := #[.int .i64 x387000_1, .int .i64 0]) ?_ 1 _ rfl; (with_reducible repeat (first | refine blk_drewN ?_ _ | refine blk_drew ?_ | refine blk_alloc ?_ _)); refine blk_put (cs := #[.int .i64 0, .int .i64 0]) ?_ 0 _ rfl; (with_reducible repeat (first | refine blk_drewN ?_ _ | refine blk_drew ?_ | refine blk_alloc ?_ _)); exact BK382.out) Tryd.underlying41 rfl sqF) rfl ?_; exact ⟨by first | rfl | (simp [errW_none, errW_some] <;> rfl) | (simp [*, errW_none, errW_some] <;> rfl), sqB HB⟩
end Go.Proofs.YtemingmeidmjkaaDoor.Q
namespace Go.Proofs.YtemingmeidmjkaaDoor.Q
open Go.RowKit Go.Proofs.YtemingmeidmjkaaDoorW.PrintWords Go.Proofs.YtemingmeidmjkaaDoorW.PrintLast Go.Proofs.YtemingmeidmjkaaDoorW.PrintMore
attribute [local go_sem] max2_int min2_int max_two min_two max_three min_three max_four min_four   -- for this text's walks alone
set_option linter.unusedVariables false
set_option linter.unusedSimpArgs false
attribute [local go_sem high] eqA41
mutual
def lw_WoolWheres.j0 : Nat → Int → Int → Bool → List (S41) → List (S80) → Int → Int → Option (Bool)
 | 0, _, _, _, _, _, _, _ => none
 | k + 1, x1, x9, x59, x401000, x401001, x418000, x418001 => if x59 = true then (some false) else ((rf_Check.f k x401000 x401001).bind fun t424 => (if t424 = 0 then ((rf_In.f x1 0 (wrap64 ((x401000.length : Int) - 1))).bind fun t425 => (lw_WoolWheres.j1 k x1 x9 t424 (!t425) x401000 x401001 x418000 x418001)) else (lw_WoolWheres.j1 k x1 x9 t424 false x401000 x401001 x418000 x418001)))
def lw_WoolWheres.j1 : Nat → Int → Int → Int → Bool → List (S41) → List (S80) → Int → Int → Option (Bool)
 | 0, _, _, _, _, _, _, _, _ => none
 | k + 1, x1, x9, x11, x72, x401000, x401001, x418000, x418001 => if x72 = true then (lw_WoolWheres.j2 k x1 x9 7 x401000 x401001 x418000 x418001) else (lw_WoolWheres.j2 k x1 x9 x11 x401000 x401001 x418000 x418001)
def lw_WoolWheres.j2 : Nat → Int → Int → Int → List (S41) → List (S80) → Int → Int → Option (Bool)
 | 0, _, _, _, _, _, _, _ => none
 | k + 1, x1, x9, x11, x401000, x401001, x418000, x418001 => if x11 = 0 then ((rf_Amount.f k x401000 x401001 x1).bind fun bt426 => (if bt426.1 ≥ 0 then (if x9 = 0 then (if (x418000 == bt426.1 && (x418001 == bt426.2)) = true then ((lw_known.f).bind fun t429 => (some t429)) else (some false)) else (some false)) else (if x9 = 9 then (if (x418000 == 0 && (x418001 == 0)) = true then ((lw_known.f).bind fun t430 => (some t430)) else (some false)) else (some false)))) else (if x9 = x11 then (if (x418000 == 0 && (x418001 == 0)) = true then ((lw_known.f).bind fun t431 => (some t431)) else (some false)) else (some false))
end
def lw_WoolWheres.f (k : Nat) (l0_0 : List (S41)) (l0_1 : List (S80)) (a1 : Int) : Option (Bool) := (lw_long.f l0_0 l0_1).bind fun t401 => (if t401 = true then ((lw_known.f).bind fun t402 => (some t402)) else ((rf_Copy.f l0_0 l0_1).bind fun bt403 => ((wool_Where.f bt403.1 bt403.2).bind fun bt410 => ((wool_Amount.f bt403.1 bt403.2 a1).bind fun bt414 => ((rf_Same.f k bt403.1 bt403.2 l0_0 l0_1).bind fun t418 => (if t418 = true then ((rf_Stolen.f k l0_0 l0_1).bind fun bt419 => (if bt410.2 = bt419.2 then (if bt419.2 = 0 then ((rf_Ints.f k bt410.1 bt419.1).bind fun t423 => (lw_WoolWheres.j0 k a1 bt414.2.2 (!t423) l0_0 l0_1 bt414.1 bt414.2.1)) else (if (bt410.1.length : Int) = 0 then (lw_WoolWheres.j0 k a1 bt414.2.2 false l0_0 l0_1 bt414.1 bt414.2.1) else (lw_WoolWheres.j0 k a1 bt414.2.2 true l0_0 l0_1 bt414.1 bt414.2.1))) else (lw_WoolWheres.j0 k a1 bt414.2.2 true l0_0 l0_1 bt414.1 bt414.2.1))) else (some false)))))))
set_option maxHeartbeats 8000000 in
set_option maxRecDepth 100000 in
theorem lw_WoolWheres.calls (k : Nat) (A0_0 : Option Addr) (c0_0 : Nat) (l0_0 : List (S41)) (A0_1 : Option Addr) (c0_1 : Nat) (l0_1 : List (S80)) (a1 : Int) (r : Bool) (w : World) (hG : GL w) (hr0_0 : Kd.C k41 w A0_0 l0_0.length l0_0) (hc0_0 : l0_0.length ≤ c0_0) (hr0_1 : Kd.C k80 w A0_1 l0_1.length l0_1) (hc0_1 : l0_1.length ≤ c0_1) (h : lw_WoolWheres.f k l0_0 l0_1 a1 = some r) :
  Calls Tryd.prog 5 #[.agg #[.slice A0_0 l0_0.length c0_0, .slice A0_1 l0_1.length c0_1], .int .i64 a1] w fun e w' => e = .returned (.bool r) ∧ Below w.heap.size w w' := by
 have hu25 := Tryd.underlying25; have hu41 := Tryd.underlying41; have HR0_0 := Aside0.mk hr0_0; have HC0_0 := Aside0.mk hc0_0; clear hr0_0 hc0_0; have HR0_1 := Aside0.mk hr0_1; have HC0_1 := Aside0.mk hc0_1; clear hr0_1 hc0_1; have HB := Aside0.mk (Below.refl w.heap.size w); have HGL := Aside0.mk hG; clear hG; have H : ((lw_long.f l0_0 l0_1).bind fun t401 => (if t401 = true then ((lw_known.f).bind fun t402 => (some t402)) else ((rf_Copy.f l0_0 l0_1).bind fun bt403 => ((wool_Where.f bt403.1 bt403.2).bind fun bt410 => ((wool_Amount.f bt403.1 bt403.2 a1).bind fun bt414 => ((rf_Same.f k bt403.1 bt403.2 l0_0 l0_1).bind fun t418 => (if t418 = true then ((rf_Stolen.f k l0_0 l0_1).bind fun bt419 => (if bt410.2 = bt419.2 then (if bt419.2 = 0 then ((rf_Ints.f k bt410.1 bt419.1).bind fun t423 => (lw_WoolWheres.j0 k a1 bt414.2.2 (!t423) l0_0 l0_1 bt414.1 bt414.2.1)) else (if (bt410.1.length : Int) = 0 then (lw_WoolWheres.j0 k a1 bt414.2.2 false l0_0 l0_1 bt414.1 bt414.2.1) else (lw_WoolWheres.j0 k a1 bt414.2.2 true l0_0 l0_1 bt414.1 bt414.2.1))) else (lw_WoolWheres.j0 k a1 bt414.2.2 true l0_0 l0_1 bt414.1 bt414.2.1))) else (some false)))))))) = some r := h; clear h; obtain ⟨t401, A30, H⟩ := Option.bind_eq_some_iff.mp H; have A3 := Aside0.mk A30; clear A30
 by_cases c4 : t401 = true
 ·subst c4
  rw [if_pos rfl] at H; obtain ⟨t402, A50, H⟩ := Option.bind_eq_some_iff.mp H; have A5 := Aside0.mk A50; clear A50; obtain rfl := Option.some.inj H
  go_enter Tryd.func5, Tryd.ntmps5
  go_wp2_with (first | ((with_reducible refine gate_dst (N := 2) rfl ?_); (try (refine gate_guard (by rfl) ?_; dsimp only)); refine box_event ?hg (N := 2) ?hd (cs := #[.slice A0_0 l0_0.length c0_0, .slice A0_1 l0_1.length c0_1]) (t := 25) ?hr ?_; (case hd => rfl); (case hg => rfl); (case hr => first | (go_simp; done) | (go_simp; rfl)); intro gb400 hg w6 hbox hb; have BK400 := Aside0.mk (hbox); have GW400 := Aside0.mk (sqZ hg HB); have GE400 := Aside0.mk (sqZ hg HB); replace HB := sqb hb HB; clear hb hbox hg; have hcz7_0 := sqc0 BK400; have hcz7_1 := sqc1 BK400; have hfz7_0 := blk_frozen BK400.out 0; have hfz7_1 := blk_frozen BK400.out 1) | ((with_reducible refine gate_callee (f := 16) rfl ?_); refine goesL_ (some 14) rfl rfl Tryd.func16 sqF rfl #[.agg #[.slice A0_0 l0_0.length c0_0, .slice A0_1 l0_1.length c0_1]] rfl sqM ?_; (with_reducible refine (lw_long.calls _ _ l0_0 _ _ l0_1 true _ ?side1 ?side2 ?side3 ?side4 A3.out).mono ?_); (case side1 => exact sqQ HR0_0 HB); (case side2 => exact HC0_0.out); (case side3 => exact sqQ HR0_1 HB); (case side4 => exact HC0_1.out); rintro e w8 ⟨rfl, hb⟩; refine ⟨_, rfl, ?_⟩; replace BK400 := sqk BK400 hb; replace HB := sqb hb HB; (try clear hb); (try clear hb2); (try clear hk); (try clear hi)) | ((with_reducible refine gate_callee (f := 17) rfl ?_); refine goesL_ (some 15) rfl rfl Tryd.func17 sqF rfl #[] rfl sqM ?_; (with_reducible refine (lw_known.calls t402 _ ?sideG A5.out).mono ?_); (case sideG => exact (Kd.C_below HGL.out (sqB HB))); rintro e w9 ⟨rfl, hb⟩; refine ⟨_, rfl, ?_⟩; replace BK400 := sqk BK400 hb; replace HB := sqb hb HB; (try clear hb); (try clear hb2); (try clear hk); (try clear hi)))
  go_ret
  exact ⟨by first | rfl | (simp [errW_none, errW_some] <;> rfl) | (simp [*, errW_none, errW_some] <;> rfl), sqB HB⟩
 ·replace c4 := Bool.eq_false_iff.mpr c4
  subst c4; rw [if_neg Bool.false_ne_true] at H; obtain ⟨⟨t403, t406⟩, A100, H⟩ := Option.bind_eq_some_iff.mp H; replace H : ((wool_Where.f t403 t406).bind fun bt410 => ((wool_Amount.f t403 t406 a1).bind fun bt414 => ((rf_Same.f k t403 t406 l0_0 l0_1).bind fun t418 => (if t418 = true then ((rf_Stolen.f k l0_0 l0_1).bind fun bt419 => (if bt410.2 = bt419.2 then (if bt419.2 = 0 then ((rf_Ints.f k bt410.1 bt419.1).bind fun t423 => (lw_WoolWheres.j0 k a1 bt414.2.2 (!t423) l0_0 l0_1 bt414.1 bt414.2.1)) else (if (bt410.1.length : Int) = 0 then (lw_WoolWheres.j0 k a1 bt414.2.2 false l0_0 l0_1 bt414.1 bt414.2.1) else (lw_WoolWheres.j0 k a1 bt414.2.2 true l0_0 l0_1 bt414.1 bt414.2.1))) else (lw_WoolWheres.j0 k a1 bt414.2.2 true l0_0 l0_1 bt414.1 bt414.2.1))) else (some false))))) = some r := H; have A10 := Aside0.mk A100; clear A100; obtain ⟨⟨t410, t413⟩, A110, H⟩ := Option.bind_eq_some_iff.mp H; replace H : ((wool_Amount.f t403 t406 a1).bind fun bt414 => ((rf_Same.f k t403 t406 l0_0 l0_1).bind fun t418 => (if t418 = true then ((rf_Stolen.f k l0_0 l0_1).bind fun bt419 => (if t413 = bt419.2 then (if bt419.2 = 0 then ((rf_Ints.f k t410 bt419.1).bind fun t423 => (lw_WoolWheres.j0 k a1 bt414.2.2 (!t423) l0_0 l0_1 bt414.1 bt414.2.1)) else (if (t410.length : Int) = 0 then (lw_WoolWheres.j0 k a1 bt414.2.2 false l0_0 l0_1 bt414.1 bt414.2.1) else (lw_WoolWheres.j0 k a1 bt414.2.2 true l0_0 l0_1 bt414.1 bt414.2.1))) else (lw_WoolWheres.j0 k a1 bt414.2.2 true l0_0 l0_1 bt414.1 bt414.2.1))) else (some false)))) = some r := H; have A11 := Aside0.mk A110; clear A110; obtain ⟨⟨t414, t415, t416⟩, A120, H⟩ := Option.bind_eq_some_iff.mp H; replace H : ((rf_Same.f k t403 t406 l0_0 l0_1).bind fun t418 => (if t418 = true then ((rf_Stolen.f k l0_0 l0_1).bind fun bt419 => (if t413 = bt419.2 then (if bt419.2 = 0 then ((rf_Ints.f k t410 bt419.1).bind fun t423 => (lw_WoolWheres.j0 k a1 t416 (!t423) l0_0 l0_1 t414 t415)) else (if (t410.length : Int) = 0 then (lw_WoolWheres.j0 k a1 t416 false l0_0 l0_1 t414 t415) else (lw_WoolWheres.j0 k a1 t416 true l0_0 l0_1 t414 t415))) else (lw_WoolWheres.j0 k a1 t416 true l0_0 l0_1 t414 t415))) else (some false))) = some r := H; have A12 := Aside0.mk A120; clear A120; obtain ⟨t418, A130, H⟩ := Option.bind_eq_some_iff.mp H; have A13 := Aside0.mk A130; clear A130
  by_cases c14 : t418 = true
  ·subst c14
   rw [if_pos rfl] at H; obtain ⟨⟨t419, t422⟩, A150, H⟩ := Option.bind_eq_some_iff.mp H; replace H : (if t413 = t422 then (if t422 = 0 then ((rf_Ints.f k t410 t419).bind fun t423 => (lw_WoolWheres.j0 k a1 t416 (!t423) l0_0 l0_1 t414 t415)) else (if (t410.length : Int) = 0 then (lw_WoolWheres.j0 k a1 t416 false l0_0 l0_1 t414 t415) else (lw_WoolWheres.j0 k a1 t416 true l0_0 l0_1 t414 t415))) else (lw_WoolWheres.j0 k a1 t416 true l0_0 l0_1 t414 t415)) = some r := H; have A15 := Aside0.mk A150; clear A150; have HC16 := Aside0.mk H; clear H; go_enter Tryd.func5, Tryd.ntmps5
   go_upto_region 9 with (first | ((with_reducible refine gate_dst (N := 2) rfl ?_); (try (refine gate_guard (by rfl) ?_; dsimp only)); refine box_event ?hg (N := 2) ?hd (cs := #[.slice A0_0 l0_0.length c0_0, .slice A0_1 l0_1.length c0_1]) (t := 25) ?hr ?_; (case hd => rfl); (case hg => rfl); (case hr => first | (go_simp; done) | (go_simp; rfl)); intro gb400 hg w17 hbox hb; have BK400 := Aside0.mk (hbox); have GW400 := Aside0.mk (sqZ hg HB); have GE400 := Aside0.mk (sqZ hg HB); replace HB := sqb hb HB; clear hb hbox hg; have hcz18_0 := sqc0 BK400; have hcz18_1 := sqc1 BK400; have hfz18_0 := blk_frozen BK400.out 0; have hfz18_1 := blk_frozen BK400.out 1) | ((with_reducible refine gate_callee (f := 16) rfl ?_); refine goesL_ (some 14) rfl rfl Tryd.func16 sqF rfl #[.agg #[.slice A0_0 l0_0.length c0_0, .slice A0_1 l0_1.length c0_1]] rfl sqM ?_; (with_reducible refine (lw_long.calls _ _ l0_0 _ _ l0_1 false _ ?side1 ?side2 ?side3 ?side4 A3.out).mono ?_); (case side1 => exact sqQ HR0_0 HB); (case side2 => exact HC0_0.out); (case side3 => exact sqQ HR0_1 HB); (case side4 => exact HC0_1.out); rintro e w19 ⟨rfl, hb⟩; refine ⟨_, rfl, ?_⟩; replace BK400 := sqk BK400 hb; replace HB := sqb hb HB; (try clear hb); (try clear hb2); (try clear hk); (try clear hi); have hcz20_0 := sqc0 BK400; have hcz20_1 := sqc1 BK400; have hfz20_0 := blk_frozen BK400.out 0; have hfz20_1 := blk_frozen BK400.out 1) | ((with_reducible refine gate_callee (f := 18) rfl ?_); refine goesL_ (some 17) rfl rfl Tryd.func18 sqF rfl #[.agg #[.slice A0_0 l0_0.length c0_0, .slice A0_1 l0_1.length c0_1]] rfl sqM ?_; (with_reducible refine (rf_Copy.calls _ _ l0_0 _ _ l0_1 t403 t406 _ ?side1 ?side2 ?side3 ?side4 A10.out).mono ?_); (case side1 => exact sqQ HR0_0 HB); (case side2 => exact HC0_0.out); (case side3 => exact sqQ HR0_1 HB); (case side4 => exact HC0_1.out); rintro e w21 ⟨v404, v407, rfl, ho0, ho1, hb⟩; refine ⟨_, rfl, ?_⟩; have HO405 := Aside0.mk (Kd.R_lower ho0 (below_size (sqB HB))); have HO408 := Aside0.mk (Kd.R_lower ho1 (below_size (sqB HB))); replace BK400 := sqk BK400 hb; replace HB := sqb hb HB; (try clear hb); (try clear hb2); (try clear hk); (try clear hi); (try clear ho0); (try clear ho1)) | ((with_reducible refine gate_dst (N := 5) rfl ?_); (try (refine gate_guard (by rfl) ?_; dsimp only)); refine box_event ?hg (N := 5) ?hd (cs := #[.slice none 0 0, .slice none 0 0]) (t := 25) ?hr ?_; (case hd => rfl); (case hg => rfl); (case hr => first | (go_simp; done) | (go_simp; rfl)); intro gb409 hg w22 hbox hb; replace HO405 := Aside0.mk (Kd.R_below (sqR HO405) hb); replace HO408 := Aside0.mk (Kd.R_below (sqR HO408) hb); have BK409 := Aside0.mk (hbox); have GW409 := Aside0.mk (sqZ hg HB); have GE409 := Aside0.mk (sqZ hg HB); replace HB := sqb hb HB; have NB400_409 := Aside0.mk (sqL hg BK400); have NB409_400 := Aside0.mk (sqG hg BK400); replace BK400 := sqk BK400 hb; clear hb hbox hg; obtain ⟨Ao23, co23, eo23⟩ := Kd.R_slice HO405.out; subst eo23; have hnb24 := NB409_400.out; have hnc24 := NB400_409.out; have hcz25_0 := sqc0 BK409; have hcz25_1 := sqc1 BK409; have hfz25_0 := blk_frozen BK409.out 0; have hfz25_1 := blk_frozen BK409.out 1; obtain ⟨Ao26, co26, eo26⟩ := Kd.R_slice HO408.out; subst eo26) | ((with_reducible refine gate_callee (f := 31) rfl ?_); refine goesL_ (some 20) rfl rfl Tryd.func31 sqF rfl #[.agg #[.slice Ao23 t403.length co23, .slice Ao26 t406.length co26]] rfl sqM ?_; (with_reducible refine (wool_Where.calls _ _ t403 _ _ t406 t410 t413 _ ?sideG ?side1 ?side2 ?side3 ?side4 A11.out).mono ?_); (case sideG => exact (Kd.C_below HGL.out (sqB HB))); (case side1 => refine (Kd.R_reads' (e := 41) (base := w.heap.size) (ok := fun k_ => True) (n := t403.length) (c := co23) ?_).2.2; exact (by (with_reducible repeat (first | apply Kd.R_alloc | apply Kd.R_drewN | apply Kd.R_drew)); exact (Kd.R_mono (Kd.R_far (p := ⟨gb409, 1, none⟩) (Kd.R_far (p := ⟨gb409, 0, none⟩) (Kd.R_types HO405.out BK409.out (by decide)) (fun _ hk => hk.2) (.slice Ao23 t403.length co23)) (fun _ hk => hk.2) (.slice Ao26 t406.length co26)) (fun _ h_ => h_.1)))); (case side2 => exact (Kd.R_reads' HO405.out).2.1); (case side3 => refine (Kd.R_reads' (e := 80) (base := w.heap.size) (ok := fun k_ => True) (n := t406.length) (c := co26) ?_).2.2; exact (by (with_reducible repeat (first | apply Kd.R_alloc | apply Kd.R_drewN | apply Kd.R_drew)); exact (Kd.R_mono (Kd.R_far (p := ⟨gb409, 1, none⟩) (Kd.R_far (p := ⟨gb409, 0, none⟩) (Kd.R_types HO408.out BK409.out (by decide)) (fun _ hk => hk.2) (.slice Ao23 t403.length co23)) (fun _ hk => hk.2) (.slice Ao26 t406.length co26)) (fun _ h_ => h_.1)))); (case side4 => exact (Kd.R_reads' HO408.out).2.1); rintro e w27 ⟨v411, rfl, ho0, hb⟩; refine ⟨_, rfl, ?_⟩; replace HO405 := Aside0.mk (Kd.R_below (by (with_reducible repeat (first | apply Kd.R_alloc | apply Kd.R_drewN | apply Kd.R_drew)); exact (Kd.R_mono (Kd.R_far (p := ⟨gb409, 1, none⟩) (Kd.R_far (p := ⟨gb409, 0, none⟩) (Kd.R_types HO405.out BK409.out (by decide)) (fun _ hk => hk.2) (.slice Ao23 t403.length co23)) (fun _ hk => hk.2) (.slice Ao26 t406.length co26)) (fun _ h_ => h_.1))) hb); replace HO408 := Aside0.mk (Kd.R_below (by (with_reducible repeat (first | apply Kd.R_alloc | apply Kd.R_drewN | apply Kd.R_drew)); exact (Kd.R_mono (Kd.R_far (p := ⟨gb409, 1, none⟩) (Kd.R_far (p := ⟨gb409, 0, none⟩) (Kd.R_types HO408.out BK409.out (by decide)) (fun _ hk => hk.2) (.slice Ao23 t403.length co23)) (fun _ hk => hk.2) (.slice Ao26 t406.length co26)) (fun _ h_ => h_.1))) hb); have HO412 := Aside0.mk (Kd.R_lower ho0 (below_size (sqB HB))); replace BK400 := Aside0.mk (blk_below (g := gb400) (o := .cells #[.slice A0_0 l0_0.length c0_0, .slice A0_1 l0_1.length c0_1] 25 (0, 0)) sqX hb); replace BK409 := Aside0.mk (blk_below (g := gb409) (o := .cells #[.slice Ao23 t403.length co23, .slice Ao26 t406.length co26] 25 (0, 0)) (by (with_reducible repeat (first | refine blk_drewN ?_ _ | refine blk_drew ?_ | refine blk_alloc ?_ _)); refine blk_put (cs := #[.slice Ao23 t403.length co23, .slice none 0 0]) ?_ 1 _ rfl; (with_reducible repeat (first | refine blk_drewN ?_ _ | refine blk_drew ?_ | refine blk_alloc ?_ _)); refine blk_put (cs := #[.slice none 0 0, .slice none 0 0]) ?_ 0 _ rfl; (with_reducible repeat (first | refine blk_drewN ?_ _ | refine blk_drew ?_ | refine blk_alloc ?_ _)); exact BK409.out) hb); replace HB := sqb hb HB; (try clear hb); (try clear hb2); (try clear hk); (try clear hi); (try clear ho0); have hcz28_0 := sqc0 BK409; have hcz28_1 := sqc1 BK409; have hfz28_0 := blk_frozen BK409.out 0; have hfz28_1 := blk_frozen BK409.out 1) | ((with_reducible refine gate_callee (f := 32) rfl ?_); refine goesL_ (some 26) rfl rfl Tryd.func32 sqF rfl #[.agg #[.slice Ao23 t403.length co23, .slice Ao26 t406.length co26], .int .i64 a1] rfl sqM ?_; (with_reducible refine (wool_Amount.calls _ _ t403 _ _ t406 a1 t414 t415 t416 _ ?sideG ?side1 ?side2 ?side3 ?side4 A12.out).mono ?_); (case sideG => exact (Kd.C_below HGL.out (sqB HB))); (case side1 => repeat (first | exact (Kd.R_reads' HO405.out).2.2 | (with_reducible refine Kd.C_alloc ?_ _) | (with_reducible refine Kd.C_drewN ?_ _) | (with_reducible refine Kd.C_drew ?_))); (case side2 => exact (Kd.R_reads' HO405.out).2.1); (case side3 => repeat (first | exact (Kd.R_reads' HO408.out).2.2 | (with_reducible refine Kd.C_alloc ?_ _) | (with_reducible refine Kd.C_drewN ?_ _) | (with_reducible refine Kd.C_drew ?_))); (case side4 => exact (Kd.R_reads' HO408.out).2.1); rintro e w29 ⟨rfl, hb⟩; refine ⟨_, rfl, ?_⟩; replace HO405 := Aside0.mk (Kd.R_below (sqR HO405) hb); replace HO408 := Aside0.mk (Kd.R_below (sqR HO408) hb); replace HO412 := Aside0.mk (Kd.R_below (sqR HO412) hb); replace BK400 := sqk BK400 hb; replace BK409 := sqk BK409 hb; replace HB := sqb hb HB; (try clear hb); (try clear hb2); (try clear hk); (try clear hi)) | ((with_reducible refine gate_dst (N := 8) rfl ?_); (try (refine gate_guard (by rfl) ?_; dsimp only)); refine box_event ?hg (N := 8) ?hd (cs := #[.int .i64 0, .int .i64 0]) (t := 41) ?hr ?_; (case hd => rfl); (case hg => rfl); (case hr => first | (go_simp; done) | (go_simp; rfl)); intro gb417 hg w30 hbox hb; replace HO405 := Aside0.mk (Kd.R_below (Kd.R_elderB (sqR HO405) gb417 (Nat.le_of_eq hg.symm)) hb); replace HO408 := Aside0.mk (Kd.R_below (sqR HO408) hb); replace HO412 := Aside0.mk (Kd.R_below (sqR HO412) hb); have BK417 := Aside0.mk (hbox); have GW417 := Aside0.mk (sqZ hg HB); have GE417 := Aside0.mk (sqZ hg HB); replace HB := sqb hb HB; have NB400_417 := Aside0.mk (sqL hg BK400); have NB417_400 := Aside0.mk (sqG hg BK400); replace BK400 := sqk BK400 hb; have NB409_417 := Aside0.mk (sqL hg BK409); have NB417_409 := Aside0.mk (sqG hg BK409); replace BK409 := sqk BK409 hb; clear hb hbox hg; have hnb31 := NB417_400.out; have hnc31 := NB400_417.out; have hnb32 := NB417_409.out; have hnc32 := NB409_417.out; have hcz33_0 := sqc0 BK417; have hcz33_1 := sqc1 BK417; have hfz33_0 := blk_frozen BK417.out 0; have hfz33_1 := blk_frozen BK417.out 1; have hcz34_0 := sqc0 BK409; have hcz34_1 := sqc1 BK409; have hfz34_0 := blk_frozen BK409.out 0; have hfz34_1 := blk_frozen BK409.out 1; have hcz35_0 := sqc0 BK400; have hcz35_1 := sqc1 BK400; have hfz35_0 := blk_frozen BK400.out 0; have hfz35_1 := blk_frozen BK400.out 1) | ((with_reducible refine gate_callee (f := 23) rfl ?_); refine goesL_ (some 31) rfl rfl Tryd.func23 sqF rfl #[.agg #[.slice Ao23 t403.length co23, .slice Ao26 t406.length co26], .agg #[.slice A0_0 l0_0.length c0_0, .slice A0_1 l0_1.length c0_1]] rfl sqM ?_; (with_reducible refine (rf_Same.calls k _ _ t403 _ _ t406 _ _ l0_0 _ _ l0_1 true _ ?side1 ?side2 ?side3 ?side4 ?side5 ?side6 ?side7 ?side8 A13.out).mono ?_); (case side1 => refine (Kd.R_reads' (e := 41) (base := w.heap.size) (ok := fun k_ => (True ∧ k_ ≠ gb417)) (n := t403.length) (c := co23) ?_).2.2; exact (by (with_reducible repeat (first | apply Kd.R_alloc | apply Kd.R_drewN | apply Kd.R_drew)); exact (Kd.R_mono (Kd.R_far (p := ⟨gb417, 1, none⟩) (Kd.R_far (p := ⟨gb417, 0, none⟩) (Kd.R_mono HO405.out (fun k_ hk => (⟨hk, hk.2⟩ : _ ∧ k_ ≠ gb417))) (fun _ hk => hk.2) (.int .i64 t414)) (fun _ hk => hk.2) (.int .i64 t415)) (fun _ h_ => h_.1)))); (case side2 => exact (Kd.R_reads' HO405.out).2.1); (case side3 => refine (Kd.R_reads' (e := 80) (base := w.heap.size) (ok := fun k_ => True) (n := t406.length) (c := co26) ?_).2.2; exact (by (with_reducible repeat (first | apply Kd.R_alloc | apply Kd.R_drewN | apply Kd.R_drew)); exact (Kd.R_mono (Kd.R_far (p := ⟨gb417, 1, none⟩) (Kd.R_far (p := ⟨gb417, 0, none⟩) (Kd.R_types HO408.out BK417.out (by decide)) (fun _ hk => hk.2) (.int .i64 t414)) (fun _ hk => hk.2) (.int .i64 t415)) (fun _ h_ => h_.1)))); (case side4 => exact (Kd.R_reads' HO408.out).2.1); (case side5 => exact Kd.C_below HR0_0.out (sqB HB)); (case side6 => exact HC0_0.out); (case side7 => exact Kd.C_below HR0_1.out (sqB HB)); (case side8 => exact HC0_1.out); rintro e w36 ⟨rfl, hb⟩; refine ⟨_, rfl, ?_⟩; replace HO405 := Aside0.mk (Kd.R_below (by (with_reducible repeat (first | apply Kd.R_alloc | apply Kd.R_drewN | apply Kd.R_drew)); exact (Kd.R_mono (Kd.R_far (p := ⟨gb417, 1, none⟩) (Kd.R_far (p := ⟨gb417, 0, none⟩) (Kd.R_mono HO405.out (fun k_ hk => (⟨hk, hk.2⟩ : _ ∧ k_ ≠ gb417))) (fun _ hk => hk.2) (.int .i64 t414)) (fun _ hk => hk.2) (.int .i64 t415)) (fun _ h_ => h_.1))) hb); replace HO408 := Aside0.mk (Kd.R_below (by (with_reducible repeat (first | apply Kd.R_alloc | apply Kd.R_drewN | apply Kd.R_drew)); exact (Kd.R_mono (Kd.R_far (p := ⟨gb417, 1, none⟩) (Kd.R_far (p := ⟨gb417, 0, none⟩) (Kd.R_types HO408.out BK417.out (by decide)) (fun _ hk => hk.2) (.int .i64 t414)) (fun _ hk => hk.2) (.int .i64 t415)) (fun _ h_ => h_.1))) hb); replace HO412 := Aside0.mk (Kd.R_below (by (with_reducible repeat (first | apply Kd.R_alloc | apply Kd.R_drewN | apply Kd.R_drew)); exact (Kd.R_mono (Kd.R_far (p := ⟨gb417, 1, none⟩) (Kd.R_far (p := ⟨gb417, 0, none⟩) (Kd.R_types HO412.out BK417.out (by decide)) (fun _ hk => hk.2) (.int .i64 t414)) (fun _ hk => hk.2) (.int .i64 t415)) (fun _ h_ => h_.1))) hb); replace BK400 := Aside0.mk (blk_below (g := gb400) (o := .cells #[.slice A0_0 l0_0.length c0_0, .slice A0_1 l0_1.length c0_1] 25 (0, 0)) sqX hb); replace BK409 := Aside0.mk (blk_below (g := gb409) (o := .cells #[.slice Ao23 t403.length co23, .slice Ao26 t406.length co26] 25 (0, 0)) sqX hb); replace BK417 := Aside0.mk (blk_below (g := gb417) (o := .cells #[.int .i64 t414, .int .i64 t415] 41 (0, 0)) (by (with_reducible repeat (first | refine blk_drewN ?_ _ | refine blk_drew ?_ | refine blk_alloc ?_ _)); refine blk_put (cs := #[.int .i64 t414, .int .i64 0]) ?_ 1 _ rfl; (with_reducible repeat (first | refine blk_drewN ?_ _ | refine blk_drew ?_ | refine blk_alloc ?_ _)); refine blk_put (cs := #[.int .i64 0, .int .i64 0]) ?_ 0 _ rfl; (with_reducible repeat (first | refine blk_drewN ?_ _ | refine blk_drew ?_ | refine blk_alloc ?_ _)); exact BK417.out) hb); replace HB := sqb hb HB; (try clear hb); (try clear hb2); (try clear hk); (try clear hi); have hcz37_0 := sqc0 BK400; have hcz37_1 := sqc1 BK400; have hfz37_0 := blk_frozen BK400.out 0; have hfz37_1 := blk_frozen BK400.out 1) | ((with_reducible refine gate_callee (f := 33) rfl ?_); refine goesL_ (some 35) rfl rfl Tryd.func33 sqF rfl #[.agg #[.slice A0_0 l0_0.length c0_0, .slice A0_1 l0_1.length c0_1]] rfl sqM ?_; (with_reducible refine (rf_Stolen.calls k _ _ l0_0 _ _ l0_1 t419 t422 _ ?side1 ?side2 ?side3 ?side4 A15.out).mono ?_); (case side1 => exact sqQ HR0_0 HB); (case side2 => exact HC0_0.out); (case side3 => exact sqQ HR0_1 HB); (case side4 => exact HC0_1.out); rintro e w38 ⟨v420, rfl, ho0, hb⟩; refine ⟨_, rfl, ?_⟩; replace HO405 := Aside0.mk (Kd.R_below (sqR HO405) hb); replace HO408 := Aside0.mk (Kd.R_below (sqR HO408) hb); have HO421 := Aside0.mk (Kd.R_lower (Kd.R_new' ho0 (Kd.R_lt (sqR HO412))) (below_size (sqB HB))); replace HO412 := Aside0.mk (Kd.R_elder' (sqR HO412) (Kd.R_base ho0) hb); replace BK400 := sqk BK400 hb; replace BK409 := sqk BK409 hb; replace BK417 := sqk BK417 hb; replace HB := sqb hb HB; (try clear hb); (try clear hb2); (try clear hk); (try clear hi); (try clear ho0)))
   (try simp only [Act.put, sqA])
   go_cut [59] (fun v59 wc => ∃ (kq : Nat) (x59_15 : Bool), v59 = .bool x59_15 ∧ Aside0 (lw_WoolWheres.j0 kq a1 t416 x59_15 l0_0 l0_1 t414 t415 = some r) ∧ Aside0 (kq ≤ k) ∧ Aside0 (Kd.R k41 41 wc w.heap.size (fun k_ => k_ ≠ gb417) (.slice Ao23 t403.length co23) t403) ∧ Aside0 (Kd.R k80 80 wc w.heap.size (fun _ => True) (.slice Ao26 t406.length co26) t406) ∧ Aside0 (wc.heap[gb400]? = some (.cells #[(.slice A0_0 l0_0.length c0_0), (.slice A0_1 l0_1.length c0_1)] 25 (0, 0))) ∧ Aside0 (wc.heap[gb409]? = some (.cells #[(.slice Ao23 t403.length co23), (.slice Ao26 t406.length co26)] 25 (0, 0))) ∧ Aside0 (wc.heap[gb417]? = some (.cells #[.int .i64 t414, .int .i64 t415] 41 (0, 0))) ∧ Aside0 (Below w.heap.size w wc))
   case first =>
    have H := HC16.out; clear HC16
    by_cases c39 : t413 = t422
    ·rw [if_pos c39] at H
     have c39b0 : (t413 == t422) = true := beq_iff_eq.mpr c39; have c39b1 : (t413 != t422) = false := bne_eq_false_iff_eq.mpr c39; clear c39
     (first | rw [c39b0] | (simp only [i64_w, i32_w]; rw [c39b0]) | skip)
     by_cases c40 : t422 = 0
     ·rw [if_pos c40] at H
      have c40b0 : (t422 == 0) = true := beq_iff_eq.mpr c40; have c40b1 : (t422 != 0) = false := bne_eq_false_iff_eq.mpr c40; clear c40; obtain ⟨t423, A410, H⟩ := Option.bind_eq_some_iff.mp H; have A41 := Aside0.mk A410; clear A410; have H' := Aside0.mk H; clear H; obtain ⟨Ao42, co42, eo42⟩ := Kd.R_slice HO412.out; subst eo42; obtain ⟨Ao43, co43, eo43⟩ := Kd.R_slice HO421.out; subst eo43
      go_wp2_with (first | (go_at_call 34; (with_reducible refine (rf_Ints.calls k _ _ t410 _ _ t419 t423 _ ?side1 ?side2 ?side3 ?side4 A41.out).mono ?_); (case side1 => repeat (first | exact (Kd.R_reads' HO412.out).2.2 | (with_reducible refine Kd.C_alloc ?_ _) | (with_reducible refine Kd.C_drewN ?_ _) | (with_reducible refine Kd.C_drew ?_))); (case side2 => exact (Kd.R_reads' HO412.out).2.1); (case side3 => repeat (first | exact (Kd.R_reads' HO421.out).2.2 | (with_reducible refine Kd.C_alloc ?_ _) | (with_reducible refine Kd.C_drewN ?_ _) | (with_reducible refine Kd.C_drew ?_))); (case side4 => exact (Kd.R_reads' HO421.out).2.1); rintro e w' ⟨rfl, ⟨nd, rfl⟩⟩))
      go_meet
      case rel => exact ⟨_, (!t423), sqE, H', ⟨by first | omega | exact Nat.le_refl _⟩, ⟨by (with_reducible repeat (first | apply Kd.R_alloc | apply Kd.R_drewN | apply Kd.R_drew)); exact Kd.R_mono HO405.out (fun _ hk => hk.2)⟩, ⟨sqR HO408⟩, ⟨sqK BK400⟩, ⟨sqK BK409⟩, ⟨sqK BK417⟩, ⟨sqB HB⟩⟩
     ·rw [if_neg c40] at H
      have c40b0 : (t422 == 0) = false := beq_eq_false_iff_ne.mpr c40; have c40b1 : (t422 != 0) = true := bne_iff_ne.mpr c40
      by_cases c44 : (t410.length : Int) = 0
      ·rw [if_pos c44] at H
       have c44b0 : ((t410.length : Int) == 0) = true := beq_iff_eq.mpr c44; have c44b1 : ((t410.length : Int) != 0) = false := bne_eq_false_iff_eq.mpr c44; clear c44; have H' := Aside0.mk H; clear H; obtain ⟨Ao45, co45, eo45⟩ := Kd.R_slice HO412.out; subst eo45
       go_wp2
       go_meet
       case rel => exact ⟨_, (false), sqE, H', ⟨by first | omega | exact Nat.le_refl _⟩, ⟨by (with_reducible repeat (first | apply Kd.R_alloc | apply Kd.R_drewN | apply Kd.R_drew)); exact Kd.R_mono HO405.out (fun _ hk => hk.2)⟩, ⟨sqR HO408⟩, ⟨sqK BK400⟩, ⟨sqK BK409⟩, ⟨sqK BK417⟩, ⟨sqB HB⟩⟩
      ·rw [if_neg c44] at H
       have c44b0 : ((t410.length : Int) == 0) = false := beq_eq_false_iff_ne.mpr c44; have c44b1 : ((t410.length : Int) != 0) = true := bne_iff_ne.mpr c44
       have c44b2 : ¬ (t410 = []) := fun h_ => c44 (by rw [h_]; rfl)
       have H' := Aside0.mk H; clear H; obtain ⟨Ao46, co46, eo46⟩ := Kd.R_slice HO412.out; subst eo46
       go_wp2
       go_meet
       case rel => exact ⟨_, (true), sqE, H', ⟨by first | omega | exact Nat.le_refl _⟩, ⟨by (with_reducible repeat (first | apply Kd.R_alloc | apply Kd.R_drewN | apply Kd.R_drew)); exact Kd.R_mono HO405.out (fun _ hk => hk.2)⟩, ⟨sqR HO408⟩, ⟨sqK BK400⟩, ⟨sqK BK409⟩, ⟨sqK BK417⟩, ⟨sqB HB⟩⟩
    ·rw [if_neg c39] at H
     have c39b0 : (t413 == t422) = false := beq_eq_false_iff_ne.mpr c39; have c39b1 : (t413 != t422) = true := bne_iff_ne.mpr c39
     (first | rw [c39b0] | (simp only [i64_w, i32_w]; rw [c39b0]) | skip)
     have H' := Aside0.mk H; clear H; go_wp2
     go_meet
     case rel => exact ⟨_, (true), sqE, H', ⟨by first | omega | exact Nat.le_refl _⟩, ⟨by (with_reducible repeat (first | apply Kd.R_alloc | apply Kd.R_drewN | apply Kd.R_drew)); exact Kd.R_mono HO405.out (fun _ hk => hk.2)⟩, ⟨sqR HO408⟩, ⟨sqK BK400⟩, ⟨sqK BK409⟩, ⟨sqK BK417⟩, ⟨sqB HB⟩⟩
   case rest =>
    clear HC16; try clear c4
    (try clear c14); (try clear hcz18_0); (try clear hcz18_1); (try clear hcz20_0); (try clear hcz20_1); (try clear hcz25_0); (try clear hcz25_1); (try clear hcz28_0); (try clear hcz28_1); (try clear hcz33_0); (try clear hcz33_1); (try clear hcz34_0); (try clear hcz34_1); (try clear hcz35_0); (try clear hcz35_1); (try clear hcz37_0); (try clear hcz37_1); (try clear hfz18_0); (try clear hfz18_1); (try clear hfz20_0); (try clear hfz20_1); (try clear hfz25_0); (try clear hfz25_1); (try clear hfz28_0); (try clear hfz28_1); (try clear hfz33_0); (try clear hfz33_1); (try clear hfz34_0); (try clear hfz34_1); (try clear hfz35_0); (try clear hfz35_1); (try clear hfz37_0); (try clear hfz37_1); obtain ⟨kq, x59_15, rfl, HA, HJ15, HO_410000, HO_410001, BK400, BK409, BK417, HB⟩ := hcut
    cases kq with
    | zero => exact absurd HA.out (by simp [lw_WoolWheres.j0])
    | succ kj15 =>
     have H := HA.out; clear HA; simp only [lw_WoolWheres.j0] at H
     by_cases c47 : x59_15 = true
     ·subst c47
      rw [if_pos rfl] at H; obtain rfl := Option.some.inj H
      go_wp2
      go_ret
      exact ⟨by first | rfl | (simp [errW_none, errW_some] <;> rfl) | (simp [*, errW_none, errW_some] <;> rfl), sqB HB⟩
     ·replace c47 := Bool.eq_false_iff.mpr c47
      subst c47; rw [if_neg Bool.false_ne_true] at H; obtain ⟨t424, A480, H⟩ := Option.bind_eq_some_iff.mp H; have A48 := Aside0.mk A480; clear A480; have HC49 := Aside0.mk H; clear H; have hnb50 := NB400_409.out; have hnc50 := NB409_400.out; have hnb51 := NB400_417.out; have hnc51 := NB417_400.out; have hcz52_0 := sqc0 BK400; have hcz52_1 := sqc1 BK400; have hfz52_0 := blk_frozen BK400.out 0; have hfz52_1 := blk_frozen BK400.out 1
      go_upto_region 12 with (first | ((with_reducible refine gate_callee (f := 22) rfl ?_); refine goesL_ (some 61) rfl rfl Tryd.func22 sqF rfl #[.agg #[.slice A0_0 l0_0.length c0_0, .slice A0_1 l0_1.length c0_1]] rfl sqM ?_; (with_reducible refine (rf_Check.calls kj15 _ _ l0_0 _ _ l0_1 t424 _ ?side1 ?side2 ?side3 ?side4 A48.out).mono ?_); (case side1 => exact sqQ HR0_0 HB); (case side2 => exact HC0_0.out); (case side3 => exact sqQ HR0_1 HB); (case side4 => exact HC0_1.out); rintro e w53 ⟨rfl, hb⟩; refine ⟨_, rfl, ?_⟩; replace HO_410000 := Aside0.mk (Kd.R_below (sqR HO_410000) hb); replace HO_410001 := Aside0.mk (Kd.R_below (sqR HO_410001) hb); replace BK400 := sqk BK400 hb; replace BK409 := sqk BK409 hb; replace BK417 := sqk BK417 hb; replace HB := sqb hb HB; (try clear hb); (try clear hb2); (try clear hk); (try clear hi)))
      (try simp only [Act.put, sqA])
      go_cut [72] (fun v72 wc => ∃ (kq : Nat) (x72_48 : Bool), v72 = .bool x72_48 ∧ Aside0 (lw_WoolWheres.j1 kq a1 t416 t424 x72_48 l0_0 l0_1 t414 t415 = some r) ∧ Aside0 (kq ≤ kj15) ∧ Aside0 (Kd.R k41 41 wc w.heap.size (fun k_ => k_ ≠ gb417) (.slice Ao23 t403.length co23) t403) ∧ Aside0 (Kd.R k80 80 wc w.heap.size (fun _ => True) (.slice Ao26 t406.length co26) t406) ∧ Aside0 (wc.heap[gb400]? = some (.cells #[(.slice A0_0 l0_0.length c0_0), (.slice A0_1 l0_1.length c0_1)] 25 (0, 0))) ∧ Aside0 (wc.heap[gb409]? = some (.cells #[(.slice Ao23 t403.length co23), (.slice Ao26 t406.length co26)] 25 (0, 0))) ∧ Aside0 (wc.heap[gb417]? = some (.cells #[.int .i64 t414, .int .i64 t415] 41 (0, 0))) ∧ Aside0 (Below w.heap.size w wc))
      case first =>
       have H := HC49.out; clear HC49
       by_cases c54 : t424 = 0
       ·rw [if_pos c54] at H
        have c54b0 : (t424 == 0) = true := beq_iff_eq.mpr c54; have c54b1 : (t424 != 0) = false := bne_eq_false_iff_eq.mpr c54; clear c54
        (first | rw [c54b0] | (simp only [i64_w, i32_w]; rw [c54b0]) | skip)
        obtain ⟨t425, A550, H⟩ := Option.bind_eq_some_iff.mp H; have A55 := Aside0.mk A550; clear A550; have H' := Aside0.mk H; clear H; have hnb56 := NB400_409.out; have hnc56 := NB409_400.out; have hnb57 := NB400_417.out; have hnc57 := NB417_400.out; have hcz58_0 := sqc0 BK400; have hcz58_1 := sqc1 BK400; have hfz58_0 := blk_frozen BK400.out 0; have hfz58_1 := blk_frozen BK400.out 1
        go_wp2_with (first | (go_at_call 35; (with_reducible refine (rf_In.calls a1 0 (wrap64 ((l0_0.length : Int) - 1)) t425 _ A55.out).mono ?_); rintro e w' ⟨rfl, ⟨nd, rfl⟩⟩))
        go_meet
        case rel => exact ⟨_, (!t425), sqE, H', ⟨by have := HJ15.out; first | omega | exact Nat.le_refl _⟩, ⟨sqR HO_410000⟩, ⟨sqR HO_410001⟩, ⟨sqK BK400⟩, ⟨sqK BK409⟩, ⟨sqK BK417⟩, ⟨sqB HB⟩⟩
       ·rw [if_neg c54] at H
        have c54b0 : (t424 == 0) = false := beq_eq_false_iff_ne.mpr c54; have c54b1 : (t424 != 0) = true := bne_iff_ne.mpr c54
        (first | rw [c54b0] | (simp only [i64_w, i32_w]; rw [c54b0]) | skip)
        have H' := Aside0.mk H; clear H; go_wp2
        go_meet
        case rel => exact ⟨_, (false), sqE, H', ⟨by have := HJ15.out; first | omega | exact Nat.le_refl _⟩, ⟨sqR HO_410000⟩, ⟨sqR HO_410001⟩, ⟨sqK BK400⟩, ⟨sqK BK409⟩, ⟨sqK BK417⟩, ⟨sqB HB⟩⟩
      case rest =>
       clear HC49; try clear c47
       (try clear hcz52_0); (try clear hcz52_1); (try clear hfz52_0); (try clear hfz52_1); obtain ⟨kq, x72_48, rfl, HA, HJ48, HO_410000, HO_410001, BK400, BK409, BK417, HB⟩ := hcut
       cases kq with
       | zero => exact absurd HA.out (by simp [lw_WoolWheres.j1])
       | succ kj48 =>
        have H := HA.out; clear HA; simp only [lw_WoolWheres.j1] at H; have HC59 := Aside0.mk H
        clear H; go_upto_if 72 with (fail)
        go_cut [11] (fun v11 wc => ∃ (kq : Nat) (x11_58 : Int), v11 = .int .i64 x11_58 ∧ Aside0 (lw_WoolWheres.j2 kq a1 t416 x11_58 l0_0 l0_1 t414 t415 = some r) ∧ Aside0 (kq ≤ kj48) ∧ Aside0 (Kd.R k41 41 wc w.heap.size (fun k_ => k_ ≠ gb417) (.slice Ao23 t403.length co23) t403) ∧ Aside0 (Kd.R k80 80 wc w.heap.size (fun _ => True) (.slice Ao26 t406.length co26) t406) ∧ Aside0 (wc.heap[gb400]? = some (.cells #[(.slice A0_0 l0_0.length c0_0), (.slice A0_1 l0_1.length c0_1)] 25 (0, 0))) ∧ Aside0 (wc.heap[gb409]? = some (.cells #[(.slice Ao23 t403.length co23), (.slice Ao26 t406.length co26)] 25 (0, 0))) ∧ Aside0 (wc.heap[gb417]? = some (.cells #[.int .i64 t414, .int .i64 t415] 41 (0, 0))) ∧ Aside0 (Below w.heap.size w wc))
        case first =>
         have H := HC59.out; clear HC59
         by_cases c60 : x72_48 = true
         ·subst c60
          rw [if_pos rfl] at H; have H' := Aside0.mk H; clear H; go_wp2
          go_meet
          case rel => exact ⟨_, (7), sqE, H', ⟨by have := HJ15.out; have := HJ48.out; first | omega | exact Nat.le_refl _⟩, ⟨sqR HO_410000⟩, ⟨sqR HO_410001⟩, ⟨sqK BK400⟩, ⟨sqK BK409⟩, ⟨sqK BK417⟩, ⟨sqB HB⟩⟩
         ·replace c60 := Bool.eq_false_iff.mpr c60
          subst c60; rw [if_neg Bool.false_ne_true] at H; have H' := Aside0.mk H; clear H; go_wp2
          go_meet
          case rel => exact ⟨_, (t424), sqE, H', ⟨by have := HJ15.out; have := HJ48.out; first | omega | exact Nat.le_refl _⟩, ⟨sqR HO_410000⟩, ⟨sqR HO_410001⟩, ⟨sqK BK400⟩, ⟨sqK BK409⟩, ⟨sqK BK417⟩, ⟨sqB HB⟩⟩
        case rest =>
         clear HC59; obtain ⟨kq, x11_58, rfl, HA, HJ58, HO_410000, HO_410001, BK400, BK409, BK417, HB⟩ := hcut
         cases kq with
         | zero => exact absurd HA.out (by simp [lw_WoolWheres.j2])
         | succ kj58 =>
          have H := HA.out; clear HA; simp only [lw_WoolWheres.j2] at H
          by_cases c61 : x11_58 = 0
          ·rw [if_pos c61] at H
           have c61b0 : (x11_58 == 0) = true := beq_iff_eq.mpr c61; have c61b1 : (x11_58 != 0) = false := bne_eq_false_iff_eq.mpr c61; clear c61; obtain ⟨⟨t426, t427⟩, A620, H⟩ := Option.bind_eq_some_iff.mp H; replace H : (if t426 ≥ 0 then (if t416 = 0 then (if (t414 == t426 && (t415 == t427)) = true then ((lw_known.f).bind fun t429 => (some t429)) else (some false)) else (some false)) else (if t416 = 9 then (if (t414 == 0 && (t415 == 0)) = true then ((lw_known.f).bind fun t430 => (some t430)) else (some false)) else (some false))) = some r := H; have A62 := Aside0.mk A620; clear A620
           by_cases c63 : t426 ≥ 0
           ·rw [if_pos c63] at H
            have c63b0 : decide (0 ≤ t426) = true := decide_eq_true c63; clear c63
            by_cases c64 : t416 = 0
            ·rw [if_pos c64] at H
             have c64b0 : (t416 == 0) = true := beq_iff_eq.mpr c64; have c64b1 : (t416 != 0) = false := bne_eq_false_iff_eq.mpr c64; clear c64
             by_cases c65 : (t414 == t426 && (t415 == t427)) = true
             ·rw [if_pos c65] at H
              have c65b0 : (t414 == t426 && (t415 == t427)) = true := c65
              (try (have c65b1 : decide (t414 = t426 && (t415 == t427)) = true := by simpa using c65))
              (try (have c65b2 : (t414 == t426 && (t415 == t427)) = true := by simpa using c65))
              clear c65; obtain ⟨t429, A660, H⟩ := Option.bind_eq_some_iff.mp H; have A66 := Aside0.mk A660; clear A660; obtain rfl := Option.some.inj H; have hnb67 := NB400_409.out; have hnc67 := NB409_400.out; have hnb68 := NB400_417.out; have hnc68 := NB417_400.out; have hcz69_0 := sqc0 BK400; have hcz69_1 := sqc1 BK400; have hfz69_0 := blk_frozen BK400.out 0; have hfz69_1 := blk_frozen BK400.out 1
              go_wp2_with (first | ((with_reducible refine gate_callee (f := 36) rfl ?_); refine goesL_ (some 77) rfl rfl Tryd.func36 sqF rfl #[.agg #[.slice A0_0 l0_0.length c0_0, .slice A0_1 l0_1.length c0_1], .int .i64 a1] rfl sqM ?_; (with_reducible refine (rf_Amount.calls kj58 _ _ l0_0 _ _ l0_1 a1 t426 t427 _ ?side1 ?side2 ?side3 ?side4 A62.out).mono ?_); (case side1 => exact sqQ HR0_0 HB); (case side2 => exact HC0_0.out); (case side3 => exact sqQ HR0_1 HB); (case side4 => exact HC0_1.out); rintro e w70 ⟨rfl, hb⟩; refine ⟨_, rfl, ?_⟩; replace HO_410000 := Aside0.mk (Kd.R_below (sqR HO_410000) hb); replace HO_410001 := Aside0.mk (Kd.R_below (sqR HO_410001) hb); replace BK400 := sqk BK400 hb; replace BK409 := sqk BK409 hb; replace BK417 := sqk BK417 hb; replace HB := sqb hb HB; (try clear hb); (try clear hb2); (try clear hk); (try clear hi)) | ((with_reducible refine gate_dst (N := 12) rfl ?_); (try (refine gate_guard (by rfl) ?_; dsimp only)); refine box_event ?hg (N := 12) ?hd (cs := #[.int .i64 0, .int .i64 0]) (t := 41) ?hr ?_; (case hd => rfl); (case hg => rfl); (case hr => first | (go_simp; done) | (go_simp; rfl)); intro gb428 hg w71 hbox hb; replace HO_410000 := Aside0.mk (Kd.R_below (Kd.R_elderB (sqR HO_410000) gb428 (Nat.le_of_eq hg.symm)) hb); replace HO_410001 := Aside0.mk (Kd.R_below (sqR HO_410001) hb); have BK428 := Aside0.mk (hbox); have GW428 := Aside0.mk (sqZ hg HB); have GE428 := Aside0.mk (sqZ hg HB); replace HB := sqb hb HB; have NB400_428 := Aside0.mk (sqL hg BK400); have NB428_400 := Aside0.mk (sqG hg BK400); replace BK400 := sqk BK400 hb; have NB409_428 := Aside0.mk (sqL hg BK409); have NB428_409 := Aside0.mk (sqG hg BK409); replace BK409 := sqk BK409 hb; have NB417_428 := Aside0.mk (sqL hg BK417); have NB428_417 := Aside0.mk (sqG hg BK417); replace BK417 := sqk BK417 hb; clear hb hbox hg; have hnb72 := NB428_400.out; have hnc72 := NB400_428.out; have hnb73 := NB428_409.out; have hnc73 := NB409_428.out; have hnb74 := NB428_417.out; have hnc74 := NB417_428.out; have hcz75_0 := sqc0 BK428; have hcz75_1 := sqc1 BK428; have hfz75_0 := blk_frozen BK428.out 0; have hfz75_1 := blk_frozen BK428.out 1; have hnb76 := NB417_409.out; have hnc76 := NB409_417.out; have hcz77_0 := sqc0 BK417; have hcz77_1 := sqc1 BK417; have hfz77_0 := blk_frozen BK417.out 0; have hfz77_1 := blk_frozen BK417.out 1) | (go_at_call 17; (with_reducible refine (lw_known.calls t429 _ ?sideG A66.out).mono ?_); (case sideG => exact (Kd.C_below HGL.out (sqB HB))); rintro e w78 ⟨rfl, hb⟩; replace HO_410000 := Aside0.mk (Kd.R_below (by (with_reducible repeat (first | apply Kd.R_alloc | apply Kd.R_drewN | apply Kd.R_drew)); exact (Kd.R_mono (Kd.R_far (p := ⟨gb428, 1, none⟩) (Kd.R_far (p := ⟨gb428, 0, none⟩) (Kd.R_mono HO_410000.out (fun k_ hk => (⟨hk, hk.2⟩ : _ ∧ k_ ≠ gb428))) (fun _ hk => hk.2) (.int .i64 t426)) (fun _ hk => hk.2) (.int .i64 t427)) (fun _ h_ => h_.1))) hb); replace HO_410001 := Aside0.mk (Kd.R_below (by (with_reducible repeat (first | apply Kd.R_alloc | apply Kd.R_drewN | apply Kd.R_drew)); exact (Kd.R_mono (Kd.R_far (p := ⟨gb428, 1, none⟩) (Kd.R_far (p := ⟨gb428, 0, none⟩) (Kd.R_types HO_410001.out BK428.out (by decide)) (fun _ hk => hk.2) (.int .i64 t426)) (fun _ hk => hk.2) (.int .i64 t427)) (fun _ h_ => h_.1))) hb); replace BK400 := Aside0.mk (blk_below (g := gb400) (o := .cells #[.slice A0_0 l0_0.length c0_0, .slice A0_1 l0_1.length c0_1] 25 (0, 0)) sqX hb); replace BK409 := Aside0.mk (blk_below (g := gb409) (o := .cells #[.slice Ao23 t403.length co23, .slice Ao26 t406.length co26] 25 (0, 0)) sqX hb); replace BK417 := Aside0.mk (blk_below (g := gb417) (o := .cells #[.int .i64 t414, .int .i64 t415] 41 (0, 0)) sqX hb); replace BK428 := Aside0.mk (blk_below (g := gb428) (o := .cells #[.int .i64 t426, .int .i64 t427] 41 (0, 0)) (by (with_reducible repeat (first | refine blk_drewN ?_ _ | refine blk_drew ?_ | refine blk_alloc ?_ _)); refine blk_put (cs := #[.int .i64 t426, .int .i64 0]) ?_ 1 _ rfl; (with_reducible repeat (first | refine blk_drewN ?_ _ | refine blk_drew ?_ | refine blk_alloc ?_ _)); refine blk_put (cs := #[.int .i64 0, .int .i64 0]) ?_ 0 _ rfl; (with_reducible repeat (first | refine blk_drewN ?_ _ | refine blk_drew ?_ | refine blk_alloc ?_ _)); exact BK428.out) hb); replace HB := sqb hb HB; (try clear hb); (try clear hb2); (try clear hk); (try clear hi)))
              go_ret
              exact ⟨by first | rfl | (simp [errW_none, errW_some] <;> rfl) | (simp [*, errW_none, errW_some] <;> rfl), sqB HB⟩
             ·rw [if_neg c65] at H
              have c65b0 : (t414 == t426 && (t415 == t427)) = false := by simpa using c65
              (try (have c65b1 : decide (t414 = t426 && (t415 == t427)) = false := by simpa using c65))
              (try (have c65b2 : (t414 == t426 && (t415 == t427)) = false := by simpa using c65))
              (try (have c65b3 : ¬ (t414 = t426 && (t415 == t427)) := by simpa using c65))
              clear c65; obtain rfl := Option.some.inj H; have hnb79 := NB400_409.out; have hnc79 := NB409_400.out; have hnb80 := NB400_417.out; have hnc80 := NB417_400.out; have hcz81_0 := sqc0 BK400; have hcz81_1 := sqc1 BK400; have hfz81_0 := blk_frozen BK400.out 0; have hfz81_1 := blk_frozen BK400.out 1
              go_wp2_with (first | ((with_reducible refine gate_callee (f := 36) rfl ?_); refine goesL_ (some 77) rfl rfl Tryd.func36 sqF rfl #[.agg #[.slice A0_0 l0_0.length c0_0, .slice A0_1 l0_1.length c0_1], .int .i64 a1] rfl sqM ?_; (with_reducible refine (rf_Amount.calls kj58 _ _ l0_0 _ _ l0_1 a1 t426 t427 _ ?side1 ?side2 ?side3 ?side4 A62.out).mono ?_); (case side1 => exact sqQ HR0_0 HB); (case side2 => exact HC0_0.out); (case side3 => exact sqQ HR0_1 HB); (case side4 => exact HC0_1.out); rintro e w82 ⟨rfl, hb⟩; refine ⟨_, rfl, ?_⟩; replace HO_410000 := Aside0.mk (Kd.R_below (sqR HO_410000) hb); replace HO_410001 := Aside0.mk (Kd.R_below (sqR HO_410001) hb); replace BK400 := sqk BK400 hb; replace BK409 := sqk BK409 hb; replace BK417 := sqk BK417 hb; replace HB := sqb hb HB; (try clear hb); (try clear hb2); (try clear hk); (try clear hi)) | ((with_reducible refine gate_dst (N := 12) rfl ?_); (try (refine gate_guard (by rfl) ?_; dsimp only)); refine box_event ?hg (N := 12) ?hd (cs := #[.int .i64 0, .int .i64 0]) (t := 41) ?hr ?_; (case hd => rfl); (case hg => rfl); (case hr => first | (go_simp; done) | (go_simp; rfl)); intro gb428 hg w83 hbox hb; replace HO_410000 := Aside0.mk (Kd.R_below (Kd.R_elderB (sqR HO_410000) gb428 (Nat.le_of_eq hg.symm)) hb); replace HO_410001 := Aside0.mk (Kd.R_below (sqR HO_410001) hb); have BK428 := Aside0.mk (hbox); have GW428 := Aside0.mk (sqZ hg HB); have GE428 := Aside0.mk (sqZ hg HB); replace HB := sqb hb HB; have NB400_428 := Aside0.mk (sqL hg BK400); have NB428_400 := Aside0.mk (sqG hg BK400); replace BK400 := sqk BK400 hb; have NB409_428 := Aside0.mk (sqL hg BK409); have NB428_409 := Aside0.mk (sqG hg BK409); replace BK409 := sqk BK409 hb; have NB417_428 := Aside0.mk (sqL hg BK417); have NB428_417 := Aside0.mk (sqG hg BK417); replace BK417 := sqk BK417 hb; clear hb hbox hg; have hnb84 := NB428_400.out; have hnc84 := NB400_428.out; have hnb85 := NB428_409.out; have hnc85 := NB409_428.out; have hnb86 := NB428_417.out; have hnc86 := NB417_428.out; have hcz87_0 := sqc0 BK428; have hcz87_1 := sqc1 BK428; have hfz87_0 := blk_frozen BK428.out 0; have hfz87_1 := blk_frozen BK428.out 1; have hnb88 := NB417_409.out; have hnc88 := NB409_417.out; have hcz89_0 := sqc0 BK417; have hcz89_1 := sqc1 BK417; have hfz89_0 := blk_frozen BK417.out 0; have hfz89_1 := blk_frozen BK417.out 1))
              go_ret
              exact ⟨by first | rfl | (simp [errW_none, errW_some] <;> rfl) | (simp [*, errW_none, errW_some] <;> rfl), sqB HB⟩
            ·rw [if_neg c64] at H
             have c64b0 : (t416 == 0) = false := beq_eq_false_iff_ne.mpr c64; have c64b1 : (t416 != 0) = true := bne_iff_ne.mpr c64; obtain rfl := Option.some.inj H; have hnb90 := NB400_409.out; have hnc90 := NB409_400.out; have hnb91 := NB400_417.out; have hnc91 := NB417_400.out; have hcz92_0 := sqc0 BK400; have hcz92_1 := sqc1 BK400; have hfz92_0 := blk_frozen BK400.out 0; have hfz92_1 := blk_frozen BK400.out 1
             go_wp2_with (first | ((with_reducible refine gate_callee (f := 36) rfl ?_); refine goesL_ (some 77) rfl rfl Tryd.func36 sqF rfl #[.agg #[.slice A0_0 l0_0.length c0_0, .slice A0_1 l0_1.length c0_1], .int .i64 a1] rfl sqM ?_; (with_reducible refine (rf_Amount.calls kj58 _ _ l0_0 _ _ l0_1 a1 t426 t427 _ ?side1 ?side2 ?side3 ?side4 A62.out).mono ?_); (case side1 => exact sqQ HR0_0 HB); (case side2 => exact HC0_0.out); (case side3 => exact sqQ HR0_1 HB); (case side4 => exact HC0_1.out); rintro e w93 ⟨rfl, hb⟩; refine ⟨_, rfl, ?_⟩; replace HO_410000 := Aside0.mk (Kd.R_below (sqR HO_410000) hb); replace HO_410001 := Aside0.mk (Kd.R_below (sqR HO_410001) hb); replace BK400 := sqk BK400 hb; replace BK409 := sqk BK409 hb; replace BK417 := sqk BK417 hb; replace HB := sqb hb HB; (try clear hb); (try clear hb2); (try clear hk); (try clear hi)) | ((with_reducible refine gate_dst (N := 12) rfl ?_); (try (refine gate_guard (by rfl) ?_; dsimp only)); refine box_event ?hg (N := 12) ?hd (cs := #[.int .i64 0, .int .i64 0]) (t := 41) ?hr ?_; (case hd => rfl); (case hg => rfl); (case hr => first | (go_simp; done) | (go_simp; rfl)); intro gb428 hg w94 hbox hb; replace HO_410000 := Aside0.mk (Kd.R_below (Kd.R_elderB (sqR HO_410000) gb428 (Nat.le_of_eq hg.symm)) hb); replace HO_410001 := Aside0.mk (Kd.R_below (sqR HO_410001) hb); have BK428 := Aside0.mk (hbox); have GW428 := Aside0.mk (sqZ hg HB); have GE428 := Aside0.mk (sqZ hg HB); replace HB := sqb hb HB; have NB400_428 := Aside0.mk (sqL hg BK400); have NB428_400 := Aside0.mk (sqG hg BK400); replace BK400 := sqk BK400 hb; have NB409_428 := Aside0.mk (sqL hg BK409); have NB428_409 := Aside0.mk (sqG hg BK409); replace BK409 := sqk BK409 hb; have NB417_428 := Aside0.mk (sqL hg BK417); have NB428_417 := Aside0.mk (sqG hg BK417); replace BK417 := sqk BK417 hb; clear hb hbox hg; have hnb95 := NB428_400.out; have hnc95 := NB400_428.out; have hnb96 := NB428_409.out; have hnc96 := NB409_428.out; have hnb97 := NB428_417.out; have hnc97 := NB417_428.out; have hcz98_0 := sqc0 BK428; have hcz98_1 := sqc1 BK428; have hfz98_0 := blk_frozen BK428.out 0; have hfz98_1 := blk_frozen BK428.out 1))
             go_ret
             exact ⟨by first | rfl | (simp [errW_none, errW_some] <;> rfl) | (simp [*, errW_none, errW_some] <;> rfl), sqB HB⟩
           ·rw [if_neg c63] at H
            have c63b0 : decide (0 ≤ t426) = false := decide_eq_false c63; clear c63
            by_cases c99 : t416 = 9
            ·rw [if_pos c99] at H
             have c99b0 : (t416 == 9) = true := beq_iff_eq.mpr c99; have c99b1 : (t416 != 9) = false := bne_eq_false_iff_eq.mpr c99; clear c99
             by_cases c100 : (t414 == 0 && (t415 == 0)) = true
             ·rw [if_pos c100] at H
              have c100b0 : (t414 == 0 && (t415 == 0)) = true := c100
              (try (have c100b1 : decide (t414 = 0 && (t415 == 0)) = true := by simpa using c100))
              (try (have c100b2 : (t414 == 0 && (t415 == 0)) = true := by simpa using c100))
              clear c100; obtain ⟨t430, A1010, H⟩ := Option.bind_eq_some_iff.mp H; have A101 := Aside0.mk A1010; clear A1010; obtain rfl := Option.some.inj H; have hnb102 := NB400_409.out; have hnc102 := NB409_400.out; have hnb103 := NB400_417.out; have hnc103 := NB417_400.out; have hcz104_0 := sqc0 BK400; have hcz104_1 := sqc1 BK400; have hfz104_0 := blk_frozen BK400.out 0; have hfz104_1 := blk_frozen BK400.out 1
              go_wp2_with (first | ((with_reducible refine gate_callee (f := 36) rfl ?_); refine goesL_ (some 77) rfl rfl Tryd.func36 sqF rfl #[.agg #[.slice A0_0 l0_0.length c0_0, .slice A0_1 l0_1.length c0_1], .int .i64 a1] rfl sqM ?_; (with_reducible refine (rf_Amount.calls kj58 _ _ l0_0 _ _ l0_1 a1 t426 t427 _ ?side1 ?side2 ?side3 ?side4 A62.out).mono ?_); (case side1 => exact sqQ HR0_0 HB); (case side2 => exact HC0_0.out); (case side3 => exact sqQ HR0_1 HB); (case side4 => exact HC0_1.out); rintro e w105 ⟨rfl, hb⟩; refine ⟨_, rfl, ?_⟩; replace HO_410000 := Aside0.mk (Kd.R_below (sqR HO_410000) hb); replace HO_410001 := Aside0.mk (Kd.R_below (sqR HO_410001) hb); replace BK400 := sqk BK400 hb; replace BK409 := sqk BK409 hb; replace BK417 := sqk BK417 hb; replace HB := sqb hb HB; (try clear hb); (try clear hb2); (try clear hk); (try clear hi)) | ((with_reducible refine gate_dst (N := 12) rfl ?_); (try (refine gate_guard (by rfl) ?_; dsimp only)); refine box_event ?hg (N := 12) ?hd (cs := #[.int .i64 0, .int .i64 0]) (t := 41) ?hr ?_; (case hd => rfl); (case hg => rfl); (case hr => first | (go_simp; done) | (go_simp; rfl)); intro gb428 hg w106 hbox hb; replace HO_410000 := Aside0.mk (Kd.R_below (Kd.R_elderB (sqR HO_410000) gb428 (Nat.le_of_eq hg.symm)) hb); replace HO_410001 := Aside0.mk (Kd.R_below (sqR HO_410001) hb); have BK428 := Aside0.mk (hbox); have GW428 := Aside0.mk (sqZ hg HB); have GE428 := Aside0.mk (sqZ hg HB); replace HB := sqb hb HB; have NB400_428 := Aside0.mk (sqL hg BK400); have NB428_400 := Aside0.mk (sqG hg BK400); replace BK400 := sqk BK400 hb; have NB409_428 := Aside0.mk (sqL hg BK409); have NB428_409 := Aside0.mk (sqG hg BK409); replace BK409 := sqk BK409 hb; have NB417_428 := Aside0.mk (sqL hg BK417); have NB428_417 := Aside0.mk (sqG hg BK417); replace BK417 := sqk BK417 hb; clear hb hbox hg; have hnb107 := NB428_400.out; have hnc107 := NB400_428.out; have hnb108 := NB428_409.out; have hnc108 := NB409_428.out; have hnb109 := NB428_417.out; have hnc109 := NB417_428.out; have hcz110_0 := sqc0 BK428; have hcz110_1 := sqc1 BK428; have hfz110_0 := blk_frozen BK428.out 0; have hfz110_1 := blk_frozen BK428.out 1; have hnb111 := NB417_409.out; have hnc111 := NB409_417.out; have hcz112_0 := sqc0 BK417; have hcz112_1 := sqc1 BK417; have hfz112_0 := blk_frozen BK417.out 0; have hfz112_1 := blk_frozen BK417.out 1) | (go_at_call 17; (with_reducible refine (lw_known.calls t430 _ ?sideG A101.out).mono ?_); (case sideG => exact (Kd.C_below HGL.out (sqB HB))); rintro e w113 ⟨rfl, hb⟩; replace HO_410000 := Aside0.mk (Kd.R_below (by (with_reducible repeat (first | apply Kd.R_alloc | apply Kd.R_drewN | apply Kd.R_drew)); exact (Kd.R_mono (Kd.R_far (p := ⟨gb428, 1, none⟩) (Kd.R_far (p := ⟨gb428, 0, none⟩) (Kd.R_mono HO_410000.out (fun k_ hk => (⟨hk, hk.2⟩ : _ ∧ k_ ≠ gb428))) (fun _ hk => hk.2) (.int .i64 t426)) (fun _ hk => hk.2) (.int .i64 t427)) (fun _ h_ => h_.1))) hb); replace HO_410001 := Aside0.mk (Kd.R_below (by (with_reducible repeat (first | apply Kd.R_alloc | apply Kd.R_drewN | apply Kd.R_drew)); exact (Kd.R_mono (Kd.R_far (p := ⟨gb428, 1, none⟩) (Kd.R_far (p := ⟨gb428, 0, none⟩) (Kd.R_types HO_410001.out BK428.out (by decide)) (fun _ hk => hk.2) (.int .i64 t426)) (fun _ hk => hk.2) (.int .i64 t427)) (fun _ h_ => h_.1))) hb); replace BK400 := Aside0.mk (blk_below (g := gb400) (o := .cells #[.slice A0_0 l0_0.length c0_0, .slice A0_1 l0_1.length c0_1] 25 (0, 0)) sqX hb); replace BK409 := Aside0.mk (blk_below (g := gb409) (o := .cells #[.slice Ao23 t403.length co23, .slice Ao26 t406.length co26] 25 (0, 0)) sqX hb); replace BK417 := Aside0.mk (blk_below (g := gb417) (o := .cells #[.int .i64 t414, .int .i64 t415] 41 (0, 0)) sqX hb); replace BK428 := Aside0.mk (blk_below (g := gb428) (o := .cells #[.int .i64 t426, .int .i64 t427] 41 (0, 0)) (by (with_reducible repeat (first | refine blk_drewN ?_ _ | refine blk_drew ?_ | refine blk_alloc ?_ _)); refine blk_put (cs := #[.int .i64 t426, .int .i64 0]) ?_ 1 _ rfl; (with_reducible repeat (first | refine blk_drewN ?_ _ | refine blk_drew ?_ | refine blk_alloc ?_ _)); refine blk_put (cs := #[.int .i64 0, .int .i64 0]) ?_ 0 _ rfl; (with_reducible repeat (first | refine blk_drewN ?_ _ | refine blk_drew ?_ | refine blk_alloc ?_ _)); exact BK428.out) hb); replace HB := sqb hb HB; (try clear hb); (try clear hb2); (try clear hk); (try clear hi)))
              go_ret
              exact ⟨by first | rfl | (simp [errW_none, errW_some] <;> rfl) | (simp [*, errW_none, errW_some] <;> rfl), sqB HB⟩
             ·rw [if_neg c100] at H
              have c100b0 : (t414 == 0 && (t415 == 0)) = false := by simpa using c100
              (try (have c100b1 : decide (t414 = 0 && (t415 == 0)) = false := by simpa using c100))
              (try (have c100b2 : (t414 == 0 && (t415 == 0)) = false := by simpa using c100))
              (try (have c100b3 : ¬ (t414 = 0 && (t415 == 0)) := by simpa using c100))
              clear c100; obtain rfl := Option.some.inj H; have hnb114 := NB400_409.out; have hnc114 := NB409_400.out; have hnb115 := NB400_417.out; have hnc115 := NB417_400.out; have hcz116_0 := sqc0 BK400; have hcz116_1 := sqc1 BK400; have hfz116_0 := blk_frozen BK400.out 0; have hfz116_1 := blk_frozen BK400.out 1
              go_wp2_with (first | ((with_reducible refine gate_callee (f := 36) rfl ?_); refine goesL_ (some 77) rfl rfl Tryd.func36 sqF rfl #[.agg #[.slice A0_0 l0_0.length c0_0, .slice A0_1 l0_1.length c0_1], .int .i64 a1] rfl sqM ?_; (with_reducible refine (rf_Amount.calls kj58 _ _ l0_0 _ _ l0_1 a1 t426 t427 _ ?side1 ?side2 ?side3 ?side4 A62.out).mono ?_); (case side1 => exact sqQ HR0_0 HB); (case side2 => exact HC0_0.out); (case side3 => exact sqQ HR0_1 HB); (case side4 => exact HC0_1.out); rintro e w117 ⟨rfl, hb⟩; refine ⟨_, rfl, ?_⟩; replace HO_410000 := Aside0.mk (Kd.R_below (sqR HO_410000) hb); replace HO_410001 := Aside0.mk (Kd.R_below (sqR HO_410001) hb); replace BK400 := sqk BK400 hb; replace BK409 := sqk BK409 hb; replace BK417 := sqk BK417 hb; replace HB := sqb hb HB; (try clear hb); (try clear hb2); (try clear hk); (try clear hi)) | ((with_reducible refine gate_dst (N := 12) rfl ?_); (try (refine gate_guard (by rfl) ?_; dsimp only)); refine box_event ?hg (N := 12) ?hd (cs := #[.int .i64 0, .int .i64 0]) (t := 41) ?hr ?_; (case hd => rfl); (case hg => rfl); (case hr => first | (go_simp; done) | (go_simp; rfl)); intro gb428 hg w118 hbox hb; replace HO_410000 := Aside0.mk (Kd.R_below (Kd.R_elderB (sqR HO_410000) gb428 (Nat.le_of_eq hg.symm)) hb); replace HO_410001 := Aside0.mk (Kd.R_below (sqR HO_410001) hb); have BK428 := Aside0.mk (hbox); have GW428 := Aside0.mk (sqZ hg HB); have GE428 := Aside0.mk (sqZ hg HB); replace HB := sqb hb HB; have NB400_428 := Aside0.mk (sqL hg BK400); have NB428_400 := Aside0.mk (sqG hg BK400); replace BK400 := sqk BK400 hb; have NB409_428 := Aside0.mk (sqL hg BK409); have NB428_409 := Aside0.mk (sqG hg BK409); replace BK409 := sqk BK409 hb; have NB417_428 := Aside0.mk (sqL hg BK417); have NB428_417 := Aside0.mk (sqG hg BK417); replace BK417 := sqk BK417 hb; clear hb hbox hg; have hnb119 := NB428_400.out; have hnc119 := NB400_428.out; have hnb120 := NB428_409.out; have hnc120 := NB409_428.out; have hnb121 := NB428_417.out; have hnc121 := NB417_428.out; have hcz122_0 := sqc0 BK428; have hcz122_1 := sqc1 BK428; have hfz122_0 := blk_frozen BK428.out 0; have hfz122_1 := blk_frozen BK428.out 1; have hnb123 := NB417_409.out; have hnc123 := NB409_417.out; have hcz124_0 := sqc0 BK417; have hcz124_1 := sqc1 BK417; have hfz124_0 := blk_frozen BK417.out 0; have hfz124_1 := blk_frozen BK417.out 1))
              go_ret
              exact ⟨by first | rfl | (simp [errW_none, errW_some] <;> rfl) | (simp [*, errW_none, errW_some] <;> rfl), sqB HB⟩
            ·rw [if_neg c99] at H
             have c99b0 : (t416 == 9) = false := beq_eq_false_iff_ne.mpr c99; have c99b1 : (t416 != 9) = true := bne_iff_ne.mpr c99; obtain rfl := Option.some.inj H; have hnb125 := NB400_409.out; have hnc125 := NB409_400.out; have hnb126 := NB400_417.out; have hnc126 := NB417_400.out; have hcz127_0 := sqc0 BK400; have hcz127_1 := sqc1 BK400; have hfz127_0 := blk_frozen BK400.out 0; have hfz127_1 := blk_frozen BK400.out 1
             go_wp2_with (first | ((with_reducible refine gate_callee (f := 36) rfl ?_); refine goesL_ (some 77) rfl rfl Tryd.func36 sqF rfl #[.agg #[.slice A0_0 l0_0.length c0_0, .slice A0_1 l0_1.length c0_1], .int .i64 a1] rfl sqM ?_; (with_reducible refine (rf_Amount.calls kj58 _ _ l0_0 _ _ l0_1 a1 t426 t427 _ ?side1 ?side2 ?side3 ?side4 A62.out).mono ?_); (case side1 => exact sqQ HR0_0 HB); (case side2 => exact HC0_0.out); (case side3 => exact sqQ HR0_1 HB); (case side4 => exact HC0_1.out); rintro e w128 ⟨rfl, hb⟩; refine ⟨_, rfl, ?_⟩; replace HO_410000 := Aside0.mk (Kd.R_below (sqR HO_410000) hb); replace HO_410001 := Aside0.mk (Kd.R_below (sqR HO_410001) hb); replace BK400 := sqk BK400 hb; replace BK409 := sqk BK409 hb; replace BK417 := sqk BK417 hb; replace HB := sqb hb HB; (try clear hb); (try clear hb2); (try clear hk); (try clear hi)) | ((with_reducible refine gate_dst (N := 12) rfl ?_); (try (refine gate_guard (by rfl) ?_; dsimp only)); refine box_event ?hg (N := 12) ?hd (cs := #[.int .i64 0, .int .i64 0]) (t := 41) ?hr ?_; (case hd => rfl); (case hg => rfl); (case hr => first | (go_simp; done) | (go_simp; rfl)); intro gb428 hg w129 hbox hb; replace HO_410000 := Aside0.mk (Kd.R_below (Kd.R_elderB (sqR HO_410000) gb428 (Nat.le_of_eq hg.symm)) hb); replace HO_410001 := Aside0.mk (Kd.R_below (sqR HO_410001) hb); have BK428 := Aside0.mk (hbox); have GW428 := Aside0.mk (sqZ hg HB); have GE428 := Aside0.mk (sqZ hg HB); replace HB := sqb hb HB; have NB400_428 := Aside0.mk (sqL hg BK400); have NB428_400 := Aside0.mk (sqG hg BK400); replace BK400 := sqk BK400 hb; have NB409_428 := Aside0.mk (sqL hg BK409); have NB428_409 := Aside0.mk (sqG hg BK409); replace BK409 := sqk BK409 hb; have NB417_428 := Aside0.mk (sqL hg BK417); have NB428_417 := Aside0.mk (sqG hg BK417); replace BK417 := sqk BK417 hb; clear hb hbox hg; have hnb130 := NB428_400.out; have hnc130 := NB400_428.out; have hnb131 := NB428_409.out; have hnc131 := NB409_428.out; have hnb132 := NB428_417.out; have hnc132 := NB417_428.out; have hcz133_0 := sqc0 BK428; have hcz133_1 := sqc1 BK428; have hfz133_0 := blk_frozen BK428.out 0; have hfz133_1 := blk_frozen BK428.out 1))
             go_ret
             exact ⟨by first | rfl | (simp [errW_none, errW_some] <;> rfl) | (simp [*, errW_none, errW_some] <;> rfl), sqB HB⟩
          ·rw [if_neg c61] at H
           have c61b0 : (x11_58 == 0) = false := beq_eq_false_iff_ne.mpr c61; have c61b1 : (x11_58 != 0) = true := bne_iff_ne.mpr c61
           by_cases c134 : t416 = x11_58
           ·rw [if_pos c134] at H
            have c134b0 : (t416 == x11_58) = true := beq_iff_eq.mpr c134; have c134b1 : (t416 != x11_58) = false := bne_eq_false_iff_eq.mpr c134; clear c134
            by_cases c135 : (t414 == 0 && (t415 == 0)) = true
            ·rw [if_pos c135] at H
             have c135b0 : (t414 == 0 && (t415 == 0)) = true := c135
             (try (have c135b1 : decide (t414 = 0 && (t415 == 0)) = true := by simpa using c135))
             (try (have c135b2 : (t414 == 0 && (t415 == 0)) = true := by simpa using c135))
             clear c135; obtain ⟨t431, A1360, H⟩ := Option.bind_eq_some_iff.mp H; have A136 := Aside0.mk A1360; clear A1360; obtain rfl := Option.some.inj H; have hnb137 := NB417_400.out; have hnc137 := NB400_417.out; have hnb138 := NB417_409.out; have hnc138 := NB409_417.out; have hcz139_0 := sqc0 BK417; have hcz139_1 := sqc1 BK417; have hfz139_0 := blk_frozen BK417.out 0; have hfz139_1 := blk_frozen BK417.out 1
             go_wp2_with (first | (go_at_call 17; (with_reducible refine (lw_known.calls t431 _ ?sideG A136.out).mono ?_); (case sideG => exact (Kd.C_below HGL.out (sqB HB))); rintro e w140 ⟨rfl, hb⟩; replace HO_410000 := Aside0.mk (Kd.R_below (sqR HO_410000) hb); replace HO_410001 := Aside0.mk (Kd.R_below (sqR HO_410001) hb); replace BK400 := sqk BK400 hb; replace BK409 := sqk BK409 hb; replace BK417 := sqk BK417 hb; replace HB := sqb hb HB; (try clear hb); (try clear hb2); (try clear hk); (try clear hi)))
             go_ret
             exact ⟨by first | rfl | (simp [errW_none, errW_some] <;> rfl) | (simp [*, errW_none, errW_some] <;> rfl), sqB HB⟩
            ·rw [if_neg c135] at H
             have c135b0 : (t414 == 0 && (t415 == 0)) = false := by simpa using c135
             (try (have c135b1 : decide (t414 = 0 && (t415 == 0)) = false := by simpa using c135))
             (try (have c135b2 : (t414 == 0 && (t415 == 0)) = false := by simpa using c135))
             (try (have c135b3 : ¬ (t414 = 0 && (t415 == 0)) := by simpa using c135))
             clear c135; obtain rfl := Option.some.inj H; have hnb141 := NB417_400.out; have hnc141 := NB400_417.out; have hnb142 := NB417_409.out; have hnc142 := NB409_417.out; have hcz143_0 := sqc0 BK417; have hcz143_1 := sqc1 BK417; have hfz143_0 := blk_frozen BK417.out 0; have hfz143_1 := blk_frozen BK417.out 1
             go_wp2
             go_ret
             exact ⟨by first | rfl | (simp [errW_none, errW_some] <;> rfl) | (simp [*, errW_none, errW_some] <;> rfl), sqB HB⟩
           ·rw [if_neg c134] at H
            have c134b0 : (t416 == x11_58) = false := beq_eq_false_iff_ne.mpr c134; have c134b1 : (t416 != x11_58) = true := bne_iff_ne.mpr c134; obtain rfl := Option.some.inj H
            go_wp2
            go_ret
            exact ⟨by first | rfl | (simp [errW_none, errW_some] <;> rfl) | (simp [*, errW_none, errW_some] <;> rfl), sqB HB⟩
  ·replace c14 := Bool.eq_false_iff.mpr c14
   subst c14; rw [if_neg Bool.false_ne_true] at H; obtain rfl := Option.some.inj H
   go_enter Tryd.func5, Tryd.ntmps5
   go_wp2_with (first | ((with_reducible refine gate_dst (N := 2) rfl ?_); (try (refine gate_guard (by rfl) ?_; dsimp only)); refine box_event ?hg (N := 2) ?hd (cs := #[.slice A0_0 l0_0.length c0_0, .slice A0_1 l0_1.length c0_1]) (t := 25) ?hr ?_; (case hd => rfl); (case hg => rfl); (case hr => first | (go_simp; done) | (go_simp; rfl)); intro gb400 hg w144 hbox hb; have BK400 := Aside0.mk (hbox); have GW400 := Aside0.mk (sqZ hg HB); have GE400 := Aside0.mk (sqZ hg HB); replace HB := sqb hb HB; clear hb hbox hg; have hcz145_0 := sqc0 BK400; have hcz145_1 := sqc1 BK400; have hfz145_0 := blk_frozen BK400.out 0; have hfz145_1 := blk_frozen BK400.out 1) | ((with_reducible refine gate_callee (f := 16) rfl ?_); refine goesL_ (some 14) rfl rfl Tryd.func16 sqF rfl #[.agg #[.slice A0_0 l0_0.length c0_0, .slice A0_1 l0_1.length c0_1]] rfl sqM ?_; (with_reducible refine (lw_long.calls _ _ l0_0 _ _ l0_1 false _ ?side1 ?side2 ?side3 ?side4 A3.out).mono ?_); (case side1 => exact sqQ HR0_0 HB); (case side2 => exact HC0_0.out); (case side3 => exact sqQ HR0_1 HB); (case side4 => exact HC0_1.out); rintro e w146 ⟨rfl, hb⟩; refine ⟨_, rfl, ?_⟩; replace BK400 := sqk BK400 hb; replace HB := sqb hb HB; (try clear hb); (try clear hb2); (try clear hk); (try clear hi); have hcz147_0 := sqc0 BK400; have hcz147_1 := sqc1 BK400; have hfz147_0 := blk_frozen BK400.out 0; have hfz147_1 := blk_frozen BK400.out 1) | ((with_reducible refine gate_callee (f := 18) rfl ?_); refine goesL_ (some 17) rfl rfl Tryd.func18 sqF rfl #[.agg #[.slice A0_0 l0_0.length c0_0, .slice A0_1 l0_1.length c0_1]] rfl sqM ?_; (with_reducible refine (rf_Copy.calls _ _ l0_0 _ _ l0_1 t403 t406 _ ?side1 ?side2 ?side3 ?side4 A10.out).mono ?_); (case side1 => exact sqQ HR0_0 HB); (case side2 => exact HC0_0.out); (case side3 => exact sqQ HR0_1 HB); (case side4 => exact HC0_1.out); rintro e w148 ⟨v404, v407, rfl, ho0, ho1, hb⟩; refine ⟨_, rfl, ?_⟩; have HO405 := Aside0.mk (Kd.R_lower ho0 (below_size (sqB HB))); have HO408 := Aside0.mk (Kd.R_lower ho1 (below_size (sqB HB))); replace BK400 := sqk BK400 hb; replace HB := sqb hb HB; (try clear hb); (try clear hb2); (try clear hk); (try clear hi); (try clear ho0); (try clear ho1)) | ((with_reducible refine gate_dst (N := 5) rfl ?_); (try (refine gate_guard (by rfl) ?_; dsimp only)); refine box_event ?hg (N := 5) ?hd (cs := #[.slice none 0 0, .slice none 0 0]) (t := 25) ?hr ?_; (case hd => rfl); (case hg => rfl); (case hr => first | (go_simp; done) | (go_simp; rfl)); intro gb409 hg w149 hbox hb; replace HO405 := Aside0.mk (Kd.R_below (sqR HO405) hb); replace HO408 := Aside0.mk (Kd.R_below (sqR HO408) hb); have BK409 := Aside0.mk (hbox); have GW409 := Aside0.mk (sqZ hg HB); have GE409 := Aside0.mk (sqZ hg HB); replace HB := sqb hb HB; have NB400_409 := Aside0.mk (sqL hg BK400); have NB409_400 := Aside0.mk (sqG hg BK400); replace BK400 := sqk BK400 hb; clear hb hbox hg; obtain ⟨Ao150, co150, eo150⟩ := Kd.R_slice HO405.out; subst eo150; have hnb151 := NB409_400.out; have hnc151 := NB400_409.out; have hcz152_0 := sqc0 BK409; have hcz152_1 := sqc1 BK409; have hfz152_0 := blk_frozen BK409.out 0; have hfz152_1 := blk_frozen BK409.out 1; obtain ⟨Ao153, co153, eo153⟩ := Kd.R_slice HO408.out; subst eo153) | ((with_reducible refine gate_callee (f := 31) rfl ?_); refine goesL_ (some 20) rfl rfl Tryd.func31 sqF rfl #[.agg #[.slice Ao150 t403.length co150, .slice Ao153 t406.length co153]] rfl sqM ?_; (with_reducible refine (wool_Where.calls _ _ t403 _ _ t406 t410 t413 _ ?sideG ?side1 ?side2 ?side3 ?side4 A11.out).mono ?_); (case sideG => exact (Kd.C_below HGL.out (sqB HB))); (case side1 => refine (Kd.R_reads' (e := 41) (base := w.heap.size) (ok := fun k_ => True) (n := t403.length) (c := co150) ?_).2.2; exact (by (with_reducible repeat (first | apply Kd.R_alloc | apply Kd.R_drewN | apply Kd.R_drew)); exact (Kd.R_mono (Kd.R_far (p := ⟨gb409, 1, none⟩) (Kd.R_far (p := ⟨gb409, 0, none⟩) (Kd.R_types HO405.out BK409.out (by decide)) (fun _ hk => hk.2) (.slice Ao150 t403.length co150)) (fun _ hk => hk.2) (.slice Ao153 t406.length co153)) (fun _ h_ => h_.1)))); (case side2 => exact (Kd.R_reads' HO405.out).2.1); (case side3 => refine (Kd.R_reads' (e := 80) (base := w.heap.size) (ok := fun k_ => True) (n := t406.length) (c := co153) ?_).2.2; exact (by (with_reducible repeat (first | apply Kd.R_alloc | apply Kd.R_drewN | apply Kd.R_drew)); exact (Kd.R_mono (Kd.R_far (p := ⟨gb409, 1, none⟩) (Kd.R_far (p := ⟨gb409, 0, none⟩) (Kd.R_types HO408.out BK409.out (by decide)) (fun _ hk => hk.2) (.slice Ao150 t403.length co150)) (fun _ hk => hk.2) (.slice Ao153 t406.length co153)) (fun _ h_ => h_.1)))); (case side4 => exact (Kd.R_reads' HO408.out).2.1); rintro e w154 ⟨v411, rfl, ho0, hb⟩; refine ⟨_, rfl, ?_⟩; replace HO405 := Aside0.mk (Kd.R_below (by (with_reducible repeat (first | apply Kd.R_alloc | apply Kd.R_drewN | apply Kd.R_drew)); exact (Kd.R_mono (Kd.R_far (p := ⟨gb409, 1, none⟩) (Kd.R_far (p := ⟨gb409, 0, none⟩) (Kd.R_types HO405.out BK409.out (by decide)) (fun _ hk => hk.2) (.slice Ao150 t403.length co150)) (fun _ hk => hk.2) (.slice Ao153 t406.length co153)) (fun _ h_ => h_.1))) hb); replace HO408 := Aside0.mk (Kd.R_below (by (with_reducible repeat (first | apply Kd.R_alloc | apply Kd.R_drewN | apply Kd.R_drew)); exact (Kd.R_mono (Kd.R_far (p := ⟨gb409, 1, none⟩) (Kd.R_far (p := ⟨gb409, 0, none⟩) (Kd.R_types HO408.out BK409.out (by decide)) (fun _ hk => hk.2) (.slice Ao150 t403.length co150)) (fun _ hk => hk.2) (.slice Ao153 t406.length co153)) (fun _ h_ => h_.1))) hb); have HO412 := Aside0.mk (Kd.R_lower ho0 (below_size (sqB HB))); replace BK400 := Aside0.mk (blk_below (g := gb400) (o := .cells #[.slice A0_0 l0_0.length c0_0, .slice A0_1 l0_1.length c0_1] 25 (0, 0)) sqX hb); replace BK409 := Aside0.mk (blk_below (g := gb409) (o := .cells #[.slice Ao150 t403.length co150, .slice Ao153 t406.length co153] 25 (0, 0)) (by (with_reducible repeat (first | refine blk_drewN ?_ _ | refine blk_drew ?_ | refine blk_alloc ?_ _)); refine blk_put (cs := #[.slice Ao150 t403.length co150, .slice none 0 0]) ?_ 1 _ rfl; (with_reducible repeat (first | refine blk_drewN ?_ _ | refine blk_drew ?_ | refine blk_alloc ?_ _)); refine blk_put (cs := #[.slice none 0 0, .slice none 0 0]) ?_ 0 _ rfl; (with_reducible repeat (first | refine blk_drewN ?_ _ | refine blk_drew ?_ | refine blk_alloc ?_ _)); exact BK409.out) hb); replace HB := sqb hb HB; (try clear hb); (try clear hb2); (try clear hk); (try clear hi); (try clear ho0); have hcz155_0 := sqc0 BK409; have hcz155_1 := sqc1 BK409; have hfz155_0 := blk_frozen BK409.out 0; have hfz155_1 := blk_frozen BK409.out 1) | ((with_reducible refine gate_callee (f := 32) rfl ?_); refine goesL_ (some 26) rfl rfl Tryd.func32 sqF rfl #[.agg #[.slice Ao150 t403.length co150, .slice Ao153 t406.length co153], .int .i64 a1] rfl sqM ?_; (with_reducible refine (wool_Amount.calls _ _ t403 _ _ t406 a1 t414 t415 t416 _ ?sideG ?side1 ?side2 ?side3 ?side4 A12.out).mono ?_); (case sideG => exact (Kd.C_below HGL.out (sqB HB))); (case side1 => repeat (first | exact (Kd.R_reads' HO405.out).2.2 | (with_reducible refine Kd.C_alloc ?_ _) | (with_reducible refine Kd.C_drewN ?_ _) | (with_reducible refine Kd.C_drew ?_))); (case side2 => exact (Kd.R_reads' HO405.out).2.1); (case side3 => repeat (first | exact (Kd.R_reads' HO408.out).2.2 | (with_reducible refine Kd.C_alloc ?_ _) | (with_reducible refine Kd.C_drewN ?_ _) | (with_reducible refine Kd.C_drew ?_))); (case side4 => exact (Kd.R_reads' HO408.out).2.1); rintro e w156 ⟨rfl, hb⟩; refine ⟨_, rfl, ?_⟩; replace HO405 := Aside0.mk (Kd.R_below (sqR HO405) hb); replace HO408 := Aside0.mk (Kd.R_below (sqR HO408) hb); replace HO412 := Aside0.mk (Kd.R_below (sqR HO412) hb); replace BK400 := sqk BK400 hb; replace BK409 := sqk BK409 hb; replace HB := sqb hb HB; (try clear hb); (try clear hb2); (try clear hk); (try clear hi)) | ((with_reducible refine gate_dst (N := 8) rfl ?_); (try (refine gate_guard (by rfl) ?_; dsimp only)); refine box_event ?hg (N := 8) ?hd (cs := #[.int .i64 0, .int .i64 0]) (t := 41) ?hr ?_; (case hd => rfl); (case hg => rfl); (case hr => first | (go_simp; done) | (go_simp; rfl)); intro gb417 hg w157 hbox hb; replace HO405 := Aside0.mk (Kd.R_below (Kd.R_elderB (sqR HO405) gb417 (Nat.le_of_eq hg.symm)) hb); replace HO408 := Aside0.mk (Kd.R_below (sqR HO408) hb); replace HO412 := Aside0.mk (Kd.R_below (sqR HO412) hb); have BK417 := Aside0.mk (hbox); have GW417 := Aside0.mk (sqZ hg HB); have GE417 := Aside0.mk (sqZ hg HB); replace HB := sqb hb HB; have NB400_417 := Aside0.mk (sqL hg BK400); have NB417_400 := Aside0.mk (sqG hg BK400); replace BK400 := sqk BK400 hb; have NB409_417 := Aside0.mk (sqL hg BK409); have NB417_409 := Aside0.mk (sqG hg BK409); replace BK409 := sqk BK409 hb; clear hb hbox hg; have hnb158 := NB417_400.out; have hnc158 := NB400_417.out; have hnb159 := NB417_409.out; have hnc159 := NB409_417.out; have hcz160_0 := sqc0 BK417; have hcz160_1 := sqc1 BK417; have hfz160_0 := blk_frozen BK417.out 0; have hfz160_1 := blk_frozen BK417.out 1; have hcz161_0 := sqc0 BK409; have hcz161_1 := sqc1 BK409; have hfz161_0 := blk_frozen BK409.out 0; have hfz161_1 := blk_frozen BK409.out 1; have hcz162_0 := sqc0 BK400; have hcz162_1 := sqc1 BK400; have hfz162_0 := blk_frozen BK400.out 0; have hfz162_1 := blk_frozen BK400.out 1) | ((with_reducible refine gate_callee (f := 23) rfl ?_); refine goesL_ (some 31) rfl rfl Tryd.func23 sqF rfl #[.agg #[.slice Ao150 t403.length co150, .slice Ao153 t406.length co153], .agg #[.slice A0_0 l0_0.length c0_0, .slice A0_1 l0_1.length c0_1]] rfl sqM ?_; (with_reducible refine (rf_Same.calls k _ _ t403 _ _ t406 _ _ l0_0 _ _ l0_1 false _ ?side1 ?side2 ?side3 ?side4 ?side5 ?side6 ?side7 ?side8 A13.out).mono ?_); (case side1 => refine (Kd.R_reads' (e := 41) (base := w.heap.size) (ok := fun k_ => (True ∧ k_ ≠ gb417)) (n := t403.length) (c := co150) ?_).2.2; exact (by (with_reducible repeat (first | apply Kd.R_alloc | apply Kd.R_drewN | apply Kd.R_drew)); exact (Kd.R_mono (Kd.R_far (p := ⟨gb417, 1, none⟩) (Kd.R_far (p := ⟨gb417, 0, none⟩) (Kd.R_mono HO405.out (fun k_ hk => (⟨hk, hk.2⟩ : _ ∧ k_ ≠ gb417))) (fun _ hk => hk.2) (.int .i64 t414)) (fun _ hk => hk.2) (.int .i64 t415)) (fun _ h_ => h_.1)))); (case side2 => exact (Kd.R_reads' HO405.out).2.1); (case side3 => refine (Kd.R_reads' (e := 80) (base := w.heap.size) (ok := fun k_ => True) (n := t406.length) (c := co153) ?_).2.2; exact (by (with_reducible repeat (first | apply Kd.R_alloc | apply Kd.R_drewN | apply Kd.R_drew)); exact (Kd.R_mono (Kd.R_far (p := ⟨gb417, 1, none⟩) (Kd.R_far (p := ⟨gb417, 0, none⟩) (Kd.R_types HO408.out BK417.out (by decide)) (fun _ hk => hk.2) (.int .i64 t414)) (fun _ hk => hk.2) (.int .i64 t415)) (fun _ h_ => h_.1)))); (case side4 => exact (Kd.R_reads' HO408.out).2.1); (case side5 => exact Kd.C_below HR0_0.out (sqB HB)); (case side6 => exact HC0_0.out); (case side7 => exact Kd.C_below HR0_1.out (sqB HB)); (case side8 => exact HC0_1.out); rintro e w163 ⟨rfl, hb⟩; refine ⟨_, rfl, ?_⟩; replace HO405 := Aside0.mk (Kd.R_below (by (with_reducible repeat (first | apply Kd.R_alloc | apply Kd.R_drewN | apply Kd.R_drew)); exact (Kd.R_mono (Kd.R_far (p := ⟨gb417, 1, none⟩) (Kd.R_far (p := ⟨gb417, 0, none⟩) (Kd.R_mono HO405.out (fun k_ hk => (⟨hk, hk.2⟩ : _ ∧ k_ ≠ gb417))) (fun _ hk => hk.2) (.int .i64 t414)) (fun _ hk => hk.2) (.int .i64 t415)) (fun _ h_ => h_.1))) hb); replace HO408 := Aside0.mk (Kd.R_below (by (with_reducible repeat (first | apply Kd.R_alloc | apply Kd.R_drewN | apply Kd.R_drew)); exact (Kd.R_mono (Kd.R_far (p := ⟨gb417, 1, none⟩) (Kd.R_far (p := ⟨gb417, 0, none⟩) (Kd.R_types HO408.out BK417.out (by decide)) (fun _ hk => hk.2) (.int .i64 t414)) (fun _ hk => hk.2) (.int .i64 t415)) (fun _ h_ => h_.1))) hb); replace HO412 := Aside0.mk (Kd.R_below (by (with_reducible repeat (first | apply Kd.R_alloc | apply Kd.R_drewN | apply Kd.R_drew)); exact (Kd.R_mono (Kd.R_far (p := ⟨gb417, 1, none⟩) (Kd.R_far (p := ⟨gb417, 0, none⟩) (Kd.R_types HO412.out BK417.out (by decide)) (fun _ hk => hk.2) (.int .i64 t414)) (fun _ hk => hk.2) (.int .i64 t415)) (fun _ h_ => h_.1))) hb); replace BK400 := Aside0.mk (blk_below (g := gb400) (o := .cells #[.slice A0_0 l0_0.length c0_0, .slice A0_1 l0_1.length c0_1] 25 (0, 0)) sqX hb); replace BK409 := Aside0.mk (blk_below (g := gb409) (o := .cells #[.slice Ao150 t403.length co150, .slice Ao153 t406.length co153] 25 (0, 0)) sqX hb); replace BK417 := Aside0.mk (blk_below (g := gb417) (o := .cells #[.int .i64 t414, .int .i64 t415] 41 (0, 0)) (by (with_reducible repeat (first | refine blk_drewN ?_ _ | refine blk_drew ?_ | refine blk_alloc ?_ _)); refine blk_put (cs := #[.int .i64 t414, .int .i64 0]) ?_ 1 _ rfl; (with_reducible repeat (first | refine blk_drewN ?_ _ | refine blk_drew ?_ | refine blk_alloc ?_ _)); refine blk_put (cs := #[.int .i64 0, .int .i64 0]) ?_ 0 _ rfl; (with_reducible repeat (first | refine blk_drewN ?_ _ | refine blk_drew ?_ | refine blk_alloc ?_ _)); exact BK417.out) hb); replace HB := sqb hb HB; (try clear hb); (try clear hb2); (try clear hk); (try clear hi)))
   go_ret
   exact ⟨by first | rfl | (simp [errW_none, errW_some] <;> rfl) | (simp [*, errW_none, errW_some] <;> rfl), sqB HB⟩
end Go.Proofs.YtemingmeidmjkaaDoor.Q
namespace Go.Proofs.YtemingmeidmjkaaDoor.Rw
open Go.RowKit Go.Proofs.YtemingmeidmjkaaDoorW.PrintWords
set_option linter.unusedVariables false
set_option linter.unusedSimpArgs false
theorem add_two (a : Addr) (x y : Nat) : (a.add x).add y = a.add (x + y) := by
 unfold Addr.add
 by_cases h1 : x = 0
 ·subst h1; simp
 ·by_cases h2 : y = 0
  ·subst h2; simp
  ·have h3 : ¬ x + y = 0 := by omega
   simp [h1, h2, Nat.add_assoc]
structure Opens {α : Type} (P : Program) (t : TypeId) (d : Kd α) (good : α → Prop) : Prop where
 size : d.sz = P.cellsOf t
 read : ∀ {H : Type} {enc : TypeId × Value → H} {w : World} {base : Nat} {sp : Nat → Bool} {held : Bool} {fuel : Nat} {cs : List Value} {x : DataW H × List MemPlace}, DataW.trod enc P w base sp held fuel t cs = some x → ∃ y : α, d.K w y cs ∧ good y
theorem Opens.int {P : Program} {t : TypeId} {k : IntKind} (ht : P.underlying t = some (.int k)) (hc : 1 = P.cellsOf t) : Opens P t (Kd.int k) (fun n => (Lit.int k n).wf = true) := ⟨hc, fun h => by
 obtain ⟨n, rfl, rfl, hw⟩ := DataW.trod_int ht h
 exact ⟨n, rfl, hw⟩⟩
theorem Opens.slice {α : Type} {P : Program} {t e : TypeId} {d : Kd α} {good : α → Prop} (ht : P.underlying t = some (.slice e)) (hc : 1 = P.cellsOf t) (h : Opens P e d good) : Opens P t (Kd.slice e d) (fun l => ∀ x ∈ l, good x) := ⟨hc, fun {H enc w base sp held fuel cs x} hx => by
 rcases DataW.trod_slice ht hx with ⟨rfl, _⟩ | ⟨a, len, cap, elems, rest, n, _, rfl, _, hb, hl, hm, hlen, hel, _, _⟩
 ·exact ⟨[], ⟨none, 0, rfl, Nat.le_refl _, Kd.C_nil _ _⟩, fun x hx => by cases hx⟩
 ·have key : ∀ m, m ≤ len → ∃ l : List α, l.length = m ∧ ∀ i z, l[i]? = some z → good z ∧ ∃ c, c.length = d.sz ∧ d.K w z c ∧ ∀ j u, c[j]? = some u → w.cell? (a.add (i * d.sz + j)) = some u := by
   intro m
   induction m with
   | zero => intro _; exact ⟨[], rfl, fun i z hz => by simp at hz⟩
   | succ m ih =>
    intro hle; obtain ⟨l, hll, hl2⟩ := ih (by omega); have h1 := hel m (by omega); rw [List.getElem?_eq_getElem (by omega), Option.bind_eq_some_iff] at h1; obtain ⟨c, hc1, hc2⟩ := h1; obtain ⟨z, hz, hg⟩ := h.read hc2; obtain ⟨_, hcl, hcc⟩ := World.cells?_some hc1; refine ⟨l ++ [z], by simp [hll], fun i z' hz' => ?_⟩
    rcases Nat.lt_or_ge i l.length with hlt | hge
    ·rw [List.getElem?_append_left hlt] at hz'
     exact hl2 i z' hz'
    ·rw [List.getElem?_append_right hge] at hz'
     have e : i = m := by
      rcases Nat.eq_zero_or_pos (i - l.length) with e | e
      ·omega
      ·rw [List.getElem?_eq_none (by simp; omega)] at hz'; cases hz'
     subst e; rw [show i - l.length = 0 by omega] at hz'; simp only [List.getElem?_cons_zero, Option.some.injEq] at hz'; subst hz'; refine ⟨hg, c, by rw [hcl, h.size], hz, fun j u hu => ?_⟩
     have hj : j < P.cellsOf e := by rw [← hcl]; exact (List.getElem?_eq_some_iff.1 hu).1
     have := hcc j hj; rw [hu] at this; rw [h.size, ← this, add_two]
  obtain ⟨l, hll, hl2⟩ := key len (Nat.le_refl _); refine ⟨l, ⟨some a, cap, by rw [hll], by omega, rfl, by unfold maxLen at hm; omega, fun _ => ⟨a, rfl, fun j p hj => ?_⟩⟩, fun x hx => ?_⟩
  ·obtain ⟨_, c, h1, h2, h3⟩ := hl2 j p hj
   exact ⟨c, h1, h2, h3⟩
  ·obtain ⟨i, hi⟩ := List.getElem?_of_mem hx
   exact (hl2 i x hi).1⟩
structure FOpens {α : Type} (P : Program) (fs : List Field) (off : Nat) (d : Kd α) (good : α → Prop) : Prop where
 read : ∀ {H : Type} {enc : TypeId × Value → H} {w : World} {base : Nat} {sp : Nat → Bool} {held : Bool} {fuel : Nat} {cs : List Value},
 (∀ (i : Nat) (f : Field), fs[i]? = some f → ∃ y, DataW.trod enc P w base sp held fuel f.type ((cs.drop f.offset).take (P.cellsOf f.type)) = some y) → cs.length = off + d.sz → ∃ y : α, d.K w y (cs.drop off) ∧ good y
theorem FOpens.one {α : Type} {P : Program} {f : Field} {off : Nat} {d : Kd α} {good : α → Prop} (h : Opens P f.type d good) (ho : f.offset = off) : FOpens P [f] off d good := ⟨fun {H enc w base sp held fuel cs} hf hl => by
 obtain ⟨y, hy⟩ := hf 0 f rfl; rw [ho, ← h.size, List.take_of_length_le (by rw [List.length_drop]; omega)] at hy
 exact h.read hy⟩
theorem FOpens.cons {α β : Type} {P : Program} {f : Field} {fs : List Field} {off : Nat} {d1 : Kd α} {d2 : Kd β} {g1 : α → Prop} {g2 : β → Prop} (h1 : Opens P f.type d1 g1) (ho : f.offset = off) (h2 : FOpens P fs (off + d1.sz) d2 g2) : FOpens P (f :: fs) off (Kd.pair d1 d2) (fun x => g1 x.1 ∧ g2 x.2) := ⟨fun {H enc w base sp held fuel cs} hf hl => by
 have hsz : (Kd.pair d1 d2).sz = d1.sz + d2.sz := rfl; obtain ⟨y1, hy1⟩ := hf 0 f rfl; rw [ho, ← h1.size] at hy1; obtain ⟨x1, hk1, hg1⟩ := h1.read hy1; obtain ⟨x2, hk2, hg2⟩ := h2.read (cs := cs) (fun i g hg => hf (i + 1) g (by simpa using hg)) (by omega); refine ⟨(x1, x2), ⟨_, _, ?_, hk1, hk2⟩, hg1, hg2⟩
 rw [← List.drop_drop, List.take_append_drop]⟩
theorem Opens.struct {α : Type} {P : Program} {t : TypeId} {fs : Array Field} {d : Kd α} {good : α → Prop} (ht : P.underlying t = some (.struct fs)) (hs : d.sz = P.cellsOf t) (h : FOpens P fs.toList 0 d good) : Opens P t d good := ⟨hs, fun {H enc w base sp held fuel cs x} hx => by
 obtain ⟨xs, n, _, _, hcl, hxl, hf⟩ := DataW.trod_struct ht hx
 have := h.read (enc := enc) (w := w) (base := base) (sp := sp) (held := held) (fuel := n) (cs := cs) (fun i f hi => by
  rw [Array.getElem?_toList] at hi; have hlt := (Array.getElem?_eq_some_iff.1 hi).1
  exact ⟨xs[i]'(by omega), by rw [hf i f hi, List.getElem?_eq_getElem]⟩) (by omega)
 simpa using this⟩
theorem Opens.iso {α β : Type} {P : Program} {t : TypeId} {d : Kd α} {good : α → Prop} (f : β → α) (g : α → β) (hfg : ∀ x, f (g x) = x) (h : Opens P t d good) : Opens P t (Kd.iso d f) (fun y => good (f y)) := ⟨h.size, fun hx => by
 obtain ⟨y, hk, hg⟩ := h.read hx
 exact ⟨g y, by show d.K _ (f (g y)) _; rw [hfg]; exact hk, by rw [hfg]; exact hg⟩⟩
end Go.Proofs.YtemingmeidmjkaaDoor.Rw
namespace Go.Proofs.YtemingmeidmjkaaDoor.Q
open Go.RowKit Go.Proofs.YtemingmeidmjkaaDoorW.PrintWords
set_option linter.unusedVariables false
set_option linter.unusedSimpArgs false
theorem rdI (l : List Int) (i : Nat) (h : i < l.length) : rd l (i : Int) = l[i] := by simp [rd, h]
theorem rdA (l : List S41) (i : Nat) (h : i < l.length) : rd_T41 l (i : Int) = l[i] := by simp [rd_T41, h]
theorem rdW (l : List S80) (i : Nat) (h : i < l.length) : rd_T80 l (i : Int) = l[i] := by simp [rd_T80, h]
theorem drop_dec {α : Type} [DecidableEq α] (a b : List α) (i : Nat) (ha : i < a.length) (hb : i < b.length) : decide (a.drop i = b.drop i) = (decide (a[i] = b[i]) && decide (a.drop (i + 1) = b.drop (i + 1))) := by
 rw [List.drop_eq_getElem_cons ha, List.drop_eq_getElem_cons hb, Bool.eq_iff_iff]; simp only [decide_eq_true_eq, Bool.and_eq_true, List.cons.injEq]
theorem In_f (a b c : Int) : rf_In.f a b c = some (inB b c [a]) := by
 have e : inB b c [a] = (decide (b ≤ a) && decide (a ≤ c)) := by
  rw [Bool.eq_iff_iff, inB_iff]
  simp
 rw [e]
 unfold rf_In.f
 split <;> simp_all <;> omega
theorem inB_one (b c a : Int) : inB b c [a] = true ↔ b ≤ a ∧ a ≤ c := by rw [inB_iff]; simp
theorem known_f : lw_known.f = some true := rfl
theorem long_f (l0 : List S41) (l1 : List S80) : lw_long.f l0 l1 = some (decide ((l0.length : Int) > 10 ∨ (l1.length : Int) > 12)) := by
 unfold lw_long.f
 by_cases h : (l0.length : Int) > 10 <;> simp [h]
theorem Copy_f (l0 : List S41) (l1 : List S80) (h0 : l0.length ≤ 1000) (h1 : l1.length ≤ 1000) : rf_Copy.f l0 l1 = some (l0, l1) := by
 unfold rf_Copy.f
 simp only [Option.bind_some, List.length_nil, List.nil_append]; rw [if_pos (by omega), if_pos (by omega)]
theorem dec_S (x y : S41) : decide ((⟨x.f0, x.f1⟩ : Sp) = ⟨y.f0, y.f1⟩) = !(!(x.f0 == y.f0) || !(x.f1 == y.f1)) := by
 rw [Bool.eq_iff_iff]
 simp
theorem toSt_get (l : List S41) (i : Nat) (h : i < l.length) : (toSt l)[i]'(by rw [toSt_len]; exact h) = ⟨l[i].f0, l[i].f1⟩ := by simp [toSt]
theorem Spans_l0 (a b : List S41) (hl : a.length ≤ 1000) (hab : a.length = b.length) : ∀ (d i : Nat), i + d = a.length → Ev (fun k => rf_Spans.l0 k a b (i : Int)) (decide ((toSt a).drop i = (toSt b).drop i))
 | 0, i, h => by
  refine Ev.up ?_; simp only [rf_Spans.l0, if_neg (show ¬ (i : Int) < (a.length : Int) by omega)]; rw [List.drop_eq_nil_of_le (by rw [toSt_len]; omega), List.drop_eq_nil_of_le (by rw [toSt_len]; omega)]
  simpa using Ev.now true
 | d + 1, i, h => by
  refine Ev.up ?_; simp only [rf_Spans.l0, if_pos (show (i : Int) < (a.length : Int) by omega), if_pos (show (0 : Int) ≤ (i : Int) by omega), if_pos (show (i : Int) < (b.length : Int) by omega), wi i (by omega), rdA a i (by omega), rdA b i (by omega)]; rw [drop_dec (toSt a) (toSt b) i (by rw [toSt_len]; omega) (by rw [toSt_len]; omega), toSt_get a i (by omega), toSt_get b i (by omega), dec_S]
  cases hq : (!(a[i].f0 == b[i].f0) || !(a[i].f1 == b[i].f1))
  ·simp only [Bool.false_eq_true, if_false, Bool.not_false, Bool.true_and]
   exact Spans_l0 a b hl hab d (i + 1) (by omega)
  ·simp only [if_true, Bool.not_true, Bool.false_and]
   exact Ev.now _
theorem Spans_f (a b : List S41) (ha : a.length ≤ 1000) : Ev (fun k => rf_Spans.f k a b) (decide (toSt a = toSt b)) := by
 unfold rf_Spans.f
 by_cases h : a.length = b.length
 ·simp only [if_pos (show (a.length : Int) = (b.length : Int) by omega)]
  exact Spans_l0 a b ha h a.length 0 (by omega)
 ·simp only [if_neg (show ¬ (a.length : Int) = (b.length : Int) by omega)]
  rw [decide_eq_false (fun e => h (by have := congrArg List.length e; rwa [toSt_len, toSt_len] at this))]; exact Ev.now _
theorem Ints_l0 (a b : List Int) (hl : a.length ≤ 1000) (hab : a.length = b.length) : ∀ (d i : Nat), i + d = a.length → Ev (fun k => rf_Ints.l0 k a b (i : Int)) (decide (a.drop i = b.drop i))
 | 0, i, h => by
  refine Ev.up ?_; simp only [rf_Ints.l0, if_neg (show ¬ (i : Int) < (a.length : Int) by omega)]; rw [List.drop_eq_nil_of_le (by omega), List.drop_eq_nil_of_le (by omega)]
  simpa using Ev.now true
 | d + 1, i, h => by
  refine Ev.up ?_; simp only [rf_Ints.l0, if_pos (show (i : Int) < (a.length : Int) by omega), if_pos (show (0 : Int) ≤ (i : Int) by omega), if_pos (show (i : Int) < (b.length : Int) by omega), wi i (by omega), rdI a i (by omega), rdI b i (by omega)]; rw [drop_dec a b i (by omega) (by omega)]
  by_cases hq : a[i] = b[i]
  ·rw [decide_eq_true hq, Bool.true_and]
   simp only [if_pos hq]; exact Ints_l0 a b hl hab d (i + 1) (by omega)
  ·rw [decide_eq_false hq, Bool.false_and]
   simp only [if_neg hq]; exact Ev.now _
theorem Ints_f (a b : List Int) (ha : a.length ≤ 1000) : Ev (fun k => rf_Ints.f k a b) (decide (a = b)) := by
 unfold rf_Ints.f
 by_cases h : a.length = b.length
 ·simp only [if_pos (show (a.length : Int) = (b.length : Int) by omega)]
  exact Ints_l0 a b ha h a.length 0 (by omega)
 ·simp only [if_neg (show ¬ (a.length : Int) = (b.length : Int) by omega)]
  rw [decide_eq_false (fun e => h (by rw [e]))]; exact Ev.now _
theorem Same_l0 (st : List S41) (wg : List S80) (hl : wg.length ≤ 1000) : ∀ (d i : Nat), i + d = wg.length → Ev (fun k => rf_Same.l0 k (i : Int) st wg st wg) true
 | 0, i, h => by
  refine Ev.up ?_; simp only [rf_Same.l0, if_neg (show ¬ (i : Int) < (wg.length : Int) by omega)]; exact Ev.now true
 | d + 1, i, h => by
  refine Ev.up ?_; simp only [rf_Same.l0, if_pos (show (i : Int) < (wg.length : Int) by omega), if_pos (show (0 : Int) ≤ (i : Int) by omega), wi i (by omega), beq_self_eq_true, Bool.not_true, Bool.or_self, Bool.false_eq_true, if_false]; exact Same_l0 st wg hl d (i + 1) (by omega)
theorem Same_f (st : List S41) (wg : List S80) (h0 : st.length ≤ 1000) (hl : wg.length ≤ 1000) : Ev (fun k => rf_Same.f k st wg st wg) true := by
 unfold rf_Same.f
 refine Ev.bind (Spans_f st st h0) ?_; simp only [decide_true, if_true, bne_self_eq_false]; refine Ev.up ?_; simp only [rf_Same.j0, Bool.false_eq_true, if_false]; exact Same_l0 st wg hl wg.length 0 (by omega)
theorem Least_f (s : Sp) (h : stB s) (w : Int) (hw : 0 ≤ w ∧ w ≤ 400) : rf_Least.f s.lo s.hi w = some (loS s w) := by
 obtain ⟨h0, h1, h2⟩ := h
 unfold rf_Least.f loS
 have e1 : 0 ≤ w * s.hi := Int.mul_nonneg hw.1 (by omega); have e2 : w * s.hi ≤ 400 * 300 := Int.mul_le_mul hw.2 h2 (by omega) (by omega)
 generalize w * s.hi = y at *
 rw [wr (x := y) (by omega), Int.tdiv_eq_ediv_of_nonneg (by omega), wr (x := y / 1000) (by omega), wr (x := y / 1000 * 1000) (by omega), wr (x := y / 1000 + 1) (by omega)]
 split
 ·rw [wr (by omega)]; congr 1; omega
 ·rw [wr (by omega)]; congr 1; omega
theorem Greatest_f (s : Sp) (h : stB s) (w : Int) (hw : 0 ≤ w ∧ w ≤ 400) : rf_Greatest.f s.lo s.hi w = some (hiS s w) := by
 obtain ⟨h0, h1, h2⟩ := h
 unfold rf_Greatest.f hiS
 have e1 : 0 ≤ w * s.lo := Int.mul_nonneg hw.1 (by omega); have e2 : w * s.lo ≤ 400 * 300 := Int.mul_le_mul hw.2 (by omega) (by omega) (by omega)
 generalize w * s.lo = y at *
 rw [wr (x := y) (by omega), Int.tdiv_eq_ediv_of_nonneg (by omega), wr (x := y / 1000) (by omega), wr (by omega)]
theorem Check_l1 (st : List S41) (wg : List S80) (hl : wg.length ≤ 1000) : ∀ (d i : Nat), i + d = wg.length → Ev (fun k => rf_Check.l1 k (i : Int) st wg) (if (toWg (wg.drop i)).any (wgBad st.length) then 2 else 0)
 | 0, i, h => by
  refine Ev.up ?_; simp only [rf_Check.l1, if_neg (show ¬ (i : Int) < (wg.length : Int) by omega)]; rw [List.drop_eq_nil_of_le (by omega)]; exact Ev.now _
 | d + 1, i, h => by
  refine Ev.up ?_
  have hi : i < wg.length := by omega
  simp only [rf_Check.l1, if_pos (show (i : Int) < (wg.length : Int) by omega), if_pos (show (0 : Int) ≤ (i : Int) by omega), wi i (by omega), rdW wg i hi, In_f, Option.bind_some]; have ih := Check_l1 st wg hl d (i + 1) (by omega); rw [List.drop_eq_getElem_cons hi]; have e : (toWg (wg[i] :: wg.drop (i + 1))).any (wgBad st.length) = (wgBad st.length ⟨wg[i].f0, wg[i].f1, wg[i].f2⟩ || (toWg (wg.drop (i + 1))).any (wgBad st.length)) := rfl; rw [e]
  unfold wgBad at ih ⊢
  cases h1 : inB 0 (st.length : Int) [wg[i].f0] <;> cases h2 : inB 0 400 [wg[i].f1] <;> cases h3 : inB 0 20 [wg[i].f2] <;> simp only [Bool.false_eq_true, if_false, if_true, Bool.not_true, Bool.not_false, Bool.or_true, Bool.true_or, Bool.or_false, Bool.false_or]
  all_goals first | exact Ev.now _ | exact ih
theorem Check_l0 (st : List S41) (wg : List S80) (hs : st.length ≤ 1000) (hl : wg.length ≤ 1000) : ∀ (d i : Nat), i + d = st.length → Ev (fun k => rf_Check.l0 k (i : Int) st wg) (if (toSt (st.drop i)).any stBad then 4 else if wg.length > 8 then 5 else if (toWg wg).any (wgBad st.length) then 2 else 0)
 | 0, i, h => by
  refine Ev.up ?_; simp only [rf_Check.l0, if_neg (show ¬ (i : Int) < (st.length : Int) by omega)]; rw [List.drop_eq_nil_of_le (by omega)]; have e : (toSt []).any stBad = false := rfl; rw [e]; simp only [Bool.false_eq_true, if_false]
  by_cases h8 : wg.length > 8
  ·simp only [if_pos h8, if_pos (show (wg.length : Int) > 8 by omega)]
   exact Ev.now _
  ·simp only [if_neg h8, if_neg (show ¬ (wg.length : Int) > 8 by omega)]
   have h9 := Check_l1 st wg hl wg.length 0 (by omega); rw [List.drop_zero] at h9; exact h9
 | d + 1, i, h => by
  refine Ev.up ?_
  have hi : i < st.length := by omega
  simp only [rf_Check.l0, if_pos (show (i : Int) < (st.length : Int) by omega), if_pos (show (0 : Int) ≤ (i : Int) by omega), wi i (by omega), rdA st i hi, In_f, Option.bind_some]; have ih := Check_l0 st wg hs hl d (i + 1) (by omega); rw [List.drop_eq_getElem_cons hi]; have e : (toSt (st[i] :: st.drop (i + 1))).any stBad = (stBad ⟨st[i].f0, st[i].f1⟩ || (toSt (st.drop (i + 1))).any stBad) := rfl; rw [e]
  have e2 : stBad ⟨st[i].f0, st[i].f1⟩ = !(inB 0 st[i].f1 [st[i].f0] && !decide (st[i].f1 > 300)) := by
   unfold stBad
   rw [Bool.eq_iff_iff]; simp only [Bool.or_eq_true, decide_eq_true_eq, Bool.not_eq_true', Bool.and_eq_false_iff, Bool.not_eq_false']
   have a1 : (inB 0 300 [st[i].f0, st[i].f1] = false) ↔ ¬ ((0 ≤ st[i].f0 ∧ st[i].f0 ≤ 300) ∧ (0 ≤ st[i].f1 ∧ st[i].f1 ≤ 300)) := by
    rw [← Bool.not_eq_true, inB_iff]
    simp
   have a2 : (inB 0 st[i].f1 [st[i].f0] = false) ↔ ¬ (0 ≤ st[i].f0 ∧ st[i].f0 ≤ st[i].f1) := by rw [← Bool.not_eq_true, inB_one]
   rw [a1, a2]; omega
  rw [e2]
  cases h1 : inB 0 st[i].f1 [st[i].f0]
  ·simp only [Bool.false_eq_true, if_false, Bool.false_and, Bool.not_false, Bool.true_or, if_true]
   exact Ev.now _
  ·by_cases h3 : st[i].f1 > 300
   ·simp only [h3, if_true, decide_true, Bool.not_true, Bool.and_false, Bool.not_false, Bool.true_or]
    exact Ev.now _
   ·simp only [h3, if_true, decide_false, Bool.not_false, Bool.and_true, Bool.not_true, Bool.false_or, if_false]
    exact ih
theorem Check_f (st : List S41) (wg : List S80) (hs : st.length ≤ 1000) (hl : wg.length ≤ 1000) : Ev (fun k => rf_Check.f k st wg) (roadE (toSt st) (toWg wg)) := by
 unfold rf_Check.f roadE
 simp only [In_f, Option.bind_some, toSt_len, toWg_len]
 cases h1 : inB 1 5 [(st.length : Int)]
 ·simp only [Bool.false_eq_true, if_false]
  exact Ev.now _
 ·simp only [if_true]
  have h9 := Check_l0 st wg hs hl st.length 0 (by omega); rw [List.drop_zero] at h9; exact h9
end Go.Proofs.YtemingmeidmjkaaDoor.Q
namespace Go.Proofs.YtemingmeidmjkaaDoor.Q
open Go.RowKit Go.Proofs.YtemingmeidmjkaaDoorW.PrintWords
set_option linter.unusedVariables false
set_option linter.unusedSimpArgs false
def T4 (g : Nat → Bool) : List Bool := (List.range 401).map g
theorem T4_len (g : Nat → Bool) : (T4 g).length = 401 := by simp [T4]
theorem T4_get (g : Nat → Bool) (i : Nat) (h : i ≤ 400) : rdOf false (T4 g) (i : Int) = g i := by
 unfold rdOf T4
 rw [Int.toNat_natCast, List.getD_eq_getElem?_getD, List.getElem?_map, List.getElem?_range (by omega)]; rfl
theorem T4_congr {g h : Nat → Bool} (e : ∀ j, j ≤ 400 → g j = h j) : T4 g = T4 h := List.map_congr_left fun j hj => e j (by have := List.mem_range.1 hj; omega)
theorem T4_set (g : Nat → Bool) (i : Nat) (b : Bool) : (T4 g).set i b = T4 (fun j => if j = i then b else g j) := by
 apply List.ext_getElem?
 intro j; rw [List.getElem?_set, T4_len]
 unfold T4
 rw [List.getElem?_map, List.getElem?_map]
 by_cases hj : j < 401
 ·rw [List.getElem?_range hj]
  by_cases e : i = j
  ·rw [if_pos e, if_pos (by omega)]
   simp [e]
  ·rw [if_neg e]
   simp [show ¬ j = i from fun e' => e e'.symm]
 ·rw [List.getElem?_eq_none (l := List.range 401) (by simpa using hj)]
  by_cases e : i = j
  ·rw [if_pos e, if_neg (by omega)]; rfl
  ·rw [if_neg e]; rfl
def rowsL (n : Nat) (R : Nat → Nat → Bool) : List (List Bool) := (List.range n).map fun p => T4 (R p)
theorem rowsL_len (n : Nat) (R : Nat → Nat → Bool) : (rowsL n R).length = n := by simp [rowsL]
theorem rowsL_get (n : Nat) (R : Nat → Nat → Bool) (p : Nat) (h : p < n) : rd_L9 (rowsL n R) (p : Int) = T4 (R p) := by
 unfold rd_L9 rowsL
 rw [Int.toNat_natCast, List.getD_eq_getElem?_getD, List.getElem?_map, List.getElem?_range h]; rfl
theorem rowsL_set (n : Nat) (R : Nat → Nat → Bool) (p : Nat) (g : Nat → Bool) (h : p < n) : (rowsL n R).set p (T4 g) = rowsL n (fun q => if q = p then g else R q) := by
 apply List.ext_getElem?
 intro j; rw [List.getElem?_set, rowsL_len]
 unfold rowsL
 rw [List.getElem?_map, List.getElem?_map]
 by_cases hj : j < n
 ·rw [List.getElem?_range hj]
  by_cases e : p = j
  ·rw [if_pos e, if_pos (by omega)]
   simp [e]
  ·rw [if_neg e]
   simp [show ¬ j = p from fun e' => e e'.symm]
 ·rw [List.getElem?_eq_none (l := List.range n) (by simpa using hj)]
  by_cases e : p = j
  ·omega
  ·rw [if_neg e]; rfl
theorem rowsL_succ (n : Nat) (R : Nat → Nat → Bool) : rowsL n R ++ [T4 (R n)] = rowsL (n + 1) R := by simp [rowsL, List.range_succ]
theorem rowsL_congr {n : Nat} {R S : Nat → Nat → Bool} (e : ∀ p, p < n → ∀ j, j ≤ 400 → R p j = S p j) : rowsL n R = rowsL n S := List.map_congr_left fun p hp => T4_congr (e p (List.mem_range.1 hp))
def fitB (wg : List Wg) (p w : Int) : Bool := wg.all fun x => !decide (x.p = p) || inB (x.r - x.o) (x.r + x.o) [w]
theorem fitB_iff (wg : List Wg) (p w : Int) : fitB wg p w = true ↔ ∀ x ∈ wg, x.p = p → x.r - x.o ≤ w ∧ w ≤ x.r + x.o := by
 unfold fitB
 simp only [List.all_eq_true, Bool.or_eq_true, Bool.not_eq_true', decide_eq_false_iff_not, inB_one]
 exact ⟨fun h x hx hp => (h x hx).resolve_left (fun hn => hn hp), fun h x hx => by
  by_cases e : x.p = p
  ·exact .inr (h x hx e)
  ·exact .inl e⟩
theorem seen_in (p w : Int) : ∀ (wg : List Wg) (s : Sp), inS (wg.foldl (seenStep p) s) w ↔ inS s w ∧ ∀ x ∈ wg, x.p = p → x.r - x.o ≤ w ∧ w ≤ x.r + x.o
 | [], s => by simp
 | x :: wg, s => by
  rw [List.foldl_cons, seen_in p w wg]
  unfold seenStep
  by_cases e : x.p = p
  ·rw [if_pos e, inS_and]
   simp only [List.mem_cons, forall_eq_or_imp, e, true_implies]
   unfold inS
   simp only
   constructor
   ·rintro ⟨⟨h1, h2⟩, h3⟩; exact ⟨h1, h2, h3⟩
   ·rintro ⟨h1, h2, h3⟩; exact ⟨⟨h1, h2⟩, h3⟩
  ·rw [if_neg e]
   simp only [List.mem_cons, forall_eq_or_imp, e, false_implies, true_and]
theorem fit_seen (wg : List Wg) (p w : Int) (h : 0 ≤ w ∧ w ≤ 400) : fitB wg p w = true ↔ inS (seenS wg p) w := by
 rw [fitB_iff, seenS, seen_in]; simp only [inS]; exact ⟨fun h1 => ⟨h, h1⟩, fun h1 => h1.2⟩
theorem Fits_l0 (st : List S41) (wg : List S80) (hw : wgOk (toWg wg)) (hl : wg.length ≤ 1000) (p w : Int) : ∀ (d i : Nat), i + d = wg.length → Ev (fun k => rf_Fits.l0 k p w (i : Int) st wg) (fitB (toWg (wg.drop i)) p w)
 | 0, i, h => by
  refine Ev.up ?_; simp only [rf_Fits.l0, if_neg (show ¬ (i : Int) < (wg.length : Int) by omega)]; rw [List.drop_eq_nil_of_le (by omega)]; exact Ev.now _
 | d + 1, i, h => by
  refine Ev.up ?_
  have hi : i < wg.length := by omega
  have hb := hw ⟨wg[i].f0, wg[i].f1, wg[i].f2⟩ (List.mem_map.2 ⟨wg[i], List.getElem_mem hi, rfl⟩); simp only at hb; simp only [rf_Fits.l0, if_pos (show (i : Int) < (wg.length : Int) by omega), if_pos (show (0 : Int) ≤ (i : Int) by omega), wi i (by omega), rdW wg i hi, In_f, Option.bind_some]; rw [wr (x := wg[i].f1 - wg[i].f2) (by omega), wr (x := wg[i].f1 + wg[i].f2) (by omega), List.drop_eq_getElem_cons hi]; have ih := Fits_l0 st wg hw hl p w d (i + 1) (by omega); have e : fitB (toWg (wg[i] :: wg.drop (i + 1))) p w = ((!decide (wg[i].f0 = p) || inB (wg[i].f1 - wg[i].f2) (wg[i].f1 + wg[i].f2) [w]) && fitB (toWg (wg.drop (i + 1))) p w) := rfl; rw [e]
  by_cases hp : wg[i].f0 = p
  ·simp only [hp, if_true, decide_true, Bool.not_true, Bool.false_or]
   cases inB (wg[i].f1 - wg[i].f2) (wg[i].f1 + wg[i].f2) [w]
   ·simp only [Bool.false_eq_true, if_false, Bool.false_and]; exact Ev.now _
   ·simp only [if_true, Bool.true_and]; exact ih
  ·simp only [hp, if_false, decide_false, Bool.not_false, Bool.true_or, Bool.true_and]
   exact ih
theorem Fits_f (st : List S41) (wg : List S80) (hw : wgOk (toWg wg)) (hl : wg.length ≤ 1000) (p w : Int) : Ev (fun k => rf_Fits.f k st wg p w) (fitB (toWg wg) p w) := by
 have h := Fits_l0 st wg hw hl p w wg.length 0 (by omega); rw [List.drop_zero] at h; exact h
def stpB (st : List Sp) (th : Int) (p w v : Nat) : Bool := if (p : Int) = th then decide ((v : Int) < hiS (rdS st p) w) else inB (loS (rdS st p) w) (hiS (rdS st p) w) [(v : Int)]
theorem Step_f (st : List S41) (wg : List S80) (hok : RdOk (toSt st) (toWg wg)) (th : Int) (p w v : Nat) (hp : p < st.length) (hw : w ≤ 400) : rf_Step.f st wg (p : Int) (w : Int) (v : Int) ((p : Int) == th) = some (stpB (toSt st) th p w v) := by
 have hv := hok.at (p : Int) (by omega) (by rw [toSt_len]; omega); have e1 := Least_f (rdS (toSt st) (p : Int)) hv (w : Int) (by omega); have e2 := Greatest_f (rdS (toSt st) (p : Int)) hv (w : Int) (by omega)
 have er : rdS (toSt st) (p : Int) = ⟨st[p].f0, st[p].f1⟩ := by rw [rdS_nat _ _ (by rw [toSt_len]; exact hp), toSt_get st p hp]
 unfold rf_Step.f stpB
 rw [er] at e1 e2 ⊢; simp only at e1 e2; simp only [if_pos (show (0 : Int) ≤ (p : Int) by omega), if_pos (show (p : Int) < (st.length : Int) by omega), rdA st p hp, e1, e2, In_f, Option.bind_some]
 by_cases h : (p : Int) = th
 ·simp [h]
 ·simp [h]
def fwB (st : List Sp) (wg : List Wg) (th : Int) : Nat → Nat → Bool
 | 0, w => fitB wg 0 w
 | p + 1, v => fitB wg ((p + 1 : Nat) : Int) v && (List.range 401).any fun w => decide (v ≤ w) && fwB st wg th p w && stpB st th p w v
def acB (st : List Sp) (wg : List Wg) (th : Int) (p w v : Nat) : Bool := (List.range w).any fun w' => decide (v ≤ w') && fwB st wg th p w' && stpB st th p w' v
theorem acB_succ (st : List Sp) (wg : List Wg) (th : Int) (p w v : Nat) : acB st wg th p (w + 1) v = (acB st wg th p w v || (decide (v ≤ w) && fwB st wg th p w && stpB st th p w v)) := by
 unfold acB
 rw [List.range_succ, List.any_append]
 simp
def fuB (st : List Sp) (wg : List Wg) (th : Int) : Nat → Nat → Nat → Bool
 | 0, p, w => fwB st wg th p w
 | d + 1, p, w => fwB st wg th p w && (List.range (w + 1)).any fun v => fuB st wg th d (p + 1) v && stpB st th p w v
section
variable (st : List S41) (wg : List S80) (hok : RdOk (toSt st) (toWg wg)) (hl : wg.length ≤ 1000) (th : Int) (r : List (List Bool))
theorem Sets_l1 (p : Nat) (x6 : List (List Bool)) (x5 : Int) (g : Nat → Bool)
  (h : Ev (fun k => rf_Sets.l2 k th x5 x6 (p : Int) (T4 fun w => if p = 0 then fitB (toWg wg) 0 w else false) 0 st wg) r) (hok : RdOk (toSt st) (toWg wg)) (hl : wg.length ≤ 1000) : ∀ (d i : Nat), i + d = 401 → Ev (fun k => rf_Sets.l1 k th x5 x6 (p : Int) (T4 fun w => if w < i then (if p = 0 then fitB (toWg wg) 0 w else false) else g w) (i : Int) st wg) r
 | 0, i, hd => by
  refine Ev.up ?_; simp only [rf_Sets.l1, if_neg (show ¬ (i : Int) ≤ 400 by omega)]; rw [T4_congr (h := fun w => if p = 0 then fitB (toWg wg) 0 w else false) (fun j hj => if_pos (show j < i by omega))]; exact h
 | d + 1, i, hd => by
  have ih := Sets_l1 p x6 x5 g h hok hl d (i + 1) (by omega); refine Ev.up ?_
  have e : ∀ b, b = (if p = 0 then fitB (toWg wg) 0 i else false) → (T4 fun w => if w < i then (if p = 0 then fitB (toWg wg) 0 w else false) else g w).set i b = T4 fun w => if w < i + 1 then (if p = 0 then fitB (toWg wg) 0 w else false) else g w := by
   intro b hb; rw [T4_set, hb]; refine T4_congr (fun j hj => ?_)
   by_cases e1 : j = i
   ·rw [if_pos e1, if_pos (show j < i + 1 by omega), e1]
   ·rw [if_neg e1]
    by_cases e2 : j < i
    ·rw [if_pos e2, if_pos (show j < i + 1 by omega)]
    ·rw [if_neg e2, if_neg (show ¬ j < i + 1 by omega)]
  simp only [rf_Sets.l1, if_pos (show (i : Int) ≤ 400 by omega), if_pos (show (0 : Int) ≤ (i : Int) by omega), T4_len, if_pos (show (i : Int) < ((401 : Nat) : Int) by omega), wi i (by omega), Int.toNat_natCast]
  by_cases hp : p = 0
  ·subst hp
   simp only [Int.natCast_zero, Int.ofNat_eq_natCast, if_true] at *; refine Ev.bind (Fits_f st wg hok.wgs hl 0 (i : Int)) ?_; rw [e _ rfl]; exact ih
  ·simp only [if_neg (show ¬ (p : Int) = 0 by omega)]
   rw [e false (by rw [if_neg hp])]; exact ih
theorem Sets_l3 (n p : Nat) (x5 : Int) (hp : p < st.length) (w : Nat) (hw : w ≤ 400) (hok : RdOk (toSt st) (toWg wg))
  (h : Ev (fun k => rf_Sets.l2 k th x5 (rowsL (p + 1) (fwB (toSt st) (toWg wg) th)) ((p + 1 : Nat) : Int) (T4 (acB (toSt st) (toWg wg) th p (w + 1))) ((w + 1 : Nat) : Int) st wg) r) (hf : fwB (toSt st) (toWg wg) th p w = true) :
  ∀ (d i : Nat), i + d = w + 1 → Ev (fun k => rf_Sets.l3 k th x5 (rowsL (p + 1) (fwB (toSt st) (toWg wg) th)) ((p + 1 : Nat) : Int) (T4 fun v => if v < i then acB (toSt st) (toWg wg) th p (w + 1) v else acB (toSt st) (toWg wg) th p w v) (w : Int) (i : Int) st wg) r
 | 0, i, hd => by
  refine Ev.up ?_; simp only [rf_Sets.l3, if_neg (show ¬ (i : Int) ≤ (w : Int) by omega), wi w (by omega)]
  rw [T4_congr (h := acB (toSt st) (toWg wg) th p (w + 1)) (fun j hj => by
   by_cases e1 : j < i
   ·rw [if_pos e1]
   ·rw [if_neg e1, acB_succ, decide_eq_false (show ¬ j ≤ w by omega)]; simp)]
  exact h
 | d + 1, i, hd => by
  have ih := Sets_l3 n p x5 hp w hw hok h hf d (i + 1) (by omega); refine Ev.up ?_
  have e1 : wrap64 (((p + 1 : Nat) : Int) - 1) = (p : Int) := by
   have := hok.len; rw [toSt_len] at this; rw [wr (by omega)]; omega
  have e : ∀ b, b = acB (toSt st) (toWg wg) th p (w + 1) i → (T4 fun v => if v < i then acB (toSt st) (toWg wg) th p (w + 1) v else acB (toSt st) (toWg wg) th p w v).set i b = T4 fun v => if v < i + 1 then acB (toSt st) (toWg wg) th p (w + 1) v else acB (toSt st) (toWg wg) th p w v := by
   intro b hb; rw [T4_set, hb]; refine T4_congr (fun j hj => ?_)
   by_cases e1 : j = i
   ·rw [if_pos e1, if_pos (show j < i + 1 by omega), e1]
   ·rw [if_neg e1]
    by_cases e2 : j < i
    ·rw [if_pos e2, if_pos (show j < i + 1 by omega)]
    ·rw [if_neg e2, if_neg (show ¬ j < i + 1 by omega)]
  have ea : acB (toSt st) (toWg wg) th p (w + 1) i = (acB (toSt st) (toWg wg) th p w i || stpB (toSt st) th p w i) := by
   rw [acB_succ, hf, decide_eq_true (show i ≤ w by omega)]; simp
  simp only [rf_Sets.l3, if_pos (show (i : Int) ≤ (w : Int) by omega), e1, if_pos (show (0 : Int) ≤ (p : Int) by omega), rowsL_len, if_pos (show (p : Int) < ((p + 1 : Nat) : Int) by omega), if_pos (show (0 : Int) ≤ (w : Int) by omega), rowsL_get (p + 1) _ p (by omega), T4_len, if_pos (show (w : Int) < ((401 : Nat) : Int) by omega), T4_get _ w hw, hf, if_true, if_pos (show (0 : Int) ≤ (i : Int) by omega), if_pos (show (i : Int) < ((401 : Nat) : Int) by omega), T4_get _ i (show i ≤ 400 by omega), if_neg (show ¬ i < i by omega), wi i (by omega), Int.toNat_natCast]
  cases ha : acB (toSt st) (toWg wg) th p w i
  ·simp only [Bool.false_eq_true, if_false]
   simp only [Step_f st wg hok th p w i hp hw, Option.bind_some]; rw [e _ (by rw [ea, ha, Bool.false_or])]; exact ih
  ·simp only [if_true]
   rw [e true (by rw [ea, ha, Bool.true_or])]; exact ih
theorem Sets_l2 (p : Nat) (x5 : Int) (hp : p < st.length) (hok : RdOk (toSt st) (toWg wg))
  (h : Ev (fun k => rf_Sets.l4 k th x5 (rowsL (p + 1) (fwB (toSt st) (toWg wg) th)) ((p + 1 : Nat) : Int) (T4 (acB (toSt st) (toWg wg) th p 401)) 0 st wg) r) :
  ∀ (d w : Nat), w + d = 401 → Ev (fun k => rf_Sets.l2 k th x5 (rowsL (p + 1) (fwB (toSt st) (toWg wg) th)) ((p + 1 : Nat) : Int) (T4 (acB (toSt st) (toWg wg) th p w)) (w : Int) st wg) r
 | 0, w, hd => by
  obtain rfl : w = 401 := by omega
  refine Ev.up ?_; simp only [rf_Sets.l2, if_neg (show ¬ (((401 : Nat)) : Int) ≤ 400 by omega)]; refine Ev.up ?_; simp only [rf_Sets.j3, Bool.false_eq_true, if_false]; exact h
 | d + 1, w, hd => by
  have ih := Sets_l2 p x5 hp hok h d (w + 1) (by omega); refine Ev.up ?_; simp only [rf_Sets.l2, if_pos (show (w : Int) ≤ 400 by omega)]; refine Ev.up ?_; simp only [rf_Sets.j3, decide_eq_true (show ((p + 1 : Nat) : Int) > 0 by omega), if_true]
  cases hf : fwB (toSt st) (toWg wg) th p w
  ·refine Ev.up ?_
   have e1 : wrap64 (((p + 1 : Nat) : Int) - 1) = (p : Int) := by
    have := hok.len; rw [toSt_len] at this; rw [wr (by omega)]; omega
   simp only [rf_Sets.l3, if_pos (show (0 : Int) ≤ (w : Int) by omega), e1, if_pos (show (0 : Int) ≤ (p : Int) by omega), rowsL_len, if_pos (show (p : Int) < ((p + 1 : Nat) : Int) by omega), rowsL_get (p + 1) _ p (by omega), T4_len, if_pos (show (w : Int) < ((401 : Nat) : Int) by omega), T4_get _ w (show w ≤ 400 by omega), hf, Bool.false_eq_true, if_false, wi w (by omega)]; rw [T4_congr (g := acB (toSt st) (toWg wg) th p w) (h := acB (toSt st) (toWg wg) th p (w + 1)) (fun j hj => by rw [acB_succ, hf]; simp)]; exact ih
  ·have h3 := Sets_l3 st wg th r 0 p x5 hp w (by omega) hok ih hf (w + 1) 0 (by omega)
   simp only [show ∀ v, ¬ (v < 0) from fun v => by omega, if_false] at h3; exact h3
theorem Sets_l4 (p : Nat) (x5 : Int) (x6 : List (List Bool)) (hx : x6.length ≤ 1000) (hok : RdOk (toSt st) (toWg wg)) (hl : wg.length ≤ 1000) (g : Nat → Bool) (hp : p ≤ 1000)
  (h : Ev (fun k => rf_Sets.l0 k th x5 (x6 ++ [T4 fun v => g v && fitB (toWg wg) (p : Int) v]) ((p + 1 : Nat) : Int) st wg) r) :
  ∀ (d i : Nat), i + d = 401 → Ev (fun k => rf_Sets.l4 k th x5 x6 (p : Int) (T4 fun v => if v < i then (g v && fitB (toWg wg) (p : Int) v) else g v) (i : Int) st wg) r
 | 0, i, hd => by
  refine Ev.up ?_; simp only [rf_Sets.l4, if_neg (show ¬ (i : Int) ≤ 400 by omega), if_pos (show x6.length < 5864062014805 by omega), wi p (by omega)]; rw [T4_congr (h := fun v => g v && fitB (toWg wg) (p : Int) v) (fun j hj => if_pos (show j < i by omega))]; exact h
 | d + 1, i, hd => by
  have ih := Sets_l4 p x5 x6 hx hok hl g hp h d (i + 1) (by omega); refine Ev.up ?_
  have e : ∀ b, b = (g i && fitB (toWg wg) (p : Int) i) → (T4 fun v => if v < i then (g v && fitB (toWg wg) (p : Int) v) else g v).set i b = T4 fun v => if v < i + 1 then (g v && fitB (toWg wg) (p : Int) v) else g v := by
   intro b hb; rw [T4_set, hb]; refine T4_congr (fun j hj => ?_)
   by_cases e1 : j = i
   ·rw [if_pos e1, if_pos (show j < i + 1 by omega), e1]
   ·rw [if_neg e1]
    by_cases e2 : j < i
    ·rw [if_pos e2, if_pos (show j < i + 1 by omega)]
    ·rw [if_neg e2, if_neg (show ¬ j < i + 1 by omega)]
  simp only [rf_Sets.l4, if_pos (show (i : Int) ≤ 400 by omega), if_pos (show (0 : Int) ≤ (i : Int) by omega), T4_len, if_pos (show (i : Int) < ((401 : Nat) : Int) by omega), T4_get _ i (show i ≤ 400 by omega), if_neg (show ¬ i < i by omega), wi i (by omega), Int.toNat_natCast]
  cases hg : g i
  ·simp only [Bool.false_eq_true, if_false]
   rw [e false (by rw [hg]; rfl)]; exact ih
  ·simp only [if_true]
   refine Ev.bind (Fits_f st wg hok.wgs hl (p : Int) (i : Int)) ?_; rw [e _ (by rw [hg, Bool.true_and])]; exact ih
theorem Sets_l0 (hok : RdOk (toSt st) (toWg wg)) (hl : wg.length ≤ 1000) (hs : st.length ≤ 500)
  (h : Ev (fun k => rf_Sets.l5 k th (rowsL (st.length + 1) (fwB (toSt st) (toWg wg) th)) ((st.length : Int) - 1) st wg) r) :
  ∀ (d p : Nat), p + d = st.length + 1 → Ev (fun k => rf_Sets.l0 k th ((st.length : Int) + 1) (rowsL p (fwB (toSt st) (toWg wg) th)) (p : Int) st wg) r
 | 0, p, hd => by
  obtain rfl : p = st.length + 1 := by omega
  refine Ev.up ?_; simp only [rf_Sets.l0, if_neg (show ¬ ((st.length + 1 : Nat) : Int) < (st.length : Int) + 1 by omega)]; rw [wr (by omega), show (st.length : Int) + 1 - 2 = (st.length : Int) - 1 by omega]; exact h
 | d + 1, p, hd => by
  have ih := Sets_l0 hok hl hs h d (p + 1) (by omega); refine Ev.up ?_; simp only [rf_Sets.l0, if_pos (show (p : Int) < (st.length : Int) + 1 by omega), if_pos (show 401 ≤ 281474976710656 by omega)]
  have e0 : List.replicate 401 false = T4 fun w => if w < 0 then (if p = 0 then fitB (toWg wg) 0 w else false) else false := by
   unfold T4
   rw [List.map_congr_left (g := fun _ => false) (fun j _ => if_neg (show ¬ j < 0 by omega)), List.map_const', List.length_range]
  rw [e0]; refine Sets_l1 st wg th r p (rowsL p (fwB (toSt st) (toWg wg) th)) ((st.length : Int) + 1) (fun _ => false) ?_ hok hl 401 0 (by omega); rw [← rowsL_succ] at ih
  match p, hd, ih with
  | 0, hd, ih =>
   refine Ev.up ?_; simp only [rf_Sets.l2, if_pos (show (0 : Int) ≤ 400 by omega), Int.natCast_zero, Int.ofNat_eq_natCast]; refine Ev.up ?_; simp only [rf_Sets.j3, decide_eq_false (show ¬ ((0 : Int) > 0) by omega), Bool.false_eq_true, if_false, if_true]
   have h4 := Sets_l4 st wg th r 0 ((st.length : Int) + 1) (rowsL 0 (fwB (toSt st) (toWg wg) th)) (by simp [rowsL]) hok hl (fun w => fitB (toWg wg) 0 w) (by omega) (by
    rw [T4_congr (h := fwB (toSt st) (toWg wg) th 0) (fun j hj => by
     show (fitB (toWg wg) 0 j && fitB (toWg wg) ((0 : Nat) : Int) j) = fitB (toWg wg) 0 j
     simp)]
    exact ih) 401 0 (by omega)
   simp only [show ∀ v, ¬ (v < 0) from fun v => by omega, if_false] at h4; exact h4
  | p + 1, hd, ih =>
   have e1 : (T4 fun w => if p + 1 = 0 then fitB (toWg wg) 0 w else false) = T4 (acB (toSt st) (toWg wg) th p 0) := T4_congr (fun j hj => by rw [if_neg (by omega)]; rfl); rw [e1]; refine Sets_l2 st wg th r p ((st.length : Int) + 1) (by omega) hok ?_ 401 0 (by omega)
   have h4 := Sets_l4 st wg th r (p + 1) ((st.length : Int) + 1) (rowsL (p + 1) (fwB (toSt st) (toWg wg) th)) (by rw [rowsL_len]; omega) hok hl (acB (toSt st) (toWg wg) th p 401) (by omega) (by
    rw [T4_congr (h := fwB (toSt st) (toWg wg) th (p + 1)) (fun j hj => by
     rw [Bool.and_comm]
     rfl)]
    exact ih) 401 0 (by omega)
   simp only [show ∀ v, ¬ (v < 0) from fun v => by omega, if_false] at h4; exact h4
end
end Go.Proofs.YtemingmeidmjkaaDoor.Q
namespace Go.Proofs.YtemingmeidmjkaaDoor.Q
open Go.RowKit Go.Proofs.YtemingmeidmjkaaDoorW.PrintWords
set_option linter.unusedVariables false
set_option linter.unusedSimpArgs false
def anF (f : Nat → Bool) : Nat → Nat → Bool
 | 0, _ => false
 | d + 1, i => f i || anF f d (i + 1)
theorem anF_eq (f : Nat → Bool) : ∀ (d i : Nat), anF f d i = (List.range d).any fun t => f (i + t)
 | 0, i => rfl
 | d + 1, i => by
  rw [anF, anF_eq f d (i + 1), List.range_succ_eq_map, List.any_cons, List.any_map]
  congr 1
  congr 1
  funext t
  simp only [Function.comp]; rw [show i + 1 + t = i + (t + 1) by omega]
theorem anF_zero (f : Nat → Bool) (d : Nat) : anF f d 0 = (List.range d).any f := by
 rw [anF_eq]
 congr 1
 funext t
 rw [Nat.zero_add]
def upR (R : Nat → Nat → Bool) (p w : Nat) (b : Bool) : Nat → Nat → Bool := fun q => if q = p then (fun j => if j = w then b else R p j) else R q
section
variable (st : List S41) (wg : List S80) (th : Int) (r : List (List Bool))
theorem Sets_l7 (n p w : Nat) (hn : n = st.length + 1) (hp : p < st.length) (hw : w ≤ 400) (hok : RdOk (toSt st) (toWg wg)) (R : Nat → Nat → Bool) : ∀ (d i : Nat) (c : Bool), i + d = w + 1 → (c = true → R p w = true) →
  Ev (fun k => rf_Sets.l6 k th (rowsL n (upR R p w (R p w && (c || anF (fun v => R (p + 1) v && stpB (toSt st) th p w v) d i)))) (p : Int) ((w + 1 : Nat) : Int) st wg) r →
  Ev (fun k => rf_Sets.l7 k th (rowsL n R) (p : Int) (w : Int) c (i : Int) st wg) r
 | 0, i, c, hd, hc, h => by
  refine Ev.up ?_
  have e : (R p w && (c || anF (fun v => R (p + 1) v && stpB (toSt st) th p w v) 0 i)) = c := by
   cases c
   ·simp [anF]
   ·rw [hc rfl]; rfl
  rw [e] at h; simp only [rf_Sets.l7, if_neg (show ¬ (i : Int) ≤ (w : Int) by omega), if_pos (show (0 : Int) ≤ (p : Int) by omega), rowsL_len, if_pos (show (p : Int) < (n : Int) by omega), if_pos (show (0 : Int) ≤ (w : Int) by omega), rowsL_get n R p (by omega), T4_len, if_pos (show (w : Int) < ((401 : Nat) : Int) by omega), Int.toNat_natCast, T4_set, wi w (by omega)]; rw [rowsL_set n R p _ (by omega)]; exact h
 | d + 1, i, c, hd, hc, h => by
  have hset : ∀ b, (rowsL n R).set p ((T4 (R p)).set w b) = rowsL n (upR R p w b) := by
   intro b; rw [T4_set, rowsL_set n R p _ (by omega)]; rfl
  have hlen := hok.len; rw [toSt_len] at hlen; refine Ev.up ?_; simp only [rf_Sets.l7, if_pos (show (i : Int) ≤ (w : Int) by omega), if_pos (show (0 : Int) ≤ (p : Int) by omega), rowsL_len, if_pos (show (p : Int) < (n : Int) by omega), if_pos (show (0 : Int) ≤ (w : Int) by omega), rowsL_get n R p (by omega), T4_len, if_pos (show (w : Int) < ((401 : Nat) : Int) by omega), Int.toNat_natCast, T4_get _ w hw, wi w (by omega), hset]
  cases hr : R p w
  ·have hcf : c = false := by
    cases c
    ·rfl
    ·rw [hc rfl] at hr; cases hr
   subst hcf; rw [hr] at h; simp only [Bool.false_and] at h; simp only [Bool.false_eq_true, if_false]; exact h
  ·simp only [if_true]
   cases c
   ·simp only [Bool.false_eq_true, if_false, wi p (by omega), if_pos (show (0 : Int) ≤ ((p + 1 : Nat) : Int) by omega), if_pos (show ((p + 1 : Nat) : Int) < (n : Int) by omega), if_pos (show (0 : Int) ≤ (i : Int) by omega), rowsL_get n R (p + 1) (by omega), T4_len, if_pos (show (i : Int) < ((401 : Nat) : Int) by omega), T4_get _ i (show i ≤ 400 by omega), wi i (by omega)]
    rw [hr] at h; simp only [anF, Bool.true_and, Bool.false_or] at h
    cases h2 : R (p + 1) i
    ·simp only [Bool.false_eq_true, if_false]
     refine Sets_l7 n p w hn hp hw hok R d (i + 1) false (by omega) (fun e => by cases e) ?_; rw [hr]; rw [h2] at h
     simpa using h
    ·simp only [if_true, Step_f st wg hok th p w i hp hw, Option.bind_some]
     refine Sets_l7 n p w hn hp hw hok R d (i + 1) _ (by omega) (fun _ => hr) ?_; rw [hr]; rw [h2] at h
     simpa using h
   ·simp only [if_true]
    rw [hr] at h; simp only [Bool.true_or, Bool.and_self] at h; exact h
def bkR (R : Nat → Nat → Bool) (th : Int) (sts : List Sp) (p : Nat) : Nat → Bool := fun w => R p w && (List.range (w + 1)).any fun v => R (p + 1) v && stpB sts th p w v
def atR (R : Nat → Nat → Bool) (th : Int) (sts : List Sp) (p i : Nat) : Nat → Nat → Bool := fun q => if q = p then (fun w => if w < i then bkR R th sts p w else R p w) else R q
theorem Sets_l6 (n p : Nat) (hn : n = st.length + 1) (hp : p < st.length) (hok : RdOk (toSt st) (toWg wg)) (R : Nat → Nat → Bool)
  (h : Ev (fun k => rf_Sets.l5 k th (rowsL n (atR R th (toSt st) p 401)) ((p : Int) - 1) st wg) r) : ∀ (d i : Nat), i + d = 401 → Ev (fun k => rf_Sets.l6 k th (rowsL n (atR R th (toSt st) p i)) (p : Int) (i : Int) st wg) r
 | 0, i, hd => by
  obtain rfl : i = 401 := by omega
  refine Ev.up ?_; have hlen := hok.len; rw [toSt_len] at hlen; simp only [rf_Sets.l6, if_neg (show ¬ ((401 : Nat) : Int) ≤ 400 by omega)]; rw [wr (by omega)]; exact h
 | d + 1, i, hd => by
  have ih := Sets_l6 n p hn hp hok R h d (i + 1) (by omega); refine Ev.up ?_; simp only [rf_Sets.l6, if_pos (show (i : Int) ≤ 400 by omega)]; refine Sets_l7 st wg th r n p i hn hp (by omega) hok (atR R th (toSt st) p i) (i + 1) 0 false (by omega) (fun e => by cases e) ?_
  have e : rowsL n (upR (atR R th (toSt st) p i) p i (atR R th (toSt st) p i p i && (false || anF (fun v => atR R th (toSt st) p i (p + 1) v && stpB (toSt st) th p i v) (i + 1) 0))) = rowsL n (atR R th (toSt st) p (i + 1)) := by
   refine rowsL_congr (fun q hq j hj => ?_)
   have a1 : atR R th (toSt st) p i p i = R p i := by simp [atR]
   have a2 : ∀ v, atR R th (toSt st) p i (p + 1) v = R (p + 1) v := fun v => by simp [atR]
   have a3 : (atR R th (toSt st) p i p i && (false || anF (fun v => atR R th (toSt st) p i (p + 1) v && stpB (toSt st) th p i v) (i + 1) 0)) = bkR R th (toSt st) p i := by
    rw [a1, Bool.false_or, anF_zero]; simp only [a2]; rfl
   rw [a3]
   by_cases e1 : q = p
   ·subst e1
    simp only [upR, if_true, atR]
    by_cases e2 : j = i
    ·subst e2
     simp
    ·rw [if_neg e2]
     by_cases e3 : j < i
     ·rw [if_pos e3, if_pos (show j < i + 1 by omega)]
     ·rw [if_neg e3, if_neg (show ¬ j < i + 1 by omega)]
   ·simp only [upR, if_neg e1, atR]
  rw [e]; exact ih
def gR (sts : List Sp) (wgs : List Wg) (th : Int) (p : Nat) : Nat → Nat → Bool := fun q => if q < p then fwB sts wgs th q else fuB sts wgs th (sts.length - q) q
theorem Sets_l5 (hok : RdOk (toSt st) (toWg wg)) : ∀ (p : Nat), p ≤ st.length → Ev (fun k => rf_Sets.l5 k th (rowsL (st.length + 1) (gR (toSt st) (toWg wg) th p)) ((p : Int) - 1) st wg) (rowsL (st.length + 1) fun q => fuB (toSt st) (toWg wg) th (st.length - q) q)
 | 0, _ => by
  refine Ev.up ?_; simp only [rf_Sets.l5, if_neg (show ¬ (((0 : Nat) : Int) - 1 ≥ 0) by omega)]; rw [rowsL_congr (S := fun q => fuB (toSt st) (toWg wg) th (st.length - q) q) (fun q _ j _ => by simp [gR, toSt_len])]; exact Ev.now _
 | p + 1, hp => by
  have ih := Sets_l5 hok p (by omega); refine Ev.up ?_; rw [show ((p + 1 : Nat) : Int) - 1 = (p : Int) by omega]; simp only [rf_Sets.l5, if_pos (show (p : Int) ≥ 0 by omega)]
  have e : rowsL (st.length + 1) (gR (toSt st) (toWg wg) th (p + 1)) = rowsL (st.length + 1) (atR (gR (toSt st) (toWg wg) th (p + 1)) th (toSt st) p 0) := by
   refine rowsL_congr (fun q _ j _ => ?_)
   unfold atR
   by_cases e1 : q = p
   ·rw [if_pos e1, e1]; simp
   ·rw [if_neg e1]
  rw [e]; refine Sets_l6 st wg th _ (st.length + 1) p rfl (by omega) hok (gR (toSt st) (toWg wg) th (p + 1)) ?_ 401 0 (by omega)
  have e2 : rowsL (st.length + 1) (atR (gR (toSt st) (toWg wg) th (p + 1)) th (toSt st) p 401) = rowsL (st.length + 1) (gR (toSt st) (toWg wg) th p) := by
   refine rowsL_congr (fun q _ j hj => ?_)
   unfold atR
   by_cases e1 : q = p
   ·subst e1
    rw [if_pos rfl]; simp only [if_pos (show j < 401 by omega)]
    unfold bkR gR
    simp only [if_pos (show q < q + 1 by omega), if_neg (show ¬ q + 1 < q + 1 by omega), if_neg (show ¬ q < q by omega), toSt_len]; rw [show st.length - q = (st.length - (q + 1)) + 1 by omega]; rfl
   ·rw [if_neg e1]
    unfold gR
    by_cases e3 : q < p
    ·rw [if_pos e3, if_pos (show q < p + 1 by omega)]
    ·rw [if_neg e3, if_neg (show ¬ q < p + 1 by omega)]
  rw [e2]; exact ih
theorem Sets_f (hok : RdOk (toSt st) (toWg wg)) (hl : wg.length ≤ 1000) (hs : st.length ≤ 500) : Ev (fun k => rf_Sets.f k st wg th) (rowsL (st.length + 1) fun q => fuB (toSt st) (toWg wg) th (st.length - q) q) := by
 unfold rf_Sets.f
 rw [wr (by omega)]; have h5 := Sets_l5 st wg th hok st.length (Nat.le_refl _)
 have e : rowsL (st.length + 1) (gR (toSt st) (toWg wg) th st.length) = rowsL (st.length + 1) (fwB (toSt st) (toWg wg) th) := by
  refine rowsL_congr (fun q hq j _ => ?_)
  unfold gR
  by_cases e1 : q < st.length
  ·rw [if_pos e1]
  ·rw [if_neg e1, toSt_len, show st.length - q = 0 by omega]
   rfl
 rw [e] at h5; exact Sets_l0 st wg th _ hok hl hs h5 (st.length + 1) 0 (by omega)
end
end Go.Proofs.YtemingmeidmjkaaDoor.Q
namespace Go.Proofs.YtemingmeidmjkaaDoor.Q
open Go.RowKit Go.Proofs.YtemingmeidmjkaaDoorW.PrintWords
set_option linter.unusedVariables false
set_option linter.unusedSimpArgs false
theorem trimLo_in {st after : Sp} (h : stB st) (w : Int) : ∀ (n : Nat) (s : Sp), s.hi - s.lo + 1 ≤ n → (inS (trimLo st after n s) w ↔ inS s w ∧ after.lo ≤ hiS st w)
 | 0, s, hn => by
  unfold trimLo inS
  omega
 | n + 1, s, hn => by
  unfold trimLo
  by_cases h1 : s.lo > s.hi
  ·rw [if_pos h1]
   unfold inS
   omega
  ·rw [if_neg h1]
   by_cases h2 : hiS st s.lo < after.lo
   ·rw [if_pos h2, trimLo_in h w n _ (by simp only; omega)]
    unfold inS
    simp only
    constructor
    ·rintro ⟨h3, h4⟩; exact ⟨by omega, h4⟩
    ·rintro ⟨h3, h4⟩
     refine ⟨⟨?_, h3.2⟩, h4⟩
     by_cases e : w = s.lo
     ·rw [e] at h4; omega
     ·omega
   ·rw [if_neg h2]
    constructor
    ·intro h3
     have := hiS_mono h (w := s.lo) (w' := w) h3.1; exact ⟨h3, by omega⟩
    ·exact fun h3 => h3.1
theorem trimHi_in {st after : Sp} (h : stB st) (w : Int) : ∀ (n : Nat) (s : Sp), s.hi - s.lo + 1 ≤ n → (inS (trimHi st after n s) w ↔ inS s w ∧ loS st w ≤ after.hi)
 | 0, s, hn => by
  unfold trimHi inS
  omega
 | n + 1, s, hn => by
  unfold trimHi
  by_cases h1 : s.lo > s.hi
  ·rw [if_pos h1]
   unfold inS
   omega
  ·rw [if_neg h1]
   by_cases h2 : loS st s.hi > after.hi
   ·rw [if_pos h2, trimHi_in h w n _ (by simp only; omega)]
    unfold inS
    simp only
    constructor
    ·rintro ⟨h3, h4⟩; exact ⟨by omega, h4⟩
    ·rintro ⟨h3, h4⟩
     refine ⟨⟨h3.1, ?_⟩, h4⟩
     by_cases e : w = s.hi
     ·rw [e] at h4; omega
     ·omega
   ·rw [if_neg h2]
    constructor
    ·intro h3
     have := loS_mono h (w := w) (w' := s.hi) h3.2; exact ⟨h3, by omega⟩
    ·exact fun h3 => h3.1
theorem ok_len {s : Sp} (h : okS s) : s.hi - s.lo + 1 ≤ ((402 : Nat) : Int) := by
 unfold okS at h
 omega
theorem back_in {st s after : Sp} (h : stB st) (hs : okS s) (w : Int) : inS (backS st s after) w ↔ inS s w ∧ ∃ v, inS after v ∧ loS st w ≤ v ∧ v ≤ hiS st w := by
 unfold backS
 by_cases ha : after.lo > after.hi
 ·rw [if_pos ha]
  constructor
  ·intro h1; unfold inS at h1; omega
  ·rintro ⟨_, v, h1, _⟩; unfold inS at h1; omega
 ·rw [if_neg ha, trimHi_in h w 402 _ (ok_len (trimLo_ok _ _ _ _ hs)), trimLo_in h w 402 _ (ok_len hs)]
  constructor
  ·rintro ⟨⟨h1, h2⟩, h3⟩
   have h0 : 0 ≤ w := by unfold okS inS at *; omega
   exact ⟨h1, (meets st after w h h0).2 ⟨by omega, h2, h3⟩⟩
  ·rintro ⟨h1, h2⟩
   have h0 : 0 ≤ w := by unfold okS inS at *; omega
   obtain ⟨_, h3, h4⟩ := (meets st after w h h0).1 h2; exact ⟨⟨h1, h3⟩, h4⟩
theorem on_in {st s : Sp} (h : stB st) (hs : okS s) (v : Int) : inS (onS st s) v ↔ ∃ w, inS s w ∧ loS st w ≤ v ∧ v ≤ hiS st w := by
 by_cases hn : s.lo > s.hi
 ·constructor
  ·intro h1
   unfold onS at h1
   rw [if_pos hn] at h1
   unfold inS at h1
   omega
  ·rintro ⟨w, h1, _⟩
   unfold inS at h1
   omega
 ·exact onS_mem h s (by unfold okS at hs; omega) v
theorem goL_rd : ∀ (ts l : List Sp), l.length = ts.length + 1 → (∀ i : Nat, i < ts.length → rdS (goL ts l) (i : Int) = backS (rdS ts (i : Int)) (rdS l (i : Int)) (rdS (goL ts l) ((i + 1 : Nat) : Int))) ∧ rdS (goL ts l) (ts.length : Int) = rdS l (ts.length : Int)
 | [], l, h => ⟨fun i hi => by simp at hi, by cases l <;> rfl⟩
 | t :: ts, [], h => by simp at h
 | t :: ts, s :: l, h => by
  have hl : l.length = ts.length + 1 := by simpa using h
  obtain ⟨h1, h2⟩ := goL_rd ts l hl
  have sh : ∀ (x : Sp) (m : List Sp) (j : Nat), rdS (x :: m) ((j + 1 : Nat) : Int) = rdS m (j : Int) := fun x m j => by
   unfold rdS
   rw [Int.toNat_natCast, Int.toNat_natCast, List.getD_cons_succ]
  refine ⟨fun i hi => ?_, ?_⟩
  ·match i with
   | 0 =>
    rw [goL, sh]
    have e : (goL ts l).headD z_Sp = rdS (goL ts l) ((0 : Nat) : Int) := by
     cases goL ts l <;> rfl
    rw [e]; rfl
   | i + 1 =>
    rw [goL, sh, sh, sh, sh]; exact h1 i (by simpa using hi)
  ·rw [goL, List.length_cons, sh, sh]
   exact h2
section
variable {st : List Sp} {wg : List Wg}
theorem stp_hon {p w v : Nat} : stpB st (-1) p w v = true ↔ loS (rdS st p) w ≤ v ∧ (v : Int) ≤ hiS (rdS st p) w := by
 unfold stpB
 rw [if_neg (by omega), inB_one]
theorem fw_come (hok : RdOk st wg) : ∀ (p : Nat), p ≤ st.length → ∀ w : Nat, w ≤ 400 → (fwB st wg (-1) p w = true ↔ inS (comeAt st wg p) (w : Int))
 | 0, _, w, hw => fit_seen wg 0 (w : Int) (by omega)
 | p + 1, hp, v, hv => by
  have ih := fw_come hok p (by omega); have ho := comeAt_ok hok p (by omega); have hst := hok.at (p : Int) (by omega) (by omega); rw [comeAt, inS_and, on_in hst ho, fwB, Bool.and_eq_true, fit_seen wg _ (v : Int) (by omega), List.any_eq_true]
  constructor
  ·rintro ⟨h1, w, hw, h2⟩
   have hw4 := List.mem_range.1 hw; simp only [Bool.and_eq_true, decide_eq_true_eq] at h2; exact ⟨⟨(w : Int), (ih w (by omega)).1 h2.1.2, stp_hon.1 h2.2⟩, h1⟩
  ·rintro ⟨⟨w, h1, h2, h3⟩, h4⟩
   have hb : 0 ≤ w ∧ w ≤ 400 := by unfold okS inS at *; omega
   have h5 := hiS_le hst (w := w) hb.1; obtain ⟨m, rfl⟩ : ∃ m : Nat, w = (m : Int) := ⟨w.toNat, by omega⟩; refine ⟨h4, m, List.mem_range.2 (by omega), ?_⟩; simp only [Bool.and_eq_true, decide_eq_true_eq]; exact ⟨⟨by omega, (ih m (by omega)).2 h1⟩, stp_hon.2 ⟨h2, h3⟩⟩
theorem comeL_rd' (st : List Sp) (wg : List Wg) (j : Nat) (h : j ≤ st.length) : rdS (comeL st wg) (j : Int) = comeAt st wg j := by
 rw [rdS_nat _ _ (by rw [comeL_len]; omega)]
 simp [comeL]
theorem honL_okS (hok : RdOk st wg) (p : Nat) (hp : p ≤ st.length) : okS (rdS (honL st wg) (p : Int)) := by
 rw [rdS_nat _ _ (by rw [honL_len]; omega)]; exact goL_ok st (comeL st wg) (comeL_ok hok) _ (List.getElem_mem _)
theorem fu_hon (hok : RdOk st wg) : ∀ (d p : Nat), p + d = st.length → ∀ w : Nat, w ≤ 400 → (fuB st wg (-1) d p w = true ↔ inS (rdS (honL st wg) (p : Int)) (w : Int))
 | 0, p, hp, w, hw => by
  obtain rfl : p = st.length := by omega
  have h := (goL_rd st (comeL st wg) (comeL_len st wg)).2; rw [honL, h, comeL_rd' st wg _ (Nat.le_refl _)]; exact fw_come hok _ (Nat.le_refl _) w hw
 | d + 1, p, hp, w, hw => by
  have ih := fu_hon hok d (p + 1) (by omega); have h := (goL_rd st (comeL st wg) (comeL_len st wg)).1 p (by omega); have hst := hok.at (p : Int) (by omega) (by omega); have ho := comeAt_ok hok p (by omega); have ho2 := honL_okS hok (p + 1) (by omega); rw [honL, h, comeL_rd' st wg p (by omega), back_in hst ho, fuB, Bool.and_eq_true, fw_come hok p (by omega) w hw, List.any_eq_true]
  constructor
  ·rintro ⟨h1, v, hv, h2⟩
   have hv4 := List.mem_range.1 hv; simp only [Bool.and_eq_true] at h2; exact ⟨h1, (v : Int), (ih v (by omega)).1 h2.1, stp_hon.1 h2.2⟩
  ·rintro ⟨h1, v, h2, h3, h4⟩
   have h5 := hiS_le hst (w := (w : Int)) (by omega)
   have hv0 : 0 ≤ v := by
    have : inS (rdS (honL st wg) ((p + 1 : Nat) : Int)) v := h2
    unfold okS inS at *
    omega
   obtain ⟨m, rfl⟩ : ∃ m : Nat, v = (m : Int) := ⟨v.toNat, by omega⟩; refine ⟨h1, m, List.mem_range.2 (by omega), ?_⟩; rw [Bool.and_eq_true]; exact ⟨(ih m (by omega)).2 h2, stp_hon.2 ⟨h3, h4⟩⟩
theorem hon_is (hok : RdOk st wg) : honB st wg = true ↔ ∃ w : Nat, w ≤ 400 ∧ fuB st wg (-1) st.length 0 w = true := by
 have hn : honB st wg = true ↔ ∀ p : Nat, p ≤ st.length → ¬ (rdS (honL st wg) (p : Int)).lo > (rdS (honL st wg) (p : Int)).hi := by
  unfold honB
  rw [Bool.not_eq_true', List.any_eq_false]
  constructor
  ·intro h p hp
   have h1 := h (rdS (honL st wg) (p : Int)) (by rw [rdS_nat _ _ (by rw [honL_len]; omega)]; exact List.getElem_mem _)
   simpa [noneB] using h1
  ·intro h s hs
   obtain ⟨i, hi, rfl⟩ := List.getElem_of_mem hs; have h1 := h i (by rw [honL_len] at hi; omega); rw [rdS_nat _ _ hi] at h1
   simpa [noneB] using h1
 rw [hn]
 constructor
 ·intro h
  have h0 := h 0 (by omega); have ho := honL_okS hok 0 (by omega)
  generalize hs : rdS (honL st wg) ((0 : Nat) : Int) = s at *
  have hb : 0 ≤ s.lo ∧ s.lo ≤ s.hi ∧ s.hi ≤ 400 := by unfold okS at ho; omega
  refine ⟨s.lo.toNat, by omega, (fu_hon hok st.length 0 (by omega) _ (by omega)).2 ?_⟩; rw [hs]
  unfold inS
  omega
 ·rintro ⟨w, hw, h⟩
  have key : ∀ (d p : Nat), p + d = st.length → (∃ w : Nat, w ≤ 400 ∧ fuB st wg (-1) d p w = true) → ∀ q : Nat, p ≤ q → q ≤ st.length → ¬ (rdS (honL st wg) (q : Int)).lo > (rdS (honL st wg) (q : Int)).hi := by
   intro d
   induction d with
   | zero =>
    rintro p hp ⟨w, hw, h⟩ q h1 h2
    obtain rfl : q = p := by omega
    have := (fu_hon hok 0 q (by omega) w hw).1 h
    unfold inS at this
    omega
   | succ d ih =>
    rintro p hp ⟨w, hw, h⟩ q h1 h2
    by_cases e : q = p
    ·subst e
     have := (fu_hon hok (d + 1) q (by omega) w hw).1 h
     unfold inS at this
     omega
    ·rw [fuB, Bool.and_eq_true, List.any_eq_true] at h
     obtain ⟨_, v, hv, h3⟩ := h; have hv4 := List.mem_range.1 hv; rw [Bool.and_eq_true] at h3; exact ih (p + 1) (by omega) ⟨v, by omega, h3.1⟩ q (by omega) h2
  exact fun p hp => key st.length 0 (by omega) ⟨w, hw, h⟩ p (by omega) hp
end
end Go.Proofs.YtemingmeidmjkaaDoor.Q
namespace Go.Proofs.YtemingmeidmjkaaDoor.Q
open Go.RowKit Go.Proofs.YtemingmeidmjkaaDoorW.PrintWords
set_option linter.unusedVariables false
set_option linter.unusedSimpArgs false
section
variable {st : List Sp} {wg : List Wg} {s : Nat}
theorem stp_ne {p w v : Nat} (h : p ≠ s) : stpB st (s : Int) p w v = true ↔ loS (rdS st p) w ≤ v ∧ (v : Int) ≤ hiS (rdS st p) w := by
 unfold stpB
 rw [if_neg (by omega), inB_one]
theorem stp_at {w v : Nat} : stpB st (s : Int) s w v = true ↔ (v : Int) < hiS (rdS st s) w := by
 unfold stpB
 rw [if_pos rfl, decide_eq_true_eq]
theorem fw_step (hok : RdOk st wg) (p : Nat) (hp : p < st.length) (hps : p ≠ s) (X : Sp) (hX : okS X) (ih : ∀ w : Nat, w ≤ 400 → (fwB st wg s p w = true ↔ inS X (w : Int))) (v : Nat) (hv : v ≤ 400) :
  fwB st wg s (p + 1) v = true ↔ inS (andS (onS (rdS st p) X) (seenS wg ((p + 1 : Nat) : Int))) (v : Int) := by
 have hst := hok.at (p : Int) (by omega) (by omega); rw [inS_and, on_in hst hX, fwB, Bool.and_eq_true, fit_seen wg _ (v : Int) (by omega), List.any_eq_true]
 constructor
 ·rintro ⟨h1, w, hw, h2⟩
  have hw4 := List.mem_range.1 hw; simp only [Bool.and_eq_true, decide_eq_true_eq] at h2; exact ⟨⟨(w : Int), (ih w (by omega)).1 h2.1.2, (stp_ne hps).1 h2.2⟩, h1⟩
 ·rintro ⟨⟨w, h1, h2, h3⟩, h4⟩
  have hb : 0 ≤ w ∧ w ≤ 400 := by unfold okS inS at *; omega
  have h5 := hiS_le hst (w := w) hb.1; obtain ⟨m, rfl⟩ : ∃ m : Nat, w = (m : Int) := ⟨w.toNat, by omega⟩; refine ⟨h4, m, List.mem_range.2 (by omega), ?_⟩; simp only [Bool.and_eq_true, decide_eq_true_eq]; exact ⟨⟨by omega, (ih m (by omega)).2 h1⟩, (stp_ne hps).2 ⟨h2, h3⟩⟩
theorem fw_le (hok : RdOk st wg) (hs : s < st.length) : ∀ (p : Nat), p ≤ s → ∀ w : Nat, w ≤ 400 → (fwB st wg s p w = true ↔ inS (comeAt st wg p) (w : Int))
 | 0, _, w, hw => fit_seen wg 0 (w : Int) (by omega)
 | p + 1, hp, v, hv => fw_step hok p (by omega) (by omega) _ (comeAt_ok hok p (by omega)) (fun w hw => fw_le hok hs p (by omega) w hw) v hv
theorem fw_gt (hok : RdOk st wg) (hs : s < st.length) (hne : ¬ (comeAt st wg s).lo > (comeAt st wg s).hi) : ∀ (p : Nat), s < p → p ≤ st.length → ∀ w : Nat, w ≤ 400 → (fwB st wg s p w = true ↔ inS (thA st wg s p) (w : Int))
 | 0, h, _, _, _ => by omega
 | p + 1, hp, hpn, v, hv => by
  by_cases e : p = s
  ·subst e
   have ih := fw_le hok hs p (Nat.le_refl _); have hst := hok.at (p : Int) (by omega) (by omega); have ho := comeAt_ok hok p (by omega)
   have hb : 0 ≤ (comeAt st wg p).lo ∧ (comeAt st wg p).hi ≤ 400 := by unfold okS at ho; omega
   rw [thA_at, inS_and, fwB, Bool.and_eq_true, fit_seen wg _ (v : Int) (by omega), List.any_eq_true]
   have e1 : (onS (rdS st p) (comeAt st wg p)).hi = hiS (rdS st p) (comeAt st wg p).hi := by
    unfold onS
    rw [if_neg hne]
   rw [e1]
   constructor
   ·rintro ⟨h1, w, hw, h2⟩
    have hw4 := List.mem_range.1 hw; simp only [Bool.and_eq_true, decide_eq_true_eq] at h2; have h3 := (ih w (by omega)).1 h2.1.2; have h4 := stp_at.1 h2.2; have h5 := hiS_mono hst (w := (w : Int)) (w' := (comeAt st wg p).hi) h3.2; refine ⟨?_, h1⟩
    unfold inS
    simp only; omega
   ·rintro ⟨h1, h2⟩
    unfold inS at h1
    simp only at h1; obtain ⟨m, hm⟩ : ∃ m : Nat, (comeAt st wg p).hi = (m : Int) := ⟨(comeAt st wg p).hi.toNat, by omega⟩; have h5 := hiS_le hst (w := (m : Int)) (by omega); rw [hm] at h1 hb hne; refine ⟨h2, m, List.mem_range.2 (by omega), ?_⟩; simp only [Bool.and_eq_true, decide_eq_true_eq]; refine ⟨⟨by omega, (ih m (by omega)).2 ?_⟩, stp_at.2 (by omega)⟩
    unfold inS
    rw [hm]; omega
  ·rw [thA_gt _ _ _ _ (by omega)]
   exact fw_step hok p (by omega) e _ (thA_ok hok s hs p (by omega)) (fun w hw => fw_gt hok hs hne p (by omega) (by omega) w hw) v hv
theorem rd_drop (L : List Sp) (k i : Nat) : rdS (L.drop k) (i : Int) = rdS L ((k + i : Nat) : Int) := by
 unfold rdS
 rw [Int.toNat_natCast, Int.toNat_natCast, List.getD_eq_getElem?_getD, List.getD_eq_getElem?_getD, List.getElem?_drop]
theorem rd_take (L : List Sp) (k i : Nat) (h : i < k) : rdS (L.take k) (i : Int) = rdS L (i : Int) := by
 unfold rdS
 rw [Int.toNat_natCast, List.getD_eq_getElem?_getD, List.getD_eq_getElem?_getD, List.getElem?_take, if_pos h]
theorem rd_left (L M : List Sp) (i : Nat) (h : i < L.length) : rdS (L ++ M) (i : Int) = rdS L (i : Int) := by
 unfold rdS
 rw [Int.toNat_natCast, List.getD_eq_getElem?_getD, List.getD_eq_getElem?_getD, List.getElem?_append_left h]
theorem rd_right (L M : List Sp) (i : Nat) (h : L.length ≤ i) : rdS (L ++ M) (i : Int) = rdS M ((i - L.length : Nat) : Int) := by
 unfold rdS
 rw [Int.toNat_natCast, Int.toNat_natCast, List.getD_eq_getElem?_getD, List.getD_eq_getElem?_getD, List.getElem?_append_right h]
theorem rd_sets (L : List Sp) (k i : Nat) (x : Sp) (h : k < L.length) : rdS (L.set k x) (i : Int) = if i = k then x else rdS L (i : Int) := by
 unfold rdS
 rw [Int.toNat_natCast, List.getD_eq_getElem?_getD, List.getD_eq_getElem?_getD, List.getElem?_set]
 by_cases e : k = i
 ·subst e
  rw [if_pos rfl, if_pos h, if_pos rfl]; rfl
 ·rw [if_neg e, if_neg (fun h => e h.symm)]
theorem th2_rd (hs : s < st.length) (j : Nat) (hj : j ≤ st.length) : rdS (thL2 st wg s) (j : Int) = thA st wg s j := by
 rw [thL2, thM_rd _ _ _ _ _ hj, if_pos hj]
theorem th3_le (hs : s < st.length) (j : Nat) (hj : j ≤ s) : rdS (thL3 st wg s) (j : Int) = comeAt st wg j := by
 have hl := thL2_len st wg s; rw [thL3, gst, rd_left _ _ _ (by rw [List.length_take]; omega), rd_take _ _ _ (by omega), th2_rd hs j (by omega), thA_le _ _ _ _ hj]
theorem th3_gt (hs : s < st.length) (j : Nat) (hj : s < j) (hn : j ≤ st.length) : rdS (thL3 st wg s) (j : Int) = rdS (goL (st.drop (s + 1)) ((thL2 st wg s).drop (s + 1))) ((j - (s + 1) : Nat) : Int) := by
 have hl := thL2_len st wg s; rw [thL3, gst, show (thL2 st wg s).length - (st.length - s) = s + 1 by omega, rd_right _ _ _ (by rw [List.length_take]; omega), List.length_take, show min (s + 1) (thL2 st wg s).length = s + 1 by omega]
theorem th3_last (hs : s < st.length) : rdS (thL3 st wg s) (st.length : Int) = thA st wg s st.length := by
 have hl := thL2_len st wg s; have h := (goL_rd (st.drop (s + 1)) ((thL2 st wg s).drop (s + 1)) (by rw [List.length_drop, List.length_drop]; omega)).2; rw [List.length_drop] at h; rw [th3_gt hs _ hs (Nat.le_refl _), h, rd_drop, show s + 1 + (st.length - (s + 1)) = st.length by omega, th2_rd hs _ (Nat.le_refl _)]
theorem th3_step (hs : s < st.length) (j : Nat) (hj : s < j) (hn : j < st.length) : rdS (thL3 st wg s) (j : Int) = backS (rdS st (j : Int)) (thA st wg s j) (rdS (thL3 st wg s) ((j + 1 : Nat) : Int)) := by
 have hl := thL2_len st wg s; have h := (goL_rd (st.drop (s + 1)) ((thL2 st wg s).drop (s + 1)) (by rw [List.length_drop, List.length_drop]; omega)).1 (j - (s + 1)) (by rw [List.length_drop]; omega); rw [th3_gt hs j hj (by omega), h, rd_drop, rd_drop, show s + 1 + (j - (s + 1)) = j by omega, th2_rd hs _ (by omega), th3_gt hs (j + 1) (by omega) (by omega), show j - (s + 1) + 1 = j + 1 - (s + 1) by omega]
theorem th4_rd (hs : s < st.length) (j : Nat) : rdS (thL4 st wg s) (j : Int) = if j = s then thX (rdS st s) (comeAt st wg s) (rdS (thL3 st wg s) ((s + 1 : Nat) : Int)) else rdS (thL3 st wg s) (j : Int) := by
 rw [thL4, rd_sets _ _ _ _ (by rw [thL3_len]; omega), th3_le hs s (Nat.le_refl _)]
theorem th5_gt (hs : s < st.length) (j : Nat) (hj : s < j) : rdS (thL5 st wg s) (j : Int) = rdS (thL3 st wg s) (j : Int) := by
 have hl := thL4_len st wg s
 have hg : (gst (st.take s) ((thL4 st wg s).take (s + 1)) (s + 1)).length = s + 1 := by rw [gst_len, List.length_take]; omega
 rw [thL5, thG, rd_right _ _ _ (by omega), hg, rd_drop, show s + 1 + (j - (s + 1)) = j by omega, th4_rd hs, if_neg (by omega)]
theorem th5_go (hs : s < st.length) (j : Nat) (hj : j ≤ s) : rdS (thL5 st wg s) (j : Int) = rdS (goL (st.take s) ((thL4 st wg s).take (s + 1))) (j : Int) := by
 have hl := thL4_len st wg s
 have hg : (gst (st.take s) ((thL4 st wg s).take (s + 1)) (s + 1)).length = s + 1 := by rw [gst_len, List.length_take]; omega
 rw [thL5, thG, rd_left _ _ _ (by omega), gst, List.length_take, show min (s + 1) (thL4 st wg s).length - (s + 1) = 0 by omega, List.take_zero, List.drop_zero, List.drop_zero, List.nil_append]
theorem th5_at (hs : s < st.length) : rdS (thL5 st wg s) (s : Int) = thX (rdS st s) (comeAt st wg s) (rdS (thL3 st wg s) ((s + 1 : Nat) : Int)) := by
 have hl := thL4_len st wg s; have h := (goL_rd (st.take s) ((thL4 st wg s).take (s + 1)) (by rw [List.length_take, List.length_take]; omega)).2; rw [List.length_take, show min s st.length = s by omega] at h; rw [th5_go hs s (Nat.le_refl _), h, rd_take _ _ _ (by omega), th4_rd hs, if_pos rfl]
theorem th5_lt (hs : s < st.length) (j : Nat) (hj : j < s) : rdS (thL5 st wg s) (j : Int) = backS (rdS st (j : Int)) (comeAt st wg j) (rdS (thL5 st wg s) ((j + 1 : Nat) : Int)) := by
 have hl := thL4_len st wg s; have h := (goL_rd (st.take s) ((thL4 st wg s).take (s + 1)) (by rw [List.length_take, List.length_take]; omega)).1 j (by rw [List.length_take]; omega); rw [th5_go hs j (by omega), h, rd_take _ _ _ hj, rd_take _ _ _ (by omega), th4_rd hs, if_neg (by omega), th3_le hs j (by omega), th5_go hs (j + 1) (by omega)]
theorem rd5_ok (hok : RdOk st wg) (hs : s < st.length) (j : Nat) : okS (rdS (thL5 st wg s) (j : Int)) := rd_ok (thL5_ok hok s hs) j
theorem rd3_ok (hok : RdOk st wg) (hs : s < st.length) (j : Nat) : okS (rdS (thL3 st wg s) (j : Int)) := rd_ok (thL3_ok hok s hs) j
theorem fu_step (hok : RdOk st wg) (d p : Nat) (hp : p + (d + 1) = st.length) (hps : p ≠ s) (X Y : Sp) (hX : okS X) (hY : okS Y) (hf : ∀ w : Nat, w ≤ 400 → (fwB st wg s p w = true ↔ inS X (w : Int)))
  (ih : ∀ w : Nat, w ≤ 400 → (fuB st wg s d (p + 1) w = true ↔ inS Y (w : Int))) (w : Nat) (hw : w ≤ 400) : fuB st wg s (d + 1) p w = true ↔ inS (backS (rdS st (p : Int)) X Y) (w : Int) := by
 have hst := hok.at (p : Int) (by omega) (by omega); rw [back_in hst hX, fuB, Bool.and_eq_true, hf w hw, List.any_eq_true]
 constructor
 ·rintro ⟨h1, v, hv, h2⟩
  have hv4 := List.mem_range.1 hv; simp only [Bool.and_eq_true] at h2; exact ⟨h1, (v : Int), (ih v (by omega)).1 h2.1, (stp_ne hps).1 h2.2⟩
 ·rintro ⟨h1, v, h2, h3, h4⟩
  have h5 := hiS_le hst (w := (w : Int)) (by omega)
  have hv0 : 0 ≤ v := by unfold okS inS at *; omega
  obtain ⟨m, rfl⟩ : ∃ m : Nat, v = (m : Int) := ⟨v.toNat, by omega⟩; refine ⟨h1, m, List.mem_range.2 (by omega), ?_⟩; rw [Bool.and_eq_true]; exact ⟨(ih m (by omega)).2 h2, (stp_ne hps).2 ⟨h3, h4⟩⟩
theorem fu_gt (hok : RdOk st wg) (hs : s < st.length) (hne : ¬ (comeAt st wg s).lo > (comeAt st wg s).hi) : ∀ (d p : Nat), p + d = st.length → s < p → ∀ w : Nat, w ≤ 400 → (fuB st wg s d p w = true ↔ inS (rdS (thL3 st wg s) (p : Int)) (w : Int))
 | 0, p, hp, hsp, w, hw => by
  obtain rfl : p = st.length := by omega
  rw [th3_last hs]; exact fw_gt hok hs hne _ hs (Nat.le_refl _) w hw
 | d + 1, p, hp, hsp, w, hw => by
  rw [th3_step hs p hsp (by omega)]; exact fu_step hok d p hp (by omega) _ _ (thA_ok hok s hs p (by omega)) (rd3_ok hok hs (p + 1)) (fun v hv => fw_gt hok hs hne p hsp (by omega) v hv) (fun v hv => fu_gt hok hs hne d (p + 1) (by omega) (by omega) v hv) w hw
theorem fu_at (hok : RdOk st wg) (hs : s < st.length) (hne : ¬ (comeAt st wg s).lo > (comeAt st wg s).hi) (hne2 : ¬ (rdS (thL3 st wg s) ((s + 1 : Nat) : Int)).lo > (rdS (thL3 st wg s) ((s + 1 : Nat) : Int)).hi) (d : Nat) (hd : s + (d + 1) = st.length) (w : Nat) (hw : w ≤ 400) :
  fuB st wg s (d + 1) s w = true ↔ inS (rdS (thL5 st wg s) (s : Int)) (w : Int) := by
 have hst := hok.at (s : Int) (by omega) (by omega); have ih := fu_gt hok hs hne d (s + 1) (by omega) (by omega); have hY := rd3_ok hok hs (s + 1); have hX := comeAt_ok hok s (by omega)
 generalize hy : rdS (thL3 st wg s) ((s + 1 : Nat) : Int) = Y at *
 rw [th5_at hs, hy, thX, trimLo_in hst _ 402 _ (ok_len hX), fuB, Bool.and_eq_true, fw_le hok hs s (Nat.le_refl _) w hw, List.any_eq_true]
 have hb : 0 ≤ Y.lo ∧ Y.hi ≤ 400 := by unfold okS at hY; omega
 have h5 := hiS_le hst (w := (w : Int)) (by omega)
 constructor
 ·rintro ⟨h1, v, hv, h2⟩
  have hv4 := List.mem_range.1 hv; simp only [Bool.and_eq_true] at h2; have h3 := (ih v (by omega)).1 h2.1; have h4 := stp_at.1 h2.2; refine ⟨h1, ?_⟩
  unfold inS at h3
  simp only; omega
 ·rintro ⟨h1, h2⟩
  simp only at h2; obtain ⟨m, hm⟩ : ∃ m : Nat, Y.lo = (m : Int) := ⟨Y.lo.toNat, by omega⟩; refine ⟨h1, m, List.mem_range.2 (by omega), ?_⟩; rw [Bool.and_eq_true]; refine ⟨(ih m (by omega)).2 ?_, stp_at.2 (by omega)⟩
  unfold inS
  omega
theorem fu_le (hok : RdOk st wg) (hs : s < st.length) (hne : ¬ (comeAt st wg s).lo > (comeAt st wg s).hi) (hne2 : ¬ (rdS (thL3 st wg s) ((s + 1 : Nat) : Int)).lo > (rdS (thL3 st wg s) ((s + 1 : Nat) : Int)).hi) : ∀ (k p d : Nat), p + k = s → p + d = st.length → ∀ w : Nat, w ≤ 400 → (fuB st wg s d p w = true ↔ inS (rdS (thL5 st wg s) (p : Int)) (w : Int))
 | 0, p, d, hk, hd, w, hw => by
  obtain rfl : p = s := by omega
  obtain ⟨d, rfl⟩ : ∃ e, d = e + 1 := ⟨d - 1, by omega⟩; exact fu_at hok hs hne hne2 d hd w hw
 | k + 1, p, d, hk, hd, w, hw => by
  obtain ⟨d, rfl⟩ : ∃ e, d = e + 1 := ⟨d - 1, by omega⟩; rw [th5_lt hs p (by omega)]; exact fu_step hok d p hd (by omega) _ _ (comeAt_ok hok p (by omega)) (rd5_ok hok hs (p + 1)) (fun v hv => fw_le hok hs p (by omega) v hv) (fun v hv => fu_le hok hs hne hne2 k (p + 1) d (by omega) (by omega) v hv) w hw
theorem any_none {L : List Sp} {n : Nat} (hl : L.length = n + 1) : L.any noneB = false ↔ ∀ p : Nat, p ≤ n → ¬ (rdS L (p : Int)).lo > (rdS L (p : Int)).hi := by
 rw [List.any_eq_false]
 constructor
 ·intro h p hp
  have h1 := h (rdS L (p : Int)) (by rw [rdS_nat _ _ (by omega)]; exact List.getElem_mem _)
  simpa [noneB] using h1
 ·intro h x hx
  obtain ⟨i, hi, rfl⟩ := List.getElem_of_mem hx; have h1 := h i (by omega); rw [rdS_nat _ _ hi] at h1
  simpa [noneB] using h1
theorem fu_fw (d : Nat) : ∀ (p w : Nat), fuB st wg s d p w = true → fwB st wg s p w = true := by
 intro p w h
 cases d with
 | zero => exact h
 | succ d => rw [fuB, Bool.and_eq_true] at h; exact h.1
theorem fu_chain : ∀ (d p w : Nat), w ≤ 400 → fuB st wg s d p w = true → ∀ q : Nat, p ≤ q → q ≤ p + d → ∃ v : Nat, v ≤ 400 ∧ fuB st wg s (p + d - q) q v = true
 | 0, p, w, hw, h, q, h1, h2 => by
  obtain rfl : q = p := by omega
  exact ⟨w, hw, by rw [show q + 0 - q = 0 by omega]; exact h⟩
 | d + 1, p, w, hw, h, q, h1, h2 => by
  by_cases e : q = p
  ·subst e
   exact ⟨w, hw, by rw [show q + (d + 1) - q = d + 1 by omega]; exact h⟩
  ·rw [fuB, Bool.and_eq_true, List.any_eq_true] at h
   obtain ⟨_, v, hv, h3⟩ := h; have hv4 := List.mem_range.1 hv; rw [Bool.and_eq_true] at h3; have := fu_chain d (p + 1) v (by omega) h3.1 q (by omega) (by omega); rw [show p + (d + 1) - q = p + 1 + d - q by omega]; exact this
theorem th_ok (hs : s < st.length) : thOk st wg s = true ↔ (∀ p : Nat, p ≤ st.length → ¬ (rdS (thL3 st wg s) (p : Int)).lo > (rdS (thL3 st wg s) (p : Int)).hi) ∧ ∀ p : Nat, p ≤ st.length → ¬ (rdS (thL5 st wg s) (p : Int)).lo > (rdS (thL5 st wg s) (p : Int)).hi := by
 rw [← any_none (thL3_len st wg s), ← any_none (thL5_len st wg s), thOk]
 simp
theorem th_in (hok : RdOk st wg) (hs : s < st.length) (h : thOk st wg s = true) (q : Nat) (hq : q ≤ st.length) (w : Nat) (hw : w ≤ 400) : fuB st wg s (st.length - q) q w = true ↔ inS (rdS (thL5 st wg s) (q : Int)) (w : Int) := by
 obtain ⟨h3, h5⟩ := (th_ok hs).1 h; have hne := h3 s (by omega); rw [th3_le hs s (Nat.le_refl _)] at hne
 by_cases e : s < q
 ·rw [th5_gt hs q e]
  exact fu_gt hok hs hne _ q (by omega) e w hw
 ·exact fu_le hok hs hne (h3 (s + 1) (by omega)) (s - q) q _ (by omega) (by omega) w hw
theorem th_is (hok : RdOk st wg) (hs : s < st.length) : thOk st wg s = true ↔ ∃ w : Nat, w ≤ 400 ∧ fuB st wg s st.length 0 w = true := by
 constructor
 ·intro h
  have h0 := ((th_ok hs).1 h).2 0 (by omega); have ho := rd5_ok hok hs 0; have hi := th_in hok hs h 0 (by omega); rw [Nat.sub_zero] at hi
  generalize rdS (thL5 st wg s) ((0 : Nat) : Int) = x at *
  have hb : 0 ≤ x.lo ∧ x.lo ≤ x.hi ∧ x.hi ≤ 400 := by unfold okS at ho; omega
  refine ⟨x.lo.toNat, by omega, (hi _ (by omega)).2 ?_⟩
  unfold inS
  omega
 ·rintro ⟨w, hw, h⟩
  have hc := fu_chain st.length 0 w hw h
  have hcome : ∀ q : Nat, q ≤ s → ¬ (comeAt st wg q).lo > (comeAt st wg q).hi := by
   intro q hq; obtain ⟨v, hv, h1⟩ := hc q (by omega) (by omega); have := (fw_le hok hs q hq v hv).1 (fu_fw _ _ _ h1)
   unfold inS at this
   omega
  have hne := hcome s (Nat.le_refl _)
  have h3 : ∀ p : Nat, p ≤ st.length → ¬ (rdS (thL3 st wg s) (p : Int)).lo > (rdS (thL3 st wg s) (p : Int)).hi := by
   intro p hp
   by_cases e : s < p
   ·obtain ⟨v, hv, h1⟩ := hc p (by omega) (by omega)
    have := (fu_gt hok hs hne _ p (by omega) e v hv).1 h1
    unfold inS at this
    omega
   ·rw [th3_le hs p (by omega)]
    exact hcome p (by omega)
  refine (th_ok hs).2 ⟨h3, fun p hp => ?_⟩
  by_cases e : s < p
  ·rw [th5_gt hs p e]
   exact h3 p hp
  ·obtain ⟨v, hv, h1⟩ := hc p (by omega) (by omega)
   have := (fu_le hok hs hne (h3 (s + 1) (by omega)) (s - p) p _ (by omega) (by omega) v hv).1 h1
   unfold inS at this
   omega
end
end Go.Proofs.YtemingmeidmjkaaDoor.Q
namespace Go.Proofs.YtemingmeidmjkaaDoor.Q
open Go.RowKit Go.Proofs.YtemingmeidmjkaaDoorW.PrintWords Go.Proofs.YtemingmeidmjkaaDoorW.PrintLast Go.Proofs.YtemingmeidmjkaaDoorW.PrintMore
attribute [local go_sem] max2_int min2_int max_two min_two max_three min_three max_four min_four   -- for this text's walks alone
set_option linter.unusedVariables false
set_option linter.unusedSimpArgs false
end Go.Proofs.YtemingmeidmjkaaDoor.Q
namespace Go.Proofs.YtemingmeidmjkaaDoor.Q
open Go.RowKit Go.Proofs.YtemingmeidmjkaaDoorW.PrintWords Go.Proofs.YtemingmeidmjkaaDoorW.PrintLast Go.Proofs.YtemingmeidmjkaaDoorW.PrintMore
attribute [local go_sem] max2_int min2_int max_two min_two max_three min_three max_four min_four   -- for this text's walks alone
set_option linter.unusedVariables false
set_option linter.unusedSimpArgs false
def wool_Check.f (l0_0 : List (S41)) (l0_1 : List (S80)) : Option (Int) := some (roadE (toSt l0_0) (toWg l0_1))
theorem wool_Check.calls (A0_0 : Option Addr) (c0_0 : Nat) (l0_0 : List (S41)) (A0_1 : Option Addr) (c0_1 : Nat) (l0_1 : List (S80)) (r : Int) (w : World) (hr0_0 : Kd.C k41 w A0_0 l0_0.length l0_0) (hc0_0 : l0_0.length ≤ c0_0) (hr0_1 : Kd.C k80 w A0_1 l0_1.length l0_1) (hc0_1 : l0_1.length ≤ c0_1) (h : wool_Check.f l0_0 l0_1 = some r) :
  Calls Tryd.prog 19 #[.agg #[.slice A0_0 l0_0.length c0_0, .slice A0_1 l0_1.length c0_1]] w fun e w' => e = .returned (.int .i64 r) ∧ Below w.heap.size w w' := by
 simp only [wool_Check.f, Option.some.injEq, Prod.mk.injEq] at h; obtain rfl := h; have H := check_ A0_0 c0_0 (toSt l0_0) A0_1 c0_1 (toWg l0_1) w (toSt_C hr0_0) (toSt_c hc0_0) (toWg_C hr0_1) (toWg_c hc0_1); rw [toSt_len, toWg_len] at H; exact H
end Go.Proofs.YtemingmeidmjkaaDoor.Q
namespace Go.Proofs.YtemingmeidmjkaaDoor.Q
open Go.RowKit Go.Proofs.YtemingmeidmjkaaDoorW.PrintWords Go.Proofs.YtemingmeidmjkaaDoorW.PrintLast Go.Proofs.YtemingmeidmjkaaDoorW.PrintMore
attribute [local go_sem] max2_int min2_int max_two min_two max_three min_three max_four min_four   -- for this text's walks alone
set_option linter.unusedVariables false
set_option linter.unusedSimpArgs false
def wool_Weights.f (l0_0 : List (S41)) (l0_1 : List (S80)) : Option ((List (S41)) × Int) := some (ofSp (ohL (toSt l0_0) (toWg l0_1)), ohE (toSt l0_0) (toWg l0_1))
theorem wool_Weights.calls (A0_0 : Option Addr) (c0_0 : Nat) (l0_0 : List (S41)) (A0_1 : Option Addr) (c0_1 : Nat) (l0_1 : List (S80)) (r1 : List (S41)) (r2 : Int) (w : World) (hG : GL w) (hr0_0 : Kd.C k41 w A0_0 l0_0.length l0_0) (hc0_0 : l0_0.length ≤ c0_0) (hr0_1 : Kd.C k80 w A0_1 l0_1.length l0_1) (hc0_1 : l0_1.length ≤ c0_1) (h : wool_Weights.f l0_0 l0_1 = some (r1, r2)) :
  Calls Tryd.prog 20 #[.agg #[.slice A0_0 l0_0.length c0_0, .slice A0_1 l0_1.length c0_1]] w fun e w' => ∃ v0_ : Value, e = .returned (.tuple #[v0_, .int .i64 r2]) ∧ Kd.R k41 41 w' w.heap.size (fun _ => True) v0_ r1 ∧ Below w.heap.size w w' := by
 simp only [wool_Weights.f, Option.some.injEq, Prod.mk.injEq] at h; obtain ⟨rfl, rfl⟩ := h; have H := weights_ A0_0 c0_0 (toSt l0_0) A0_1 c0_1 (toWg l0_1) w hG (toSt_C hr0_0) (toSt_c hc0_0) (toWg_C hr0_1) (toWg_c hc0_1); rw [toSt_len, toWg_len] at H; refine H.mono ?_; rintro e w' ⟨v, he, h1, h2⟩; exact ⟨v, he, ofSp_R h1, h2⟩
def wool_Flocks.f (l0_0 : List (S41)) (l0_1 : List (S80)) : Option ((List (S41)) × Int) := some (ofSp (flocksL (toSt l0_0) (toWg l0_1)), ohE (toSt l0_0) (toWg l0_1))
theorem wool_Flocks.calls (A0_0 : Option Addr) (c0_0 : Nat) (l0_0 : List (S41)) (A0_1 : Option Addr) (c0_1 : Nat) (l0_1 : List (S80)) (r1 : List (S41)) (r2 : Int) (w : World) (hG : GL w) (hr0_0 : Kd.C k41 w A0_0 l0_0.length l0_0) (hc0_0 : l0_0.length ≤ c0_0) (hr0_1 : Kd.C k80 w A0_1 l0_1.length l0_1) (hc0_1 : l0_1.length ≤ c0_1) (h : wool_Flocks.f l0_0 l0_1 = some (r1, r2)) :
  Calls Tryd.prog 21 #[.agg #[.slice A0_0 l0_0.length c0_0, .slice A0_1 l0_1.length c0_1]] w fun e w' => ∃ v0_ : Value, e = .returned (.tuple #[v0_, .int .i64 r2]) ∧ Kd.R k41 41 w' w.heap.size (fun _ => True) v0_ r1 ∧ Below w.heap.size w w' := by
 simp only [wool_Flocks.f, Option.some.injEq, Prod.mk.injEq] at h; obtain ⟨rfl, rfl⟩ := h; have H := flocks_ A0_0 c0_0 (toSt l0_0) A0_1 c0_1 (toWg l0_1) w hG (toSt_C hr0_0) (toSt_c hc0_0) (toWg_C hr0_1) (toWg_c hc0_1); rw [toSt_len, toWg_len] at H; refine H.mono ?_; rintro e w' ⟨v, he, h1, h2⟩; exact ⟨v, he, ofSp_R h1, h2⟩
end Go.Proofs.YtemingmeidmjkaaDoor.Q
namespace Go.Proofs.YtemingmeidmjkaaDoor.Q
open Go.RowKit Go.Proofs.YtemingmeidmjkaaDoorW.PrintWords Go.Proofs.YtemingmeidmjkaaDoorW.PrintLast Go.Proofs.YtemingmeidmjkaaDoorW.PrintMore
attribute [local go_sem] max2_int min2_int max_two min_two max_three min_three max_four min_four   -- for this text's walks alone
set_option linter.unusedVariables false
set_option linter.unusedSimpArgs false
end Go.Proofs.YtemingmeidmjkaaDoor.Q
