/- Functions printed by the kit's printer over these walks, and the plain law. No condition. -/
import Derived.Test.YtemingmeidmjkaaDoorV0
import Derived.Test.YtemingmeidmjkaaDoorGWoolLooks0
import Derived.Test.YtemingmeidmjkaaDoorV1
import Derived.Test.YtemingmeidmjkaaDoorV2
import Derived.Test.YtemingmeidmjkaaDoorV3
import Derived.WalkKit
import Derived.ProofKit
import Derived.OpenShut
import Derived.ShutString
import Derived.ChangeOld
import Derived.Below
import Derived.SizedLaws
import Derived.ChangeArms
import Derived.WideShapes
import Derived.Carry
import Derived.Test.YtemingmeidmjkaaDoorRows
import Derived.LaidLaws
import Derived.LaidHandle
import Derived.Handed
import Derived.ChangeSame
set_option linter.unusedVariables false
set_option linter.unusedSimpArgs false
namespace Go.Proofs.YtemingmeidmjkaaDoor.Q
open Go.RowKit Go.Proofs.YtemingmeidmjkaaDoorW.PrintWords Go.Proofs.YtemingmeidmjkaaDoorW.PrintLast Go.Proofs.YtemingmeidmjkaaDoorW.PrintMore
attribute [local go_sem] max2_int min2_int max_two min_two max_three min_three max_four min_four   -- for this text's walks alone
set_option linter.unusedVariables false
set_option linter.unusedSimpArgs false
def rf_Where.l0 : Nat → List Int → Int → List (S41) → List (S80) → Option (List Int)
 | 0, _, _, _, _ => none
 | k + 1, x3, x4, x360000, x360001 => if x4 < (x360000.length : Int) then ((rf_Sets.f k x360000 x360001 x4).bind fun t363 => ((rf_Is.f k t363).bind fun t366 => (if t366 = true then (if x3.length < 17592186044416 then (rf_Where.l0 k (x3 ++ [x4]) (wrap64 (x4 + 1)) x360000 x360001) else (none)) else (rf_Where.l0 k x3 (wrap64 (x4 + 1)) x360000 x360001)))) else (some x3)
def rf_Where.f (k : Nat) (l0_0 : List (S41)) (l0_1 : List (S80)) : Option (List Int) := rf_Where.l0 k (([] : List Int)) 0 l0_0 l0_1
set_option maxHeartbeats 8000000 in
set_option maxRecDepth 100000 in
theorem rf_Where.calls (k : Nat) (A0_0 : Option Addr) (c0_0 : Nat) (l0_0 : List (S41)) (A0_1 : Option Addr) (c0_1 : Nat) (l0_1 : List (S80)) (r : List Int) (w : World) (hr0_0 : Kd.C k41 w A0_0 l0_0.length l0_0) (hc0_0 : l0_0.length ≤ c0_0) (hr0_1 : Kd.C k80 w A0_1 l0_1.length l0_1) (hc0_1 : l0_1.length ≤ c0_1) (h : rf_Where.f k l0_0 l0_1 = some r) :
  Calls Tryd.prog 73 #[.agg #[.slice A0_0 l0_0.length c0_0, .slice A0_1 l0_1.length c0_1]] w fun e w' => ∃ v0_ : Value, e = .returned (v0_) ∧ Kd.R (Kd.int .i64) 3 w' w.heap.size (fun _ => True) v0_ r ∧ Below w.heap.size w w' := by
 have hu25 := Tryd.underlying25; have HR0_0 := Aside0.mk hr0_0; have HC0_0 := Aside0.mk hc0_0; clear hr0_0 hc0_0; have HR0_1 := Aside0.mk hr0_1; have HC0_1 := Aside0.mk hc0_1; clear hr0_1 hc0_1; have HB := Aside0.mk (Below.refl w.heap.size w); have H : (rf_Where.l0 k (([] : List Int)) 0 l0_0 l0_1) = some r := h; clear h; replace H : ∃ y_ : List Int, y_ = (([] : List Int)) ∧ (rf_Where.l0 k y_ 0 l0_0 l0_1) = some r := ⟨_, rfl, sqJ H⟩; obtain ⟨y360, hy360, H⟩ := H; have Ny360 := Aside0.mk hy360; clear hy360; have H' := Aside0.mk H; clear H; go_enter Tryd.func73, Tryd.ntmps73
 go_wp2_with (first | ((with_reducible refine gate_dst (N := 1) rfl ?_); refine box_event ?hg (N := 1) ?hd (cs := #[.slice A0_0 l0_0.length c0_0, .slice A0_1 l0_1.length c0_1]) (t := 25) ?hr ?_; (case hd => rfl); (case hg => rfl); (case hr => first | (go_simp; done) | (go_simp; rfl)); intro gb359 hg w2 hbox hb; have BK359 := Aside0.mk (hbox); have GW359 := Aside0.mk (sqZ hg HB); have GE359 := Aside0.mk (sqZ hg HB); replace HB := sqb hb HB; clear hb hbox hg) | ((with_reducible refine gate_dst (N := 5) rfl ?_); refine Kd.R_lit (Kd.int .i64) _ 3 ?hg (N := 5) ?hd (xs := ([] : List Int)) (inner := []) (ok := fun _ => True) (okp := fun _ => True) ?hr ?hp (fun _ hk => hk) trivial (Below.refl _ _) (Nat.le_refl _) (by simp) ?_; (case hd => rfl); (case hg => rfl); (case hr => first | (go_simp; done) | (go_simp; rfl)); (case hp => exact (Reps.none _ _)); intro v361 w3 ho4 hb hg_ hnew_; clear hg_ hnew_; (first | rw [← Ny360.out] at ho4 | (simp only [Int.reduceToNat] at ho4; rw [← Ny360.out] at ho4)); have HO362 := Aside0.mk (Kd.R_lower ho4 (below_size (sqB HB))); replace BK359 := sqk BK359 hb; replace HB := sqb hb HB; clear hb ho4))
 go_loopg [3, 4] k (fun kq v3 v4 w' => ∃ (x3_1 : List Int) (x4_1 : Int), v4 = .int .i64 x4_1 ∧ Aside0 (rf_Where.l0 kq x3_1 x4_1 l0_0 l0_1 = some r) ∧ Aside0 (kq ≤ k) ∧ Aside0 (Kd.R (Kd.int .i64) 3 w' w.heap.size (fun _ => True) v3 x3_1) ∧ Aside0 (w'.heap[gb359]? = some (.cells #[(.slice A0_0 l0_0.length c0_0), (.slice A0_1 l0_1.length c0_1)] 25 (0, 0))) ∧ Aside0 (Below w.heap.size w w'))
 case atStart => exact ⟨(y360), (0), sqE, H', ⟨Nat.le_refl _⟩, ⟨sqR HO362⟩, ⟨sqK BK359⟩, ⟨sqB HB⟩⟩
 case round =>
  clear H'; obtain ⟨x3_1, x4_1, rfl, HA, HK1, HO_3, BK359, HB⟩ := hrel
  cases gk with
  | zero => exact absurd HA.out (by simp [rf_Where.l0])
  | succ k1 =>
   have H := HA.out; clear HA; simp only [rf_Where.l0] at H
   by_cases c5 : x4_1 < (l0_0.length : Int)
   ·rw [if_pos c5] at H
    have c5b0 : decide (x4_1 < (l0_0.length : Int)) = true := decide_eq_true c5; clear c5; obtain ⟨t363, A60, H⟩ := Option.bind_eq_some_iff.mp H; have A6 := Aside0.mk A60; clear A60; obtain ⟨t366, A70, H⟩ := Option.bind_eq_some_iff.mp H; have A7 := Aside0.mk A70; clear A70
    by_cases c8 : t366 = true
    ·subst c8
     rw [if_pos rfl] at H
     by_cases c9 : x3_1.length < 17592186044416
     ·rw [if_pos c9] at H
      have LMc9 := Aside0.mk c9; clear c9; replace H : ∃ y_ : List Int, y_ = (x3_1 ++ [x4_1]) ∧ (rf_Where.l0 k1 y_ (wrap64 (x4_1 + 1)) l0_0 l0_1) = some r := ⟨_, rfl, sqJ H⟩; obtain ⟨y367, hy367, H⟩ := H; have Ny367 := Aside0.mk hy367; clear hy367; have H' := Aside0.mk H; clear H; have hcz10_0 := sqc0 BK359; have hcz10_1 := sqc1 BK359; have hfz10_0 := blk_frozen BK359.out 0; have hfz10_1 := blk_frozen BK359.out 1
      go_wp2_with (first | ((with_reducible refine gate_callee (f := 24) rfl ?_); refine goesL_ (some 15) rfl rfl Tryd.func24 sqF rfl #[.agg #[.slice A0_0 l0_0.length c0_0, .slice A0_1 l0_1.length c0_1], .int .i64 x4_1] rfl sqM ?_; (with_reducible refine (rf_Sets.calls k1 _ _ l0_0 _ _ l0_1 x4_1 t363 _ ?side1 ?side2 ?side3 ?side4 A6.out).mono ?_); (case side1 => exact sqQ HR0_0 HB); (case side2 => exact HC0_0.out); (case side3 => exact sqQ HR0_1 HB); (case side4 => exact HC0_1.out); rintro e w11 ⟨v364, rfl, ho0, hb⟩; refine ⟨_, rfl, ?_⟩; replace HO_3 := Aside0.mk (Kd.R_below (sqR HO_3) hb); have HO365 := Aside0.mk (Kd.S_lower ho0 (below_size (sqB HB))); replace BK359 := sqk BK359 hb; replace HB := sqb hb HB; (try clear hb); (try clear hb2); (try clear hk); (try clear hi); (try clear ho0); obtain ⟨Ao12, co12, eo12⟩ := Kd.S_slice HO365.out; subst eo12) | ((with_reducible refine gate_callee (f := 25) rfl ?_); refine goesL_ (some 16) rfl rfl Tryd.func25 sqF rfl #[.slice Ao12 t363.length co12] rfl sqM ?_; (with_reducible refine (rf_Is.calls k1 _ _ t363 true _ ?side1 ?side2 A7.out).mono ?_); (case side1 => repeat (first | exact (Kd.S_reads' HO365.out).2.2 | (with_reducible refine Kd.C_alloc ?_ _) | (with_reducible refine Kd.C_drewN ?_ _) | (with_reducible refine Kd.C_drew ?_))); (case side2 => exact (Kd.S_reads' HO365.out).2.1); rintro e w13 ⟨rfl, hb⟩; refine ⟨_, rfl, ?_⟩; replace HO_3 := Aside0.mk (Kd.R_below (sqR HO_3) hb); replace HO365 := Aside0.mk (Kd.S_below (sqS HO365) hb); replace BK359 := sqk BK359 hb; replace HB := sqb hb HB; (try clear hb); (try clear hb2); (try clear hk); (try clear hi)) | ((with_reducible refine gate_builtin (b := .append) (xs := #[.tmp 17, .tmp 19]) rfl ?_); at_builtin; refine Kd.R_append (Kd.int .i64) (w0 := w) w.heap.size rfl (.tmp 17) (.tmp 19) 45 3 (.int .i64 0) 8 rfl Tryd.underlying45 info3 rfl (by decide) (by omega) u3 x3_1 x4_1 [.int .i64 x4_1] (fun _ => True) (fun _ => False) rfl rfl ?aP (fun _ hk => hk.elim) ?aF ?aO ?aB ?aS ?aL ?_; (case aP => exact rfl); (case aB => exact (sqB HB)); (case aF => exact (fun _ _ => trivial)); (case aO => exact (sqR HO_3)); (case aS => exact (below_size (sqB HB))); (case aL => have := LMc9.out; omega); intro v368 w14 ho hb hg hat; rw [← Ny367.out] at ho; replace BK359 := Aside0.mk (blk_grown (g := gb359) (o := .cells #[.slice A0_0 l0_0.length c0_0, .slice A0_1 l0_1.length c0_1] 25 (0, 0)) (sqK BK359) hg (Kd.R_ne HO_3.out BK359.out (by decide))); replace HO365 := Aside0.mk (Kd.S_over' (sqS HO365) (Kd.R_typed (sqR HO_3)) (by decide) hg); replace HB := Aside0.mk (hb); have HO369 := Aside0.mk (ho); clear HO_3; clear ho hb hg hat))
      go_roundg k1
      case measure => have := HK1.out; omega
      case rel => exact ⟨(y367), (wrap64 (x4_1 + 1)), sqE, H', ⟨by have := HK1.out; omega⟩, ⟨sqR HO369⟩, ⟨sqK BK359⟩, ⟨sqB HB⟩⟩
     ·rw [if_neg c9] at H
      exact absurd H (by simp)
    ·replace c8 := Bool.eq_false_iff.mpr c8
     subst c8; rw [if_neg Bool.false_ne_true] at H; have H' := Aside0.mk H; clear H; have hcz15_0 := sqc0 BK359; have hcz15_1 := sqc1 BK359; have hfz15_0 := blk_frozen BK359.out 0; have hfz15_1 := blk_frozen BK359.out 1
     go_wp2_with (first | ((with_reducible refine gate_callee (f := 24) rfl ?_); refine goesL_ (some 15) rfl rfl Tryd.func24 sqF rfl #[.agg #[.slice A0_0 l0_0.length c0_0, .slice A0_1 l0_1.length c0_1], .int .i64 x4_1] rfl sqM ?_; (with_reducible refine (rf_Sets.calls k1 _ _ l0_0 _ _ l0_1 x4_1 t363 _ ?side1 ?side2 ?side3 ?side4 A6.out).mono ?_); (case side1 => exact sqQ HR0_0 HB); (case side2 => exact HC0_0.out); (case side3 => exact sqQ HR0_1 HB); (case side4 => exact HC0_1.out); rintro e w16 ⟨v364, rfl, ho0, hb⟩; refine ⟨_, rfl, ?_⟩; replace HO_3 := Aside0.mk (Kd.R_below (sqR HO_3) hb); have HO365 := Aside0.mk (Kd.S_lower ho0 (below_size (sqB HB))); replace BK359 := sqk BK359 hb; replace HB := sqb hb HB; (try clear hb); (try clear hb2); (try clear hk); (try clear hi); (try clear ho0); obtain ⟨Ao17, co17, eo17⟩ := Kd.S_slice HO365.out; subst eo17) | ((with_reducible refine gate_callee (f := 25) rfl ?_); refine goesL_ (some 16) rfl rfl Tryd.func25 sqF rfl #[.slice Ao17 t363.length co17] rfl sqM ?_; (with_reducible refine (rf_Is.calls k1 _ _ t363 false _ ?side1 ?side2 A7.out).mono ?_); (case side1 => repeat (first | exact (Kd.S_reads' HO365.out).2.2 | (with_reducible refine Kd.C_alloc ?_ _) | (with_reducible refine Kd.C_drewN ?_ _) | (with_reducible refine Kd.C_drew ?_))); (case side2 => exact (Kd.S_reads' HO365.out).2.1); rintro e w18 ⟨rfl, hb⟩; refine ⟨_, rfl, ?_⟩; replace HO_3 := Aside0.mk (Kd.R_below (sqR HO_3) hb); replace HO365 := Aside0.mk (Kd.S_below (sqS HO365) hb); replace BK359 := sqk BK359 hb; replace HB := sqb hb HB; (try clear hb); (try clear hb2); (try clear hk); (try clear hi)))
     go_roundg k1
     case measure => have := HK1.out; omega
     case rel => exact ⟨(x3_1), (wrap64 (x4_1 + 1)), sqE, H', ⟨by have := HK1.out; omega⟩, ⟨sqR HO_3⟩, ⟨sqK BK359⟩, ⟨sqB HB⟩⟩
   ·rw [if_neg c5] at H
    have c5b0 : decide (x4_1 < (l0_0.length : Int)) = false := decide_eq_false c5; clear c5; obtain rfl := Option.some.inj H; have hcz19_0 := sqc0 BK359; have hcz19_1 := sqc1 BK359; have hfz19_0 := blk_frozen BK359.out 0; have hfz19_1 := blk_frozen BK359.out 1
    go_wp2
    go_ret
    exact ⟨_, by first | rfl | (simp [errW_none, errW_some] <;> rfl) | (simp [*, errW_none, errW_some] <;> rfl), by (with_reducible repeat (first | apply Kd.R_alloc | apply Kd.R_drewN | apply Kd.R_drew)); exact HO_3.out, sqB HB⟩
end Go.Proofs.YtemingmeidmjkaaDoor.Q
namespace Go.Proofs.YtemingmeidmjkaaDoor.Q
open Go.RowKit Go.Proofs.YtemingmeidmjkaaDoorW.PrintWords Go.Proofs.YtemingmeidmjkaaDoorW.PrintLast Go.Proofs.YtemingmeidmjkaaDoorW.PrintMore
attribute [local go_sem] max2_int min2_int max_two min_two max_three min_three max_four min_four   -- for this text's walks alone
set_option linter.unusedVariables false
set_option linter.unusedSimpArgs false
def rf_Stolen.f (k : Nat) (l0_0 : List (S41)) (l0_1 : List (S80)) : Option (List Int × Int) := (rf_Check.f k l0_0 l0_1).bind fun t371 => (if t371 = 0 then ((rf_Sets.f k l0_0 l0_1 (-1)).bind fun t372 => ((rf_Is.f k t372).bind fun t375 => (if t375 = true then (some (([] : List Int), 6)) else ((rf_Where.f k l0_0 l0_1).bind fun t376 => (if (t376.length : Int) > 0 then (some (t376, 0)) else (some (([] : List Int), 9))))))) else (some (([] : List Int), t371)))
set_option maxHeartbeats 8000000 in
set_option maxRecDepth 100000 in
theorem rf_Stolen.calls (k : Nat) (A0_0 : Option Addr) (c0_0 : Nat) (l0_0 : List (S41)) (A0_1 : Option Addr) (c0_1 : Nat) (l0_1 : List (S80)) (r1 : List Int) (r2 : Int) (w : World) (hr0_0 : Kd.C k41 w A0_0 l0_0.length l0_0) (hc0_0 : l0_0.length ≤ c0_0) (hr0_1 : Kd.C k80 w A0_1 l0_1.length l0_1) (hc0_1 : l0_1.length ≤ c0_1) (h : rf_Stolen.f k l0_0 l0_1 = some (r1, r2)) :
  Calls Tryd.prog 33 #[.agg #[.slice A0_0 l0_0.length c0_0, .slice A0_1 l0_1.length c0_1]] w fun e w' => ∃ v0_ : Value, e = .returned (.tuple #[v0_, .int .i64 r2]) ∧ Kd.R (Kd.int .i64) 3 w' w.heap.size (fun _ => True) v0_ r1 ∧ Below w.heap.size w w' := by
 have hu25 := Tryd.underlying25; have HR0_0 := Aside0.mk hr0_0; have HC0_0 := Aside0.mk hc0_0; clear hr0_0 hc0_0; have HR0_1 := Aside0.mk hr0_1; have HC0_1 := Aside0.mk hc0_1; clear hr0_1 hc0_1; have HB := Aside0.mk (Below.refl w.heap.size w); have H : ((rf_Check.f k l0_0 l0_1).bind fun t371 => (if t371 = 0 then ((rf_Sets.f k l0_0 l0_1 (-1)).bind fun t372 => ((rf_Is.f k t372).bind fun t375 => (if t375 = true then (some (([] : List Int), 6)) else ((rf_Where.f k l0_0 l0_1).bind fun t376 => (if (t376.length : Int) > 0 then (some (t376, 0)) else (some (([] : List Int), 9))))))) else (some (([] : List Int), t371)))) = some (r1, r2) := h; clear h; obtain ⟨t371, A20, H⟩ := Option.bind_eq_some_iff.mp H; have A2 := Aside0.mk A20; clear A20
 by_cases c3 : t371 = 0
 ·rw [if_pos c3] at H
  have c3b0 : (t371 == 0) = true := beq_iff_eq.mpr c3; have c3b1 : (t371 != 0) = false := bne_eq_false_iff_eq.mpr c3; clear c3; obtain ⟨t372, A40, H⟩ := Option.bind_eq_some_iff.mp H; have A4 := Aside0.mk A40; clear A40; obtain ⟨t375, A50, H⟩ := Option.bind_eq_some_iff.mp H; have A5 := Aside0.mk A50; clear A50
  by_cases c6 : t375 = true
  ·subst c6
   rw [if_pos rfl] at H; simp only [Option.some.injEq, Prod.mk.injEq] at H; obtain ⟨rfl, rfl⟩ := H
   go_enter Tryd.func33, Tryd.ntmps33
   go_wp2_with (first | ((with_reducible refine gate_dst (N := 1) rfl ?_); refine box_event ?hg (N := 1) ?hd (cs := #[.slice A0_0 l0_0.length c0_0, .slice A0_1 l0_1.length c0_1]) (t := 25) ?hr ?_; (case hd => rfl); (case hg => rfl); (case hr => first | (go_simp; done) | (go_simp; rfl)); intro gb370 hg w7 hbox hb; have BK370 := Aside0.mk (hbox); have GW370 := Aside0.mk (sqZ hg HB); have GE370 := Aside0.mk (sqZ hg HB); replace HB := sqb hb HB; clear hb hbox hg; have hcz8_0 := sqc0 BK370; have hcz8_1 := sqc1 BK370; have hfz8_0 := blk_frozen BK370.out 0; have hfz8_1 := blk_frozen BK370.out 1) | ((with_reducible refine gate_callee (f := 22) rfl ?_); refine goesL_ (some 7) rfl rfl Tryd.func22 sqF rfl #[.agg #[.slice A0_0 l0_0.length c0_0, .slice A0_1 l0_1.length c0_1]] rfl sqM ?_; (with_reducible refine (rf_Check.calls k _ _ l0_0 _ _ l0_1 t371 _ ?side1 ?side2 ?side3 ?side4 A2.out).mono ?_); (case side1 => exact sqQ HR0_0 HB); (case side2 => exact HC0_0.out); (case side3 => exact sqQ HR0_1 HB); (case side4 => exact HC0_1.out); rintro e w9 ⟨rfl, hb⟩; refine ⟨_, rfl, ?_⟩; replace BK370 := sqk BK370 hb; replace HB := sqb hb HB; (try clear hb); (try clear hb2); (try clear hk); (try clear hi); have hcz10_0 := sqc0 BK370; have hcz10_1 := sqc1 BK370; have hfz10_0 := blk_frozen BK370.out 0; have hfz10_1 := blk_frozen BK370.out 1) | ((with_reducible refine gate_callee (f := 24) rfl ?_); refine goesL_ (some 12) rfl rfl Tryd.func24 sqF rfl #[.agg #[.slice A0_0 l0_0.length c0_0, .slice A0_1 l0_1.length c0_1], .int .i64 (-1)] rfl sqM ?_; (with_reducible refine (rf_Sets.calls k _ _ l0_0 _ _ l0_1 (-1) t372 _ ?side1 ?side2 ?side3 ?side4 A4.out).mono ?_); (case side1 => exact sqQ HR0_0 HB); (case side2 => exact HC0_0.out); (case side3 => exact sqQ HR0_1 HB); (case side4 => exact HC0_1.out); rintro e w11 ⟨v373, rfl, ho0, hb⟩; refine ⟨_, rfl, ?_⟩; have HO374 := Aside0.mk (Kd.S_lower ho0 (below_size (sqB HB))); replace BK370 := sqk BK370 hb; replace HB := sqb hb HB; (try clear hb); (try clear hb2); (try clear hk); (try clear hi); (try clear ho0); obtain ⟨Ao12, co12, eo12⟩ := Kd.S_slice HO374.out; subst eo12) | ((with_reducible refine gate_callee (f := 25) rfl ?_); refine goesL_ (some 13) rfl rfl Tryd.func25 sqF rfl #[.slice Ao12 t372.length co12] rfl sqM ?_; (with_reducible refine (rf_Is.calls k _ _ t372 true _ ?side1 ?side2 A5.out).mono ?_); (case side1 => repeat (first | exact (Kd.S_reads' HO374.out).2.2 | (with_reducible refine Kd.C_alloc ?_ _) | (with_reducible refine Kd.C_drewN ?_ _) | (with_reducible refine Kd.C_drew ?_))); (case side2 => exact (Kd.S_reads' HO374.out).2.1); rintro e w13 ⟨rfl, hb⟩; refine ⟨_, rfl, ?_⟩; replace HO374 := Aside0.mk (Kd.S_below (sqS HO374) hb); replace BK370 := sqk BK370 hb; replace HB := sqb hb HB; (try clear hb); (try clear hb2); (try clear hk); (try clear hi)))
   go_ret2
   exact ⟨_, by first | rfl | (simp [errW_none, errW_some] <;> rfl) | (simp [*, errW_none, errW_some] <;> rfl), by first | exact Kd.R_nil _ _ _ _ _ | exact Kd.N_nil _ _ _ _ _ | exact Kd.V_nil _ _ _ _ _ | exact Kd.Q_nil _ _ _ _ _ | exact Kd.S_nil _ _ _ _ _, sqB HB⟩
  ·replace c6 := Bool.eq_false_iff.mpr c6
   subst c6; rw [if_neg Bool.false_ne_true] at H; obtain ⟨t376, A140, H⟩ := Option.bind_eq_some_iff.mp H; have A14 := Aside0.mk A140; clear A140
   by_cases c15 : (t376.length : Int) > 0
   ·rw [if_pos c15] at H
    have c15b0 : decide (0 < (t376.length : Int)) = true := decide_eq_true c15; have c15b1 : decide (0 < t376.length) = true := decide_eq_true (by omega); clear c15; simp only [Option.some.injEq, Prod.mk.injEq] at H; obtain ⟨rfl, rfl⟩ := H
    go_enter Tryd.func33, Tryd.ntmps33
    go_wp2_with (first | ((with_reducible refine gate_dst (N := 1) rfl ?_); refine box_event ?hg (N := 1) ?hd (cs := #[.slice A0_0 l0_0.length c0_0, .slice A0_1 l0_1.length c0_1]) (t := 25) ?hr ?_; (case hd => rfl); (case hg => rfl); (case hr => first | (go_simp; done) | (go_simp; rfl)); intro gb370 hg w16 hbox hb; have BK370 := Aside0.mk (hbox); have GW370 := Aside0.mk (sqZ hg HB); have GE370 := Aside0.mk (sqZ hg HB); replace HB := sqb hb HB; clear hb hbox hg; have hcz17_0 := sqc0 BK370; have hcz17_1 := sqc1 BK370; have hfz17_0 := blk_frozen BK370.out 0; have hfz17_1 := blk_frozen BK370.out 1) | ((with_reducible refine gate_callee (f := 22) rfl ?_); refine goesL_ (some 7) rfl rfl Tryd.func22 sqF rfl #[.agg #[.slice A0_0 l0_0.length c0_0, .slice A0_1 l0_1.length c0_1]] rfl sqM ?_; (with_reducible refine (rf_Check.calls k _ _ l0_0 _ _ l0_1 t371 _ ?side1 ?side2 ?side3 ?side4 A2.out).mono ?_); (case side1 => exact sqQ HR0_0 HB); (case side2 => exact HC0_0.out); (case side3 => exact sqQ HR0_1 HB); (case side4 => exact HC0_1.out); rintro e w18 ⟨rfl, hb⟩; refine ⟨_, rfl, ?_⟩; replace BK370 := sqk BK370 hb; replace HB := sqb hb HB; (try clear hb); (try clear hb2); (try clear hk); (try clear hi); have hcz19_0 := sqc0 BK370; have hcz19_1 := sqc1 BK370; have hfz19_0 := blk_frozen BK370.out 0; have hfz19_1 := blk_frozen BK370.out 1) | ((with_reducible refine gate_callee (f := 24) rfl ?_); refine goesL_ (some 12) rfl rfl Tryd.func24 sqF rfl #[.agg #[.slice A0_0 l0_0.length c0_0, .slice A0_1 l0_1.length c0_1], .int .i64 (-1)] rfl sqM ?_; (with_reducible refine (rf_Sets.calls k _ _ l0_0 _ _ l0_1 (-1) t372 _ ?side1 ?side2 ?side3 ?side4 A4.out).mono ?_); (case side1 => exact sqQ HR0_0 HB); (case side2 => exact HC0_0.out); (case side3 => exact sqQ HR0_1 HB); (case side4 => exact HC0_1.out); rintro e w20 ⟨v373, rfl, ho0, hb⟩; refine ⟨_, rfl, ?_⟩; have HO374 := Aside0.mk (Kd.S_lower ho0 (below_size (sqB HB))); replace BK370 := sqk BK370 hb; replace HB := sqb hb HB; (try clear hb); (try clear hb2); (try clear hk); (try clear hi); (try clear ho0); obtain ⟨Ao21, co21, eo21⟩ := Kd.S_slice HO374.out; subst eo21) | ((with_reducible refine gate_callee (f := 25) rfl ?_); refine goesL_ (some 13) rfl rfl Tryd.func25 sqF rfl #[.slice Ao21 t372.length co21] rfl sqM ?_; (with_reducible refine (rf_Is.calls k _ _ t372 false _ ?side1 ?side2 A5.out).mono ?_); (case side1 => repeat (first | exact (Kd.S_reads' HO374.out).2.2 | (with_reducible refine Kd.C_alloc ?_ _) | (with_reducible refine Kd.C_drewN ?_ _) | (with_reducible refine Kd.C_drew ?_))); (case side2 => exact (Kd.S_reads' HO374.out).2.1); rintro e w22 ⟨rfl, hb⟩; refine ⟨_, rfl, ?_⟩; replace HO374 := Aside0.mk (Kd.S_below (sqS HO374) hb); replace BK370 := sqk BK370 hb; replace HB := sqb hb HB; (try clear hb); (try clear hb2); (try clear hk); (try clear hi); have hcz23_0 := sqc0 BK370; have hcz23_1 := sqc1 BK370; have hfz23_0 := blk_frozen BK370.out 0; have hfz23_1 := blk_frozen BK370.out 1) | ((with_reducible refine gate_callee (f := 73) rfl ?_); refine goesL_ (some 15) rfl rfl Tryd.func73 sqF rfl #[.agg #[.slice A0_0 l0_0.length c0_0, .slice A0_1 l0_1.length c0_1]] rfl sqM ?_; (with_reducible refine (rf_Where.calls k _ _ l0_0 _ _ l0_1 t376 _ ?side1 ?side2 ?side3 ?side4 A14.out).mono ?_); (case side1 => exact sqQ HR0_0 HB); (case side2 => exact HC0_0.out); (case side3 => exact sqQ HR0_1 HB); (case side4 => exact HC0_1.out); rintro e w24 ⟨v377, rfl, ho0, hb⟩; refine ⟨_, rfl, ?_⟩; replace HO374 := Aside0.mk (Kd.S_below (sqS HO374) hb); have HO378 := Aside0.mk (Kd.R_lower ho0 (below_size (sqB HB))); replace BK370 := sqk BK370 hb; replace HB := sqb hb HB; (try clear hb); (try clear hb2); (try clear hk); (try clear hi); (try clear ho0); obtain ⟨Ao25, co25, eo25⟩ := Kd.R_slice HO378.out; subst eo25))
    go_ret2
    exact ⟨_, by first | rfl | (simp [errW_none, errW_some] <;> rfl) | (simp [*, errW_none, errW_some] <;> rfl), by (with_reducible repeat (first | apply Kd.R_alloc | apply Kd.R_drewN | apply Kd.R_drew)); exact HO378.out, sqB HB⟩
   ·rw [if_neg c15] at H
    have c15b0 : decide (0 < (t376.length : Int)) = false := decide_eq_false c15; have c15b1 : decide (0 < t376.length) = false := decide_eq_false (by omega); clear c15; simp only [Option.some.injEq, Prod.mk.injEq] at H; obtain ⟨rfl, rfl⟩ := H
    go_enter Tryd.func33, Tryd.ntmps33
    go_wp2_with (first | ((with_reducible refine gate_dst (N := 1) rfl ?_); refine box_event ?hg (N := 1) ?hd (cs := #[.slice A0_0 l0_0.length c0_0, .slice A0_1 l0_1.length c0_1]) (t := 25) ?hr ?_; (case hd => rfl); (case hg => rfl); (case hr => first | (go_simp; done) | (go_simp; rfl)); intro gb370 hg w26 hbox hb; have BK370 := Aside0.mk (hbox); have GW370 := Aside0.mk (sqZ hg HB); have GE370 := Aside0.mk (sqZ hg HB); replace HB := sqb hb HB; clear hb hbox hg; have hcz27_0 := sqc0 BK370; have hcz27_1 := sqc1 BK370; have hfz27_0 := blk_frozen BK370.out 0; have hfz27_1 := blk_frozen BK370.out 1) | ((with_reducible refine gate_callee (f := 22) rfl ?_); refine goesL_ (some 7) rfl rfl Tryd.func22 sqF rfl #[.agg #[.slice A0_0 l0_0.length c0_0, .slice A0_1 l0_1.length c0_1]] rfl sqM ?_; (with_reducible refine (rf_Check.calls k _ _ l0_0 _ _ l0_1 t371 _ ?side1 ?side2 ?side3 ?side4 A2.out).mono ?_); (case side1 => exact sqQ HR0_0 HB); (case side2 => exact HC0_0.out); (case side3 => exact sqQ HR0_1 HB); (case side4 => exact HC0_1.out); rintro e w28 ⟨rfl, hb⟩; refine ⟨_, rfl, ?_⟩; replace BK370 := sqk BK370 hb; replace HB := sqb hb HB; (try clear hb); (try clear hb2); (try clear hk); (try clear hi); have hcz29_0 := sqc0 BK370; have hcz29_1 := sqc1 BK370; have hfz29_0 := blk_frozen BK370.out 0; have hfz29_1 := blk_frozen BK370.out 1) | ((with_reducible refine gate_callee (f := 24) rfl ?_); refine goesL_ (some 12) rfl rfl Tryd.func24 sqF rfl #[.agg #[.slice A0_0 l0_0.length c0_0, .slice A0_1 l0_1.length c0_1], .int .i64 (-1)] rfl sqM ?_; (with_reducible refine (rf_Sets.calls k _ _ l0_0 _ _ l0_1 (-1) t372 _ ?side1 ?side2 ?side3 ?side4 A4.out).mono ?_); (case side1 => exact sqQ HR0_0 HB); (case side2 => exact HC0_0.out); (case side3 => exact sqQ HR0_1 HB); (case side4 => exact HC0_1.out); rintro e w30 ⟨v373, rfl, ho0, hb⟩; refine ⟨_, rfl, ?_⟩; have HO374 := Aside0.mk (Kd.S_lower ho0 (below_size (sqB HB))); replace BK370 := sqk BK370 hb; replace HB := sqb hb HB; (try clear hb); (try clear hb2); (try clear hk); (try clear hi); (try clear ho0); obtain ⟨Ao31, co31, eo31⟩ := Kd.S_slice HO374.out; subst eo31) | ((with_reducible refine gate_callee (f := 25) rfl ?_); refine goesL_ (some 13) rfl rfl Tryd.func25 sqF rfl #[.slice Ao31 t372.length co31] rfl sqM ?_; (with_reducible refine (rf_Is.calls k _ _ t372 false _ ?side1 ?side2 A5.out).mono ?_); (case side1 => repeat (first | exact (Kd.S_reads' HO374.out).2.2 | (with_reducible refine Kd.C_alloc ?_ _) | (with_reducible refine Kd.C_drewN ?_ _) | (with_reducible refine Kd.C_drew ?_))); (case side2 => exact (Kd.S_reads' HO374.out).2.1); rintro e w32 ⟨rfl, hb⟩; refine ⟨_, rfl, ?_⟩; replace HO374 := Aside0.mk (Kd.S_below (sqS HO374) hb); replace BK370 := sqk BK370 hb; replace HB := sqb hb HB; (try clear hb); (try clear hb2); (try clear hk); (try clear hi); have hcz33_0 := sqc0 BK370; have hcz33_1 := sqc1 BK370; have hfz33_0 := blk_frozen BK370.out 0; have hfz33_1 := blk_frozen BK370.out 1) | ((with_reducible refine gate_callee (f := 73) rfl ?_); refine goesL_ (some 15) rfl rfl Tryd.func73 sqF rfl #[.agg #[.slice A0_0 l0_0.length c0_0, .slice A0_1 l0_1.length c0_1]] rfl sqM ?_; (with_reducible refine (rf_Where.calls k _ _ l0_0 _ _ l0_1 t376 _ ?side1 ?side2 ?side3 ?side4 A14.out).mono ?_); (case side1 => exact sqQ HR0_0 HB); (case side2 => exact HC0_0.out); (case side3 => exact sqQ HR0_1 HB); (case side4 => exact HC0_1.out); rintro e w34 ⟨v377, rfl, ho0, hb⟩; refine ⟨_, rfl, ?_⟩; replace HO374 := Aside0.mk (Kd.S_below (sqS HO374) hb); have HO378 := Aside0.mk (Kd.R_lower ho0 (below_size (sqB HB))); replace BK370 := sqk BK370 hb; replace HB := sqb hb HB; (try clear hb); (try clear hb2); (try clear hk); (try clear hi); (try clear ho0); obtain ⟨Ao35, co35, eo35⟩ := Kd.R_slice HO378.out; subst eo35))
    go_ret2
    exact ⟨_, by first | rfl | (simp [errW_none, errW_some] <;> rfl) | (simp [*, errW_none, errW_some] <;> rfl), by first | exact Kd.R_nil _ _ _ _ _ | exact Kd.N_nil _ _ _ _ _ | exact Kd.V_nil _ _ _ _ _ | exact Kd.Q_nil _ _ _ _ _ | exact Kd.S_nil _ _ _ _ _, sqB HB⟩
 ·rw [if_neg c3] at H
  have c3b0 : (t371 == 0) = false := beq_eq_false_iff_ne.mpr c3; have c3b1 : (t371 != 0) = true := bne_iff_ne.mpr c3; simp only [Option.some.injEq, Prod.mk.injEq] at H; obtain ⟨rfl, rfl⟩ := H
  go_enter Tryd.func33, Tryd.ntmps33
  go_wp2_with (first | ((with_reducible refine gate_dst (N := 1) rfl ?_); refine box_event ?hg (N := 1) ?hd (cs := #[.slice A0_0 l0_0.length c0_0, .slice A0_1 l0_1.length c0_1]) (t := 25) ?hr ?_; (case hd => rfl); (case hg => rfl); (case hr => first | (go_simp; done) | (go_simp; rfl)); intro gb370 hg w36 hbox hb; have BK370 := Aside0.mk (hbox); have GW370 := Aside0.mk (sqZ hg HB); have GE370 := Aside0.mk (sqZ hg HB); replace HB := sqb hb HB; clear hb hbox hg; have hcz37_0 := sqc0 BK370; have hcz37_1 := sqc1 BK370; have hfz37_0 := blk_frozen BK370.out 0; have hfz37_1 := blk_frozen BK370.out 1) | ((with_reducible refine gate_callee (f := 22) rfl ?_); refine goesL_ (some 7) rfl rfl Tryd.func22 sqF rfl #[.agg #[.slice A0_0 l0_0.length c0_0, .slice A0_1 l0_1.length c0_1]] rfl sqM ?_; (with_reducible refine (rf_Check.calls k _ _ l0_0 _ _ l0_1 t371 _ ?side1 ?side2 ?side3 ?side4 A2.out).mono ?_); (case side1 => exact sqQ HR0_0 HB); (case side2 => exact HC0_0.out); (case side3 => exact sqQ HR0_1 HB); (case side4 => exact HC0_1.out); rintro e w38 ⟨rfl, hb⟩; refine ⟨_, rfl, ?_⟩; replace BK370 := sqk BK370 hb; replace HB := sqb hb HB; (try clear hb); (try clear hb2); (try clear hk); (try clear hi)))
  go_ret2
  exact ⟨_, by first | rfl | (simp [errW_none, errW_some] <;> rfl) | (simp [*, errW_none, errW_some] <;> rfl), by first | exact Kd.R_nil _ _ _ _ _ | exact Kd.N_nil _ _ _ _ _ | exact Kd.V_nil _ _ _ _ _ | exact Kd.Q_nil _ _ _ _ _ | exact Kd.S_nil _ _ _ _ _, sqB HB⟩
end Go.Proofs.YtemingmeidmjkaaDoor.Q
namespace Go.Proofs.YtemingmeidmjkaaDoor.Q
open Go.RowKit Go.Proofs.YtemingmeidmjkaaDoorW.PrintWords Go.Proofs.YtemingmeidmjkaaDoorW.PrintLast Go.Proofs.YtemingmeidmjkaaDoorW.PrintMore
attribute [local go_sem] max2_int min2_int max_two min_two max_three min_three max_four min_four   -- for this text's walks alone
set_option linter.unusedVariables false
set_option linter.unusedSimpArgs false
def wool_Look.f (l0_0 : List (S41)) (l0_1 : List (S80)) (a1 : Int) : Option (Int × Int × Int) := some ((lkA (toSt l0_0) (toWg l0_1) a1).1, (lkA (toSt l0_0) (toWg l0_1) a1).2, lkE (toSt l0_0) (toWg l0_1) a1)
theorem wool_Look.calls (A0_0 : Option Addr) (c0_0 : Nat) (l0_0 : List (S41)) (A0_1 : Option Addr) (c0_1 : Nat) (l0_1 : List (S80)) (a1 : Int) (r1 : Int) (r2 : Int) (r3 : Int) (w : World) (hG : GL w) (hr0_0 : Kd.C k41 w A0_0 l0_0.length l0_0) (hc0_0 : l0_0.length ≤ c0_0) (hr0_1 : Kd.C k80 w A0_1 l0_1.length l0_1) (hc0_1 : l0_1.length ≤ c0_1) (h : wool_Look.f l0_0 l0_1 a1 = some (r1, r2, r3)) :
  Calls Tryd.prog 39 #[.agg #[.slice A0_0 l0_0.length c0_0, .slice A0_1 l0_1.length c0_1], .int .i64 a1] w fun e w' => e = .returned (.tuple #[.int .i64 r1, .int .i64 r2, .int .i64 r3]) ∧ Below w.heap.size w w' := by
 simp only [wool_Look.f, Option.some.injEq, Prod.mk.injEq] at h; obtain ⟨rfl, rfl, rfl⟩ := h; have H := look_ A0_0 c0_0 (toSt l0_0) A0_1 c0_1 (toWg l0_1) a1 w hG (toSt_C hr0_0) (toSt_c hc0_0) (toWg_C hr0_1) (toWg_c hc0_1); rw [toSt_len, toWg_len] at H; exact H
end Go.Proofs.YtemingmeidmjkaaDoor.Q
namespace Go.Proofs.YtemingmeidmjkaaDoor.Q
open Go.RowKit Go.Proofs.YtemingmeidmjkaaDoorW.PrintWords Go.Proofs.YtemingmeidmjkaaDoorW.PrintLast Go.Proofs.YtemingmeidmjkaaDoorW.PrintMore
attribute [local go_sem] max2_int min2_int max_two min_two max_three min_three max_four min_four   -- for this text's walks alone
set_option linter.unusedVariables false
set_option linter.unusedSimpArgs false
mutual
def rf_Look.l0 : Nat → List Int → Int → List (List (List Bool)) → Int → List (S41) → List (S80) → Option (Int × Int)
 | 0, _, _, _, _, _, _ => none
 | k + 1, x1, x2, x8, x9, x458000, x458001 => if x9 < (x1.length : Int) then (if 0 ≤ x9 then ((rf_Sets.f k x458000 x458001 (rd x1 x9)).bind fun t462 => (if x8.length < 5864062014805 then (rf_Look.l0 k x1 x2 (x8 ++ [t462]) (wrap64 (x9 + 1)) x458000 x458001) else (none))) else (none)) else (rf_Look.l1 k x2 x8 (-1) (x1.length : Int) 0 x458000 x458001)
def rf_Look.l1 : Nat → Int → List (List (List Bool)) → Int → Int → Int → List (S41) → List (S80) → Option (Int × Int)
 | 0, _, _, _, _, _, _, _ => none
 | k + 1, x2, x8, x10, x11, x12, x458000, x458001 => if x12 ≤ (x458000.length : Int) then (rf_Look.l2 k x2 x8 x10 x11 x12 0 (wrap64 (-x2)) x458000 x458001) else (some (x10, x11))
def rf_Look.l2 : Nat → Int → List (List (List Bool)) → Int → Int → Int → Int → Int → List (S41) → List (S80) → Option (Int × Int)
 | 0, _, _, _, _, _, _, _, _, _ => none
 | k + 1, x2, x8, x10, x11, x12, x13, x14, x458000, x458001 => if x14 ≤ (wrap64 (400 + x2)) then (rf_Look.l3 k x2 x8 x10 x11 x12 x13 x14 0 0 x458000 x458001) else (if x13 < x11 then (rf_Look.l1 k x2 x8 x12 x13 (wrap64 (x12 + 1)) x458000 x458001) else (rf_Look.l1 k x2 x8 x10 x11 (wrap64 (x12 + 1)) x458000 x458001))
def rf_Look.l3 : Nat → Int → List (List (List Bool)) → Int → Int → Int → Int → Int → Int → Int → List (S41) → List (S80) → Option (Int × Int)
 | 0, _, _, _, _, _, _, _, _, _, _, _ => none
 | k + 1, x2, x8, x10, x11, x12, x13, x14, x15, x16, x458000, x458001 => if x16 < (x8.length : Int) then (rf_Look.l4 k x2 x8 x10 x11 x12 x13 x14 x15 x16 false (mx 0 (wrap64 (x14 - x2))) x458000 x458001) else (rf_Look.l2 k x2 x8 x10 x11 x12 (mx x13 x15) (wrap64 (x14 + 1)) x458000 x458001)
def rf_Look.l4 : Nat → Int → List (List (List Bool)) → Int → Int → Int → Int → Int → Int → Int → Bool → Int → List (S41) → List (S80) → Option (Int × Int)
 | 0, _, _, _, _, _, _, _, _, _, _, _, _, _ => none
 | k + 1, x2, x8, x10, x11, x12, x13, x14, x15, x16, x17, x18, x458000, x458001 => if x18 ≤ (mn 400 (wrap64 (x14 + x2))) then (if x17 = true then (rf_Look.l4 k x2 x8 x10 x11 x12 x13 x14 x15 x16 true (wrap64 (x18 + 1)) x458000 x458001) else (if 0 ≤ x16 then (if x16 < (x8.length : Int) then (if 0 ≤ x12 then (if x12 < ((rd_L11 x8 x16).length : Int) then (if 0 ≤ x18 then (if x18 < ((rd_L9 (rd_L11 x8 x16) x12).length : Int) then (rf_Look.l4 k x2 x8 x10 x11 x12 x13 x14 x15 x16 (rdOf false (rd_L9 (rd_L11 x8 x16) x12) x18) (wrap64 (x18 + 1)) x458000 x458001) else (none)) else (none)) else (none)) else (none)) else (none)) else (none))) else (if x17 = true then (rf_Look.l3 k x2 x8 x10 x11 x12 x13 x14 (wrap64 (x15 + 1)) (wrap64 (x16 + 1)) x458000 x458001) else (rf_Look.l3 k x2 x8 x10 x11 x12 x13 x14 x15 (wrap64 (x16 + 1)) x458000 x458001))
end
def rf_Look.f (k : Nat) (l0_0 : List (S41)) (l0_1 : List (S80)) (l1 : List Int) (a2 : Int) : Option (Int × Int) := rf_Look.l0 k l1 a2 (([] : List (List (List Bool)))) 0 l0_0 l0_1
def rf_Look.T5 : Bool × List (List Nat × List Nat) := (true, [([], []), ([], []), ([], []), ([], []), ([2, 3], [2, 3]), ([4], [4]), ([1, 5], [1, 5]), ([6], [6]), ([0, 7, 6], [0, 7]), ([8, 8, 0, 1, 2, 3, 4, 5, 6, 7, 8], [0, 8])])
def rf_Look.B5 : List Nat := [0, 0, 0, 0, 12, 28, 62, 126, 255, 511]
theorem rf_Look.tab5 : rtab .any (opsOf Tryd.f40 5) = rf_Look.T5 := by kernel_rfl
theorem rf_Look.bits5 : waitsOk rf_Look.T5.2 rf_Look.B5 = true := by kernel_rfl
set_option maxHeartbeats 8000000 in
set_option maxRecDepth 100000 in
theorem rf_Look.calls (k : Nat) (A0_0 : Option Addr) (c0_0 : Nat) (l0_0 : List (S41)) (A0_1 : Option Addr) (c0_1 : Nat) (l0_1 : List (S80)) (A1 : Option Addr) (c1 : Nat) (l1 : List Int) (a2 : Int) (r1 : Int) (r2 : Int) (w : World) (hr0_0 : Kd.C k41 w A0_0 l0_0.length l0_0) (hc0_0 : l0_0.length ≤ c0_0) (hr0_1 : Kd.C k80 w A0_1 l0_1.length l0_1) (hc0_1 : l0_1.length ≤ c0_1) (hr1 : Kd.C (Kd.int .i64) w A1 l1.length l1) (hc1 : l1.length ≤ c1) (h : rf_Look.f k l0_0 l0_1 l1 a2 = some (r1, r2)) :
  Calls Tryd.prog 40 #[.agg #[.slice A0_0 l0_0.length c0_0, .slice A0_1 l0_1.length c0_1], .slice A1 l1.length c1, .int .i64 a2] w fun e w' => e = .returned (.tuple #[.int .i64 r1, .int .i64 r2]) ∧ Below w.heap.size w w' := by
 have hu25 := Tryd.underlying25; have HR0_0 := Aside0.mk hr0_0; have HC0_0 := Aside0.mk hc0_0; clear hr0_0 hc0_0; have HR0_1 := Aside0.mk hr0_1; have HC0_1 := Aside0.mk hc0_1; clear hr0_1 hc0_1; have HR1 := Aside0.mk hr1; have HC1 := Aside0.mk hc1; clear hr1 hc1; have HB := Aside0.mk (Below.refl w.heap.size w); have H : (rf_Look.l0 k l1 a2 (([] : List (List (List Bool)))) 0 l0_0 l0_1) = some (r1, r2) := h; clear h; replace H : ∃ y_ : List (List (List Bool)), y_ = (([] : List (List (List Bool)))) ∧ (rf_Look.l0 k l1 a2 y_ 0 l0_0 l0_1) = some (r1, r2) := ⟨_, rfl, sqJ H⟩; obtain ⟨y458, hy458, H⟩ := H; have Ny458 := Aside0.mk hy458; clear hy458; have H' := Aside0.mk H; clear H; go_enter Tryd.func40, Tryd.ntmps40
 go_wp2_with (first | ((with_reducible refine gate_dst (N := 3) rfl ?_); refine box_event ?hg (N := 3) ?hd (cs := #[.slice A0_0 l0_0.length c0_0, .slice A0_1 l0_1.length c0_1]) (t := 25) ?hr ?_; (case hd => rfl); (case hg => rfl); (case hr => first | (go_simp; done) | (go_simp; rfl)); intro gb457 hg w4 hbox hb; have BK457 := Aside0.mk (hbox); have GW457 := Aside0.mk (sqZ hg HB); have GE457 := Aside0.mk (sqZ hg HB); replace HB := sqb hb HB; clear hb hbox hg) | ((with_reducible refine gate_dst (N := 19) rfl ?_); refine Kd.R_lit (Kd.slice 104 (Kd.slice 4 Kd.bool)) _ 34 ?hg (N := 19) ?hd (xs := ([] : List (List (List Bool)))) (inner := []) (ok := fun _ => True) (okp := fun _ => True) ?hr ?hp (fun _ hk => hk) trivial (Below.refl _ _) (Nat.le_refl _) (by simp) ?_; (case hd => rfl); (case hg => rfl); (case hr => first | (go_simp; done) | (go_simp; rfl)); (case hp => exact (Reps.none _ _)); intro v459 w5 ho6 hb hg_ hnew_; clear hg_ hnew_; (first | rw [← Ny458.out] at ho6 | (simp only [Int.reduceToNat] at ho6; rw [← Ny458.out] at ho6)); have HO460 := Aside0.mk (Kd.R_lower ho6 (below_size (sqB HB))); replace BK457 := sqk BK457 hb; replace HB := sqb hb HB; clear hb ho6))
 go_loopg [8, 9] k (fun kq v8 v9 w' => ∃ (x8_1 : List (List (List Bool))) (x9_1 : Int), v9 = .int .i64 x9_1 ∧ Aside0 (rf_Look.l0 kq l1 a2 x8_1 x9_1 l0_0 l0_1 = some (r1, r2)) ∧ Aside0 (kq ≤ k) ∧ Aside0 (Kd.R (Kd.slice 104 (Kd.slice 4 Kd.bool)) 34 w' w.heap.size (fun _ => True) v8 x8_1) ∧ Aside0 (w'.heap[gb457]? = some (.cells #[(.slice A0_0 l0_0.length c0_0), (.slice A0_1 l0_1.length c0_1)] 25 (0, 0))) ∧ Aside0 (Below w.heap.size w w'))
 case atStart => exact ⟨(y458), (0), sqE, H', ⟨Nat.le_refl _⟩, ⟨sqR HO460⟩, ⟨sqK BK457⟩, ⟨sqB HB⟩⟩
 case round =>
  clear H'; try clear c1
  obtain ⟨x8_1, x9_1, rfl, HA, HK1, HO_8, BK457, HB⟩ := hrel
  cases gk with
  | zero => exact absurd HA.out (by simp [rf_Look.l0])
  | succ k1 =>
   have H := HA.out; clear HA; simp only [rf_Look.l0] at H
   by_cases c7 : x9_1 < (l1.length : Int)
   ·rw [if_pos c7] at H
    have c7b0 : decide (x9_1 < (l1.length : Int)) = true := decide_eq_true c7; clear c7
    by_cases c8 : 0 ≤ x9_1
    ·rw [if_pos c8] at H
     have c8b0 : decide (0 ≤ x9_1) = true := decide_eq_true c8; clear c8; obtain ⟨t462, A90, H⟩ := Option.bind_eq_some_iff.mp H; have A9 := Aside0.mk A90; clear A90
     by_cases c10 : x8_1.length < 5864062014805
     ·rw [if_pos c10] at H
      have LMc10 := Aside0.mk c10; clear c10; replace H : ∃ y_ : List (List (List Bool)), y_ = (x8_1 ++ [t462]) ∧ (rf_Look.l0 k1 l1 a2 y_ (wrap64 (x9_1 + 1)) l0_0 l0_1) = some (r1, r2) := ⟨_, rfl, sqJ H⟩; obtain ⟨y465, hy465, H⟩ := H; have Ny465 := Aside0.mk hy465; clear hy465; have H' := Aside0.mk H
      clear H; try go_wp2
      have n0_ := Aside0.mk (Kd.R_drew HO_8.out); have n1_ := Aside0.mk (blk_drew BK457.out); have n2_ := Aside0.mk (below_drew1 HB.out); clear HO_8 BK457 HB; have HO_8 := n0_; have BK457 := n1_; have HB := n2_; clear n0_ n1_ n2_; have p461 : 0 ≤ (x9_1 : Int) := sqD; have q461 : x9_1 < (l1.length : Int) := sqD; obtain ⟨ad461, e461, hx461_0⟩ := Kd.at_int HR1.out x9_1 p461 q461; have hw461_0 := hx461_0
      cases e461
      replace hx461_0 := (HB.out.cell (World.block_lt_of_cell? w _ hx461_0)).trans hx461_0; replace p461 := eq_true p461; replace q461 := eq_true q461; refine start_ (n := 10) (S := fun w' => w'.cell? ⟨gb457, 0, none⟩ = some (.slice A0_0 l0_0.length c0_0) ∧ w'.cell? ⟨gb457, 1, none⟩ = some (.slice A0_1 l0_1.length c0_1) ∧ w'.cell? (ad461.add (x9_1).toNat) = some (.int .i64 (rd l1 x9_1))) (ds := []) (bm 10 0) sqF rfl rfl ⟨(blk_cell BK457.out 0).trans rfl, (blk_cell BK457.out 1).trans rfl, ((HB.out.cell (World.block_lt_of_cell? w _ hw461_0)).trans hw461_0)⟩ (fun hHeld => ?_); refine with_tabW rf_Look.tab5 rf_Look.bits5 (fun HT_ HW_ => ?_)
      generalize wr.drew = w11 at HO_8 BK457 HB hx461_0 hHeld ⊢
      refine pure_ (i := 0) (N := some 26) (v := ?_) (a' := ?_) (bm 10 1) rfl rfl (any_of HT_.out sqF) (fun _ _ _ h => h) (Or.inl ⟨by rfl, ?_⟩) ?_ ?_
      rotate_left
      ·intro w'
       go_simp; with_reducible rfl
      rotate_left
      ·simp only [Act.put, sqA, i64_w, i32_w]; rfl
      refine pure_ (i := 2) (N := some 28) (v := ?_) (a' := ?_) (bm 10 5) rfl rfl (any_of HT_.out sqF) (fun _ _ _ h => h) (Or.inl ⟨by rfl, ?_⟩) ?_ ?_
      rotate_left
      ·intro w'
       go_simp; with_reducible rfl
      rotate_left
      ·simp only [Act.put, sqA, i64_w, i32_w]; rfl
      refine pure_ (i := 3) (N := some 29) (v := ?_) (a' := ?_) (bm 10 13) rfl rfl (any_of HT_.out sqF) (fun _ _ _ h => h) (Or.inl ⟨by rfl, ?_⟩) ?_ ?_
      rotate_left
      ·intro w'
       go_simp; with_reducible rfl
      rotate_left
      ·simp only [Act.put, sqA, i64_w, i32_w]; rfl
      refine pure_ (i := 4) (N := some 30) (v := ?_) (a' := ?_) (bm 10 29) rfl rfl (any_of HT_.out sqF) (fun _ _ _ h => h) (Or.inl ⟨by rfl, ?_⟩) ?_ ?_
      rotate_left
      ·intro w'
       go_simp; with_reducible rfl
      rotate_left
      ·simp only [Act.put, sqA, i64_w, i32_w]; rfl
      refine take_ (i := 1) (N := some 27) (v := ?_) (a' := ?_) (bm 10 31) rfl rfl (take_ofW HT_.out HW_.out sqF) (fun _ _ _ h => h) (Or.inl ⟨by rfl, ?_⟩) hHeld ?_ ?_
      rotate_left
      ·rintro w' ⟨s0, s1, s2⟩
       go_simp; with_reducible rfl
      rotate_left
      ·simp only [Act.put, sqA, i64_w, i32_w]; rfl
      refine take_ (i := 5) (N := some 31) (v := ?_) (a' := ?_) (bm 10 63) rfl rfl (take_ofW HT_.out HW_.out sqF) (fun _ _ _ h => h) (Or.inl ⟨by rfl, ?_⟩) hHeld ?_ ?_
      rotate_left
      ·rintro w' ⟨s0, s1, s2⟩
       go_simp; with_reducible rfl
      rotate_left
      ·simp only [Act.put, sqA, i64_w, i32_w]; rfl
      refine one_ (i := 6) (N := some 32) (bm 10 127) rfl rfl (one_of HT_.out sqF) (by decide) (fun K hK => ?_); refine goes_ Tryd.func24 sqF rfl #[.agg #[.slice A0_0 l0_0.length c0_0, .slice A0_1 l0_1.length c0_1], .int .i64 (rd l1 x9_1)] (by rfl) rfl rfl sqM ?_
      with_reducible refine (rf_Sets.calls k1 _ _ l0_0 _ _ l0_1 (rd l1 x9_1) t462 _ ?side1 ?side2 ?side3 ?side4 A9.out).mono ?_
      (case side1 => exact sqQ HR0_0 HB)
      (case side2 => exact HC0_0.out)
      (case side3 => exact sqQ HR0_1 HB)
      (case side4 => exact HC0_1.out)
      rintro e w12 ⟨v463, rfl, ho0, hb⟩; refine ⟨_, rfl, ?_⟩; have n0_ := Aside0.mk (Kd.R_elder' (sqR HO_8) (Kd.S_base ho0) hb); have n1_ := Aside0.mk (Kd.S_lower ho0 (below_size (sqB HB))); have n2_ := Aside0.mk (blk_below (g := gb457) (o := .cells #[.slice A0_0 l0_0.length c0_0, .slice A0_1 l0_1.length c0_1] 25 (0, 0)) (sqK BK457) hb); have n3_ := Aside0.mk (below_step (sqB HB) hb); clear HO_8 BK457 HB; have HO_8 := n0_; have HO464 := n1_; have BK457 := n2_; have HB := n3_; clear n0_ n1_ n2_ n3_; (try clear hb); (try clear hb2); (try clear hk); (try clear hi); (try clear ho0); obtain ⟨Ao14, co14, eo14⟩ := Kd.S_slice HO464.out
      (first | subst eo14 | (injection eo14 with f1_ f2_ f3_; have f4_ := f1_.symm; have f5_ := f3_.symm; clear f1_ f2_ f3_; subst f4_; subst f5_))
      refine hK.out _ _ ⟨(blk_cell BK457.out 0).trans rfl, (blk_cell BK457.out 1).trans rfl, ((HB.out.cell (World.block_lt_of_cell? w _ hw461_0)).trans hw461_0)⟩ (fun hHeld => ?_); clear hK K; refine norm_ (a' := ?_) ?_ ?_
      rotate_left
      ·show Act.put _ (some 32) _ = _
       simp only [Act.put, sqA, i64_w, i32_w]; rfl
      refine one_ (i := 7) (N := some 33) (bm 10 255) rfl rfl (one_of HT_.out sqF) (by decide) (fun K hK => ?_); refine value_ (w1 := ?_) (v := ?_) (by rfl) rfl ?_ ?_
      rotate_left 2
      ·go_simp
       constructor
       ·rfl
       ·rfl
      refine hK.out _ _ ⟨(blk_cell (blk_alloc BK457.out _) 0).trans rfl, (blk_cell (blk_alloc BK457.out _) 1).trans rfl, (World.cell?_alloc_lt _ _ _ (World.block_lt_of_cell? _ _ (((HB.out.cell (World.block_lt_of_cell? w _ hw461_0)).trans hw461_0)))).trans (((HB.out.cell (World.block_lt_of_cell? w _ hw461_0)).trans hw461_0))⟩ (fun hHeld => ?_); clear hK K; refine norm_ (a' := ?_) ?_ ?_
      rotate_left
      ·show Act.put _ (some 33) _ = _
       simp only [Act.put, sqA, i64_w, i32_w]; rfl
      refine one_ (i := 8) (N := some 34) (bm 10 511) rfl rfl (one_of HT_.out sqF) (by decide) (fun K hK => ?_); refine Kd.R_append_step (Kd.slice 104 (Kd.slice 4 Kd.bool)) (w0 := w) w.heap.size (by rfl) (.tmp 26) (.tmp 33) 127 34 (.slice none 0 0) 24 rfl Tryd.underlying127 info34 rfl (by decide) (by omega) u8 x8_1 t462 [.slice Ao14 t462.length co14] (fun _ => True) (fun k_ => ((fun _ => True)) k_ ∧ some k_ ≠ (u8 : Value).ownBlock) rfl rfl ?aP (fun _ hk => hk) ?aF ?aO ?aB ?aS ?aL ?_
      (case aP => exact Kd.M_row (Kd.R_mono (Kd.R_apart' ((Kd.S_R HO464.out)) (Kd.R_typed HO_8.out) (by decide)) (fun k_ hk => ⟨trivial, hk.2⟩)))
      (case aB => exact (sqB HB))
      (case aF => exact (fun _ _ => trivial))
      (case aO => exact (by (with_reducible repeat (first | apply Kd.R_alloc | apply Kd.R_drewN | apply Kd.R_drew)); exact Kd.R_mono HO_8.out (fun _ hk => trivial)))
      (case aS => exact (below_size (sqB HB)))
      (case aL => have := LMc10.out; omega)
      intro v466 w13 ho hb hg hat; rw [← Ny465.out] at ho; have n0_ := Aside0.mk (blk_grown (g := gb457) (o := .cells #[.slice A0_0 l0_0.length c0_0, .slice A0_1 l0_1.length c0_1] 25 (0, 0)) (sqK BK457) hg (Kd.R_ne HO_8.out BK457.out (by decide))); have n1_ := Aside0.mk (hb); have n2_ := Aside0.mk (ho); clear BK457 HB HO_8 HO464; have BK457 := n0_; have HB := n1_; have HO467 := n2_; clear n0_ n1_ n2_ ho hb hg hat; refine hK.out _ _ ⟨(blk_cell BK457.out 0).trans rfl, (blk_cell BK457.out 1).trans rfl, ((HB.out.cell (World.block_lt_of_cell? w _ hw461_0)).trans hw461_0)⟩ (fun hHeld => ?_); clear hK K; refine norm_ (a' := ?_) ?_ ?_
      rotate_left
      ·show Act.put _ (some 34) _ = _
       simp only [Act.put, sqA, i64_w, i32_w]; rfl
      refine pure_ (i := 9) (N := some 8) (v := ?_) (a' := ?_) (bm 10 1023) rfl rfl (any_of HT_.out sqF) (fun _ _ _ h => h) (Or.inl ⟨by rfl, ?_⟩) ?_ ?_
      rotate_left
      ·intro w'
       go_simp; with_reducible rfl
      rotate_left
      ·simp only [Act.put, sqA, i64_w, i32_w]; rfl
      refine done_ (done_of HT_.out sqF) ?_
      try go_wp2
      go_roundg k1
      case measure => have := HK1.out; omega
      case rel => exact ⟨(y465), (wrap64 (x9_1 + 1)), sqE, H', ⟨by have := HK1.out; omega⟩, ⟨sqR HO467⟩, ⟨sqK BK457⟩, ⟨sqB HB⟩⟩
     ·rw [if_neg c10] at H
      exact absurd H (by simp)
    ·rw [if_neg c8] at H
     exact absurd H (by simp)
   ·rw [if_neg c7] at H
    have c7b0 : decide (x9_1 < (l1.length : Int)) = false := decide_eq_false c7; clear c7; have H' := Aside0.mk H; clear H; go_wp2
    go_loopg [10, 11, 12] k1 (fun kq v10 v11 v12 w' => ∃ (x10_2 : Int) (x11_2 : Int) (x12_2 : Int), v10 = .int .i64 x10_2 ∧ v11 = .int .i64 x11_2 ∧ v12 = .int .i64 x12_2 ∧ Aside0 (rf_Look.l1 kq a2 x8_1 x10_2 x11_2 x12_2 l0_0 l0_1 = some (r1, r2)) ∧ Aside0 (kq ≤ k1) ∧ Aside0 (Kd.R (Kd.slice 104 (Kd.slice 4 Kd.bool)) 34 w' w.heap.size (fun _ => True) u8 x8_1) ∧ Aside0 (w'.heap[gb457]? = some (.cells #[(.slice A0_0 l0_0.length c0_0), (.slice A0_1 l0_1.length c0_1)] 25 (0, 0))) ∧ Aside0 (Below w.heap.size w w'))
    case atStart => exact ⟨((-1)), ((l1.length : Int)), (0), sqE, sqE, sqE, H', ⟨Nat.le_refl _⟩, ⟨sqR HO_8⟩, ⟨sqK BK457⟩, ⟨sqB HB⟩⟩
    case round =>
     clear H'; try clear c7b0
     obtain ⟨x10_2, x11_2, x12_2, rfl, rfl, rfl, HA, HK2, HO_8, BK457, HB⟩ := hrel
     cases gk with
     | zero => exact absurd HA.out (by simp [rf_Look.l1])
     | succ k2 =>
      have H := HA.out; clear HA; simp only [rf_Look.l1] at H
      by_cases c15 : x12_2 ≤ (l0_0.length : Int)
      ·rw [if_pos c15] at H
       have c15b0 : decide (x12_2 ≤ (l0_0.length : Int)) = true := decide_eq_true c15; clear c15; have H' := Aside0.mk H; clear H; have hcz16_0 := sqc0 BK457; have hcz16_1 := sqc1 BK457; have hfz16_0 := blk_frozen BK457.out 0; have hfz16_1 := blk_frozen BK457.out 1
       go_wp2
       go_loopg [13, 14] k2 (fun kq v13 v14 w' => ∃ (x13_3 : Int) (x14_3 : Int), v13 = .int .i64 x13_3 ∧ v14 = .int .i64 x14_3 ∧ Aside0 (rf_Look.l2 kq a2 x8_1 x10_2 x11_2 x12_2 x13_3 x14_3 l0_0 l0_1 = some (r1, r2)) ∧ Aside0 (kq ≤ k2) ∧ Aside0 (Kd.R (Kd.slice 104 (Kd.slice 4 Kd.bool)) 34 w' w.heap.size (fun _ => True) u8 x8_1) ∧ Aside0 (w'.heap[gb457]? = some (.cells #[(.slice A0_0 l0_0.length c0_0), (.slice A0_1 l0_1.length c0_1)] 25 (0, 0))) ∧ Aside0 (Below w.heap.size w w'))
       case atStart => exact ⟨(0), (wrap64 (-a2)), sqE, sqE, H', ⟨Nat.le_refl _⟩, ⟨sqR HO_8⟩, ⟨sqK BK457⟩, ⟨sqB HB⟩⟩
       case round =>
        clear H'; try clear c15b0
        (try clear hcz16_0); (try clear hcz16_1); (try clear hfz16_0); (try clear hfz16_1); obtain ⟨x13_3, x14_3, rfl, rfl, HA, HK3, HO_8, BK457, HB⟩ := hrel
        cases gk with
        | zero => exact absurd HA.out (by simp [rf_Look.l2])
        | succ k3 =>
         have H := HA.out; clear HA; simp only [rf_Look.l2] at H
         by_cases c17 : x14_3 ≤ (wrap64 (400 + a2))
         ·rw [if_pos c17] at H
          have c17b0 : decide (x14_3 ≤ (wrap64 (400 + a2))) = true := decide_eq_true c17; clear c17; have H' := Aside0.mk H; clear H; go_wp2
          go_loopg [15, 16] k3 (fun kq v15 v16 w' => ∃ (x15_4 : Int) (x16_4 : Int), v15 = .int .i64 x15_4 ∧ v16 = .int .i64 x16_4 ∧ Aside0 (rf_Look.l3 kq a2 x8_1 x10_2 x11_2 x12_2 x13_3 x14_3 x15_4 x16_4 l0_0 l0_1 = some (r1, r2)) ∧ Aside0 (kq ≤ k3) ∧ Aside0 (Kd.R (Kd.slice 104 (Kd.slice 4 Kd.bool)) 34 w' w.heap.size (fun _ => True) u8 x8_1) ∧ Aside0 (w'.heap[gb457]? = some (.cells #[(.slice A0_0 l0_0.length c0_0), (.slice A0_1 l0_1.length c0_1)] 25 (0, 0))) ∧ Aside0 (Below w.heap.size w w'))
          case atStart => exact ⟨(0), (0), sqE, sqE, H', ⟨Nat.le_refl _⟩, ⟨sqR HO_8⟩, ⟨sqK BK457⟩, ⟨sqB HB⟩⟩
          case round =>
           clear H'; try clear c17b0
           obtain ⟨x15_4, x16_4, rfl, rfl, HA, HK4, HO_8, BK457, HB⟩ := hrel
           cases gk with
           | zero => exact absurd HA.out (by simp [rf_Look.l3])
           | succ k4 =>
            have H := HA.out; clear HA; simp only [rf_Look.l3] at H
            by_cases c18 : x16_4 < (x8_1.length : Int)
            ·rw [if_pos c18] at H
             have c18b0 : decide (x16_4 < (x8_1.length : Int)) = true := decide_eq_true c18; clear c18; obtain ⟨ji19, hji19⟩ : ∃ j_ : Int, (mx 0 (wrap64 (x14_3 - a2))) = j_ := ⟨_, rfl⟩
             replace H : (rf_Look.l4 k4 a2 x8_1 x10_2 x11_2 x12_2 x13_3 x14_3 x15_4 x16_4 false ji19 l0_0 l0_1) = some (r1, r2) := by first | (rw [hji19] at H; exact H) | (simp only [hji19] at H ⊢; exact H)
             have hji19_ : (if 0 < (wrap64 (x14_3 - a2)) then (wrap64 (x14_3 - a2)) else 0) = ji19 := hji19; have H' := Aside0.mk H; clear H; obtain ⟨Ao20, co20, eo20⟩ := Kd.R_slice HO_8.out; subst eo20
             go_wp2
             go_loopg [17, 18] k4 (fun kq v17 v18 w' => ∃ (x17_5 : Bool) (x18_5 : Int), v17 = .bool x17_5 ∧ v18 = .int .i64 x18_5 ∧ Aside0 (rf_Look.l4 kq a2 x8_1 x10_2 x11_2 x12_2 x13_3 x14_3 x15_4 x16_4 x17_5 x18_5 l0_0 l0_1 = some (r1, r2)) ∧ Aside0 (kq ≤ k4) ∧ Aside0 (Kd.R (Kd.slice 104 (Kd.slice 4 Kd.bool)) 34 w' w.heap.size (fun _ => True) (.slice Ao20 x8_1.length co20) x8_1) ∧ Aside0 (w'.heap[gb457]? = some (.cells #[(.slice A0_0 l0_0.length c0_0), (.slice A0_1 l0_1.length c0_1)] 25 (0, 0))) ∧ Aside0 (Below w.heap.size w w'))
             case atStart => exact ⟨(false), (ji19), sqE, (by first | rfl | (simp; done) | (simp only [← hji19] <;> (first | rfl | simp)) | (simp [*]; done)), H', ⟨Nat.le_refl _⟩, ⟨sqR HO_8⟩, ⟨sqK BK457⟩, ⟨sqB HB⟩⟩
             case round =>
              clear H'; try clear c18b0
              obtain ⟨x17_5, x18_5, rfl, rfl, HA, HK5, HO_8, BK457, HB⟩ := hrel
              cases gk with
              | zero => exact absurd HA.out (by simp [rf_Look.l4])
              | succ k5 =>
               have H := HA.out; clear HA; simp only [rf_Look.l4] at H; obtain ⟨ji21, hji21⟩ : ∃ j_ : Int, (mn 400 (wrap64 (x14_3 + a2))) = j_ := ⟨_, rfl⟩
               replace H : (if x18_5 ≤ (ji21) then (if x17_5 = true then (rf_Look.l4 k5 a2 x8_1 x10_2 x11_2 x12_2 x13_3 x14_3 x15_4 x16_4 true (wrap64 (x18_5 + 1)) l0_0 l0_1) else (if 0 ≤ x16_4 then (if x16_4 < (x8_1.length : Int) then (if 0 ≤ x12_2 then (if x12_2 < ((rd_L11 x8_1 x16_4).length : Int) then (if 0 ≤ x18_5 then (if x18_5 < ((rd_L9 (rd_L11 x8_1 x16_4) x12_2).length : Int) then (rf_Look.l4 k5 a2 x8_1 x10_2 x11_2 x12_2 x13_3 x14_3 x15_4 x16_4 (rdOf false (rd_L9 (rd_L11 x8_1 x16_4) x12_2) x18_5) (wrap64 (x18_5 + 1)) l0_0 l0_1) else (none)) else (none)) else (none)) else (none)) else (none)) else (none))) else (if x17_5 = true then (rf_Look.l3 k5 a2 x8_1 x10_2 x11_2 x12_2 x13_3 x14_3 (wrap64 (x15_4 + 1)) (wrap64 (x16_4 + 1)) l0_0 l0_1) else (rf_Look.l3 k5 a2 x8_1 x10_2 x11_2 x12_2 x13_3 x14_3 x15_4 (wrap64 (x16_4 + 1)) l0_0 l0_1))) = some (r1, r2) := by first | (rw [hji21] at H; exact H) | (simp only [hji21] at H ⊢; exact H)
               have hji21_ : (if (wrap64 (x14_3 + a2)) < 400 then (wrap64 (x14_3 + a2)) else 400) = ji21 := hji21
               by_cases c22 : x18_5 ≤ (ji21)
               ·rw [if_pos c22] at H
                have c22b0 : decide (x18_5 ≤ (ji21)) = true := decide_eq_true c22; clear c22
                by_cases c23 : x17_5 = true
                ·subst c23
                 rw [if_pos rfl] at H; have H' := Aside0.mk H; clear H; go_wp2
                 go_roundg k5
                 case measure => have := HK1.out; have := HK2.out; have := HK3.out; have := HK4.out; have := HK5.out; omega
                 case rel => exact ⟨(true), (wrap64 (x18_5 + 1)), sqE, sqE, H', ⟨by have := HK1.out; have := HK2.out; have := HK3.out; have := HK4.out; have := HK5.out; omega⟩, ⟨sqR HO_8⟩, ⟨sqK BK457⟩, ⟨sqB HB⟩⟩
                ·replace c23 := Bool.eq_false_iff.mpr c23
                 subst c23; rw [if_neg Bool.false_ne_true] at H
                 by_cases c24 : 0 ≤ x16_4
                 ·rw [if_pos c24] at H
                  have c24b0 : decide (0 ≤ x16_4) = true := decide_eq_true c24; clear c24
                  by_cases c25 : x16_4 < (x8_1.length : Int)
                  ·rw [if_pos c25] at H
                   have c25b0 : decide (x16_4 < (x8_1.length : Int)) = true := decide_eq_true c25; clear c25
                   by_cases c26 : 0 ≤ x12_2
                   ·rw [if_pos c26] at H
                    have c26b0 : decide (0 ≤ x12_2) = true := decide_eq_true c26; clear c26
                    by_cases c27 : x12_2 < ((rd_L11 x8_1 x16_4).length : Int)
                    ·rw [if_pos c27] at H
                     have c27b0 : decide (x12_2 < ((rd_L11 x8_1 x16_4).length : Int)) = true := decide_eq_true c27; clear c27
                     by_cases c28 : 0 ≤ x18_5
                     ·rw [if_pos c28] at H
                      have c28b0 : decide (0 ≤ x18_5) = true := decide_eq_true c28; clear c28
                      by_cases c29 : x18_5 < ((rd_L9 (rd_L11 x8_1 x16_4) x12_2).length : Int)
                      ·rw [if_pos c29] at H
                       have c29b0 : decide (x18_5 < ((rd_L9 (rd_L11 x8_1 x16_4) x12_2).length : Int)) = true := decide_eq_true c29; clear c29; have H' := Aside0.mk H; clear H; have p468 : 0 ≤ (x16_4 : Int) := sqD; have q468 : x16_4 < (x8_1.length : Int) := sqD; obtain ⟨ad468, A468_0, c468_0, e468, hx468_0, hl468_0, hi468_0⟩ := at_L11 (Kd.R_reads' HO_8.out).2.2 x16_4 p468 q468
                       cases e468
                       obtain ⟨ce468, hce468, hMe468, hcc468⟩ := Kd.R_get HO_8.out [] x16_4 p468 (by first | exact q468 | exact sqD | (have e_ := (Kd.R_reads' HO_8.out).1; omega)); obtain ⟨ve468_0, rfl, ge468_0⟩ := hMe468; have hv468_0 := hcc468 0 _ rfl; rw [Nat.add_zero, show ((Kd.slice 104 (Kd.slice 4 Kd.bool))).sz = 1 from rfl, Nat.mul_one] at hv468_0; replace hv468_0 := Option.some.inj (hv468_0.symm.trans hx468_0); rw [hv468_0] at ge468_0; have HL468_0 := Aside0.mk (show Kd.R (Kd.slice 4 Kd.bool) 104 _ _ _ _ (rd_L11 x8_1 x16_4) from ge468_0); clear hv468_0 ge468_0 hcc468 hce468; have HR468_0 := Aside0.mk hi468_0; have HC468_0 := Aside0.mk hl468_0; clear hi468_0 hl468_0; replace p468 := eq_true p468; replace q468 := eq_true q468; have p469 : 0 ≤ (x12_2 : Int) := sqD; have q469 : x12_2 < ((rd_L11 x8_1 x16_4).length : Int) := sqD; obtain ⟨ad469, A469_0, c469_0, e469, hx469_0, hl469_0, hi469_0⟩ := at_L9 (sqC HR468_0) x12_2 p469 q469
                       cases e469
                       obtain ⟨ce469, hce469, hMe469, hcc469⟩ := Kd.R_get HL468_0.out [] x12_2 p469 (by first | exact q469 | exact sqD | (have e_ := (Kd.R_reads' HL468_0.out).1; omega)); obtain ⟨ve469_0, rfl, ge469_0⟩ := hMe469; have hv469_0 := hcc469 0 _ rfl; rw [Nat.add_zero, show ((Kd.slice 4 Kd.bool)).sz = 1 from rfl, Nat.mul_one] at hv469_0; replace hv469_0 := Option.some.inj (hv469_0.symm.trans hx469_0); rw [hv469_0] at ge469_0; have HL469_0 := Aside0.mk (show Kd.R Kd.bool 4 _ _ _ _ (rd_L9 (rd_L11 x8_1 x16_4) x12_2) from ge469_0); clear hv469_0 ge469_0 hcc469 hce469; have HR469_0 := Aside0.mk hi469_0; have HC469_0 := Aside0.mk hl469_0; clear hi469_0 hl469_0; replace p469 := eq_true p469; replace q469 := eq_true q469; have p470 : 0 ≤ (x18_5 : Int) := sqD; have q470 : x18_5 < ((rd_L9 (rd_L11 x8_1 x16_4) x12_2).length : Int) := sqD; obtain ⟨ad470, e470, hx470_0⟩ := Kd.at_bool (sqC HR469_0) x18_5 p470 q470
                       cases e470
                       replace p470 := eq_true p470; replace q470 := eq_true q470
                       go_wp2
                       go_roundg k5
                       case measure => have := HK1.out; have := HK2.out; have := HK3.out; have := HK4.out; have := HK5.out; omega
                       case rel => exact ⟨(rdOf false (rd_L9 (rd_L11 x8_1 x16_4) x12_2) x18_5), (wrap64 (x18_5 + 1)), sqE, sqE, H', ⟨by have := HK1.out; have := HK2.out; have := HK3.out; have := HK4.out; have := HK5.out; omega⟩, ⟨sqR HO_8⟩, ⟨sqK BK457⟩, ⟨sqB HB⟩⟩
                      ·rw [if_neg c29] at H
                       exact absurd H (by simp)
                     ·rw [if_neg c28] at H
                      exact absurd H (by simp)
                    ·rw [if_neg c27] at H
                     exact absurd H (by simp)
                   ·rw [if_neg c26] at H
                    exact absurd H (by simp)
                  ·rw [if_neg c25] at H
                   exact absurd H (by simp)
                 ·rw [if_neg c24] at H
                  exact absurd H (by simp)
               ·rw [if_neg c22] at H
                have c22b0 : decide (x18_5 ≤ (ji21)) = false := decide_eq_false c22; clear c22
                by_cases c30 : x17_5 = true
                ·subst c30
                 rw [if_pos rfl] at H; have H' := Aside0.mk H; clear H; go_wp2
                 go_roundg k5
                 case measure => have := HK1.out; have := HK2.out; have := HK3.out; have := HK4.out; have := HK5.out; omega
                 case rel => exact ⟨(wrap64 (x15_4 + 1)), (wrap64 (x16_4 + 1)), sqE, sqE, H', ⟨by have := HK1.out; have := HK2.out; have := HK3.out; have := HK4.out; have := HK5.out; omega⟩, ⟨sqR HO_8⟩, ⟨sqK BK457⟩, ⟨sqB HB⟩⟩
                ·replace c30 := Bool.eq_false_iff.mpr c30
                 subst c30; rw [if_neg Bool.false_ne_true] at H; have H' := Aside0.mk H; clear H; go_wp2
                 go_roundg k5
                 case measure => have := HK1.out; have := HK2.out; have := HK3.out; have := HK4.out; have := HK5.out; omega
                 case rel => exact ⟨(x15_4), (wrap64 (x16_4 + 1)), sqE, sqE, H', ⟨by have := HK1.out; have := HK2.out; have := HK3.out; have := HK4.out; have := HK5.out; omega⟩, ⟨sqR HO_8⟩, ⟨sqK BK457⟩, ⟨sqB HB⟩⟩
            ·rw [if_neg c18] at H
             have c18b0 : decide (x16_4 < (x8_1.length : Int)) = false := decide_eq_false c18; clear c18; obtain ⟨ji31, hji31⟩ : ∃ j_ : Int, (mx x13_3 x15_4) = j_ := ⟨_, rfl⟩
             replace H : (rf_Look.l2 k4 a2 x8_1 x10_2 x11_2 x12_2 ji31 (wrap64 (x14_3 + 1)) l0_0 l0_1) = some (r1, r2) := by first | (rw [hji31] at H; exact H) | (simp only [hji31] at H ⊢; exact H)
             have hji31_ : (if x13_3 < x15_4 then x15_4 else x13_3) = ji31 := hji31; have H' := Aside0.mk H; clear H; obtain ⟨Ao32, co32, eo32⟩ := Kd.R_slice HO_8.out; subst eo32
             go_wp2
             go_roundg k4
             case measure => have := HK1.out; have := HK2.out; have := HK3.out; have := HK4.out; omega
             case rel => exact ⟨(ji31), (wrap64 (x14_3 + 1)), (by first | rfl | (simp; done) | (simp only [← hji31] <;> (first | rfl | simp)) | (simp [*]; done)), sqE, H', ⟨by have := HK1.out; have := HK2.out; have := HK3.out; have := HK4.out; omega⟩, ⟨sqR HO_8⟩, ⟨sqK BK457⟩, ⟨sqB HB⟩⟩
         ·rw [if_neg c17] at H
          have c17b0 : decide (x14_3 ≤ (wrap64 (400 + a2))) = false := decide_eq_false c17; clear c17
          by_cases c33 : x13_3 < x11_2
          ·rw [if_pos c33] at H
           have c33b0 : decide (x13_3 < x11_2) = true := decide_eq_true c33; clear c33; have H' := Aside0.mk H; clear H; go_wp2
           go_roundg k3
           case measure => have := HK1.out; have := HK2.out; have := HK3.out; omega
           case rel => exact ⟨(x12_2), (x13_3), (wrap64 (x12_2 + 1)), sqE, sqE, sqE, H', ⟨by have := HK1.out; have := HK2.out; have := HK3.out; omega⟩, ⟨sqR HO_8⟩, ⟨sqK BK457⟩, ⟨sqB HB⟩⟩
          ·rw [if_neg c33] at H
           have c33b0 : decide (x13_3 < x11_2) = false := decide_eq_false c33; clear c33; have H' := Aside0.mk H; clear H; go_wp2
           go_roundg k3
           case measure => have := HK1.out; have := HK2.out; have := HK3.out; omega
           case rel => exact ⟨(x10_2), (x11_2), (wrap64 (x12_2 + 1)), sqE, sqE, sqE, H', ⟨by have := HK1.out; have := HK2.out; have := HK3.out; omega⟩, ⟨sqR HO_8⟩, ⟨sqK BK457⟩, ⟨sqB HB⟩⟩
      ·rw [if_neg c15] at H
       have c15b0 : decide (x12_2 ≤ (l0_0.length : Int)) = false := decide_eq_false c15; clear c15; simp only [Option.some.injEq, Prod.mk.injEq] at H; obtain ⟨rfl, rfl⟩ := H; have hcz34_0 := sqc0 BK457; have hcz34_1 := sqc1 BK457; have hfz34_0 := blk_frozen BK457.out 0; have hfz34_1 := blk_frozen BK457.out 1
       go_wp2
       go_ret2
       exact ⟨by first | rfl | (simp [errW_none, errW_some] <;> rfl) | (simp [*, errW_none, errW_some] <;> rfl), sqB HB⟩
end Go.Proofs.YtemingmeidmjkaaDoor.Q
namespace Go.Proofs.YtemingmeidmjkaaDoor.Q
open Go.RowKit Go.Proofs.YtemingmeidmjkaaDoorW.PrintWords Go.Proofs.YtemingmeidmjkaaDoorW.PrintLast Go.Proofs.YtemingmeidmjkaaDoorW.PrintMore
attribute [local go_sem] max2_int min2_int max_two min_two max_three min_three max_four min_four   -- for this text's walks alone
set_option linter.unusedVariables false
set_option linter.unusedSimpArgs false
mutual
def lw_WoolLooks.j0 : Nat → Int → Int → Int → Int → Int → List Int → Bool → List (S41) → List (S80) → Option (Bool)
 | 0, _, _, _, _, _, _, _, _, _ => none
 | k + 1, x1, x6, x7, x8, x9, x10, x38, x472000, x472001 => if x38 = true then (lw_WoolLooks.j1 k x1 x6 x7 x8 3 x10 x472000 x472001) else (lw_WoolLooks.j1 k x1 x6 x7 x8 x9 x10 x472000 x472001)
def lw_WoolLooks.j1 : Nat → Int → Int → Int → Int → Int → List Int → List (S41) → List (S80) → Option (Bool)
 | 0, _, _, _, _, _, _, _, _ => none
 | k + 1, x1, x6, x7, x8, x9, x10, x472000, x472001 => if x9 = 0 then ((rf_Stolen.f k x472000 x472001).bind fun bt490 => (lw_WoolLooks.j2 k x1 x6 x7 x8 bt490.2 bt490.1 x472000 x472001)) else (lw_WoolLooks.j2 k x1 x6 x7 x8 x9 x10 x472000 x472001)
def lw_WoolLooks.j2 : Nat → Int → Int → Int → Int → Int → List Int → List (S41) → List (S80) → Option (Bool)
 | 0, _, _, _, _, _, _, _, _ => none
 | k + 1, x1, x6, x7, x8, x9, x10, x472000, x472001 => if x9 = 0 then ((rf_Look.f k x472000 x472001 x10 x1).bind fun bt494 => (if bt494.1 ≥ 0 then (if x8 = 0 then (if x6 = bt494.1 then (if x7 = bt494.2 then ((lw_known.f).bind fun t496 => (some t496)) else (some false)) else (some false)) else (some false)) else (if x8 = 7 then (if x6 = 0 then (if x7 = 0 then ((lw_known.f).bind fun t497 => (some t497)) else (some false)) else (some false)) else (some false)))) else (if x8 = x9 then (if x6 = 0 then (if x7 = 0 then ((lw_known.f).bind fun t498 => (some t498)) else (some false)) else (some false)) else (some false))
end
def lw_WoolLooks.f (k : Nat) (l0_0 : List (S41)) (l0_1 : List (S80)) (a1 : Int) : Option (Bool) := (lw_long.f l0_0 l0_1).bind fun t472 => (if t472 = true then ((lw_known.f).bind fun t473 => (some t473)) else ((rf_Copy.f l0_0 l0_1).bind fun bt474 => ((wool_Look.f bt474.1 bt474.2 a1).bind fun bt481 => ((rf_Same.f k bt474.1 bt474.2 l0_0 l0_1).bind fun t484 => (if t484 = true then ((rf_Check.f k l0_0 l0_1).bind fun t485 => ((some (([] : List Int) : List Int)).bind fun y486 => (if t485 = 0 then ((rf_In.f a1 0 20).bind fun t489 => (lw_WoolLooks.j0 k a1 bt481.1 bt481.2.1 bt481.2.2 t485 y486 (!t489) l0_0 l0_1)) else (lw_WoolLooks.j0 k a1 bt481.1 bt481.2.1 bt481.2.2 t485 y486 false l0_0 l0_1)))) else (some false))))))
set_option maxHeartbeats 8000000 in
set_option maxRecDepth 100000 in
theorem lw_WoolLooks.calls (k : Nat) (A0_0 : Option Addr) (c0_0 : Nat) (l0_0 : List (S41)) (A0_1 : Option Addr) (c0_1 : Nat) (l0_1 : List (S80)) (a1 : Int) (r : Bool) (w : World) (hG : GL w) (hr0_0 : Kd.C k41 w A0_0 l0_0.length l0_0) (hc0_0 : l0_0.length ≤ c0_0) (hr0_1 : Kd.C k80 w A0_1 l0_1.length l0_1) (hc0_1 : l0_1.length ≤ c0_1) (h : lw_WoolLooks.f k l0_0 l0_1 a1 = some r) :
  Calls Tryd.prog 7 #[.agg #[.slice A0_0 l0_0.length c0_0, .slice A0_1 l0_1.length c0_1], .int .i64 a1] w fun e w' => e = .returned (.bool r) ∧ Below w.heap.size w w' := by
 have hu25 := Tryd.underlying25; have HR0_0 := Aside0.mk hr0_0; have HC0_0 := Aside0.mk hc0_0; clear hr0_0 hc0_0; have HR0_1 := Aside0.mk hr0_1; have HC0_1 := Aside0.mk hc0_1; clear hr0_1 hc0_1; have HB := Aside0.mk (Below.refl w.heap.size w); have HGL := Aside0.mk hG; clear hG; have H : ((lw_long.f l0_0 l0_1).bind fun t472 => (if t472 = true then ((lw_known.f).bind fun t473 => (some t473)) else ((rf_Copy.f l0_0 l0_1).bind fun bt474 => ((wool_Look.f bt474.1 bt474.2 a1).bind fun bt481 => ((rf_Same.f k bt474.1 bt474.2 l0_0 l0_1).bind fun t484 => (if t484 = true then ((rf_Check.f k l0_0 l0_1).bind fun t485 => ((some (([] : List Int) : List Int)).bind fun y486 => (if t485 = 0 then ((rf_In.f a1 0 20).bind fun t489 => (lw_WoolLooks.j0 k a1 bt481.1 bt481.2.1 bt481.2.2 t485 y486 (!t489) l0_0 l0_1)) else (lw_WoolLooks.j0 k a1 bt481.1 bt481.2.1 bt481.2.2 t485 y486 false l0_0 l0_1)))) else (some false))))))) = some r := h; clear h; obtain ⟨t472, A30, H⟩ := Option.bind_eq_some_iff.mp H; have A3 := Aside0.mk A30; clear A30
 by_cases c4 : t472 = true
 ·subst c4
  rw [if_pos rfl] at H; obtain ⟨t473, A50, H⟩ := Option.bind_eq_some_iff.mp H; have A5 := Aside0.mk A50; clear A50; obtain rfl := Option.some.inj H
  go_enter Tryd.func7, Tryd.ntmps7
  go_wp2_with (first | ((with_reducible refine gate_dst (N := 2) rfl ?_); refine box_event ?hg (N := 2) ?hd (cs := #[.slice A0_0 l0_0.length c0_0, .slice A0_1 l0_1.length c0_1]) (t := 25) ?hr ?_; (case hd => rfl); (case hg => rfl); (case hr => first | (go_simp; done) | (go_simp; rfl)); intro gb471 hg w6 hbox hb; have BK471 := Aside0.mk (hbox); have GW471 := Aside0.mk (sqZ hg HB); have GE471 := Aside0.mk (sqZ hg HB); replace HB := sqb hb HB; clear hb hbox hg; have hcz7_0 := sqc0 BK471; have hcz7_1 := sqc1 BK471; have hfz7_0 := blk_frozen BK471.out 0; have hfz7_1 := blk_frozen BK471.out 1) | ((with_reducible refine gate_callee (f := 16) rfl ?_); refine goesL_ (some 14) rfl rfl Tryd.func16 sqF rfl #[.agg #[.slice A0_0 l0_0.length c0_0, .slice A0_1 l0_1.length c0_1]] rfl sqM ?_; (with_reducible refine (lw_long.calls _ _ l0_0 _ _ l0_1 true _ ?side1 ?side2 ?side3 ?side4 A3.out).mono ?_); (case side1 => exact sqQ HR0_0 HB); (case side2 => exact HC0_0.out); (case side3 => exact sqQ HR0_1 HB); (case side4 => exact HC0_1.out); rintro e w8 ⟨rfl, hb⟩; refine ⟨_, rfl, ?_⟩; replace BK471 := sqk BK471 hb; replace HB := sqb hb HB; (try clear hb); (try clear hb2); (try clear hk); (try clear hi)) | ((with_reducible refine gate_callee (f := 17) rfl ?_); refine goesL_ (some 15) rfl rfl Tryd.func17 sqF rfl #[] rfl sqM ?_; (with_reducible refine (lw_known.calls t473 _ ?sideG A5.out).mono ?_); (case sideG => exact (Kd.C_below HGL.out (sqB HB))); rintro e w9 ⟨rfl, hb⟩; refine ⟨_, rfl, ?_⟩; replace BK471 := sqk BK471 hb; replace HB := sqb hb HB; (try clear hb); (try clear hb2); (try clear hk); (try clear hi)))
  go_ret
  exact ⟨by first | rfl | (simp [errW_none, errW_some] <;> rfl) | (simp [*, errW_none, errW_some] <;> rfl), sqB HB⟩
 ·replace c4 := Bool.eq_false_iff.mpr c4
  subst c4; rw [if_neg Bool.false_ne_true] at H; obtain ⟨⟨t474, t477⟩, A100, H⟩ := Option.bind_eq_some_iff.mp H; replace H : ((wool_Look.f t474 t477 a1).bind fun bt481 => ((rf_Same.f k t474 t477 l0_0 l0_1).bind fun t484 => (if t484 = true then ((rf_Check.f k l0_0 l0_1).bind fun t485 => ((some (([] : List Int) : List Int)).bind fun y486 => (if t485 = 0 then ((rf_In.f a1 0 20).bind fun t489 => (lw_WoolLooks.j0 k a1 bt481.1 bt481.2.1 bt481.2.2 t485 y486 (!t489) l0_0 l0_1)) else (lw_WoolLooks.j0 k a1 bt481.1 bt481.2.1 bt481.2.2 t485 y486 false l0_0 l0_1)))) else (some false)))) = some r := H; have A10 := Aside0.mk A100; clear A100; obtain ⟨⟨t481, t482, t483⟩, A110, H⟩ := Option.bind_eq_some_iff.mp H; replace H : ((rf_Same.f k t474 t477 l0_0 l0_1).bind fun t484 => (if t484 = true then ((rf_Check.f k l0_0 l0_1).bind fun t485 => ((some (([] : List Int) : List Int)).bind fun y486 => (if t485 = 0 then ((rf_In.f a1 0 20).bind fun t489 => (lw_WoolLooks.j0 k a1 t481 t482 t483 t485 y486 (!t489) l0_0 l0_1)) else (lw_WoolLooks.j0 k a1 t481 t482 t483 t485 y486 false l0_0 l0_1)))) else (some false))) = some r := H; have A11 := Aside0.mk A110; clear A110; obtain ⟨t484, A120, H⟩ := Option.bind_eq_some_iff.mp H; have A12 := Aside0.mk A120; clear A120
  by_cases c13 : t484 = true
  ·subst c13
   rw [if_pos rfl] at H; obtain ⟨t485, A140, H⟩ := Option.bind_eq_some_iff.mp H; have A14 := Aside0.mk A140; clear A140; replace H : ∃ y_ : List Int, y_ = (([] : List Int)) ∧ (if t485 = 0 then ((rf_In.f a1 0 20).bind fun t489 => (lw_WoolLooks.j0 k a1 t481 t482 t483 t485 y_ (!t489) l0_0 l0_1)) else (lw_WoolLooks.j0 k a1 t481 t482 t483 t485 y_ false l0_0 l0_1)) = some r := ⟨_, rfl, sqJ H⟩; obtain ⟨y486, hy486, H⟩ := H; have Ny486 := Aside0.mk hy486; clear hy486; have HC15 := Aside0.mk H; clear H; go_enter Tryd.func7, Tryd.ntmps7
   go_upto_region 8 with (first | ((with_reducible refine gate_dst (N := 2) rfl ?_); refine box_event ?hg (N := 2) ?hd (cs := #[.slice A0_0 l0_0.length c0_0, .slice A0_1 l0_1.length c0_1]) (t := 25) ?hr ?_; (case hd => rfl); (case hg => rfl); (case hr => first | (go_simp; done) | (go_simp; rfl)); intro gb471 hg w16 hbox hb; have BK471 := Aside0.mk (hbox); have GW471 := Aside0.mk (sqZ hg HB); have GE471 := Aside0.mk (sqZ hg HB); replace HB := sqb hb HB; clear hb hbox hg; have hcz17_0 := sqc0 BK471; have hcz17_1 := sqc1 BK471; have hfz17_0 := blk_frozen BK471.out 0; have hfz17_1 := blk_frozen BK471.out 1) | ((with_reducible refine gate_callee (f := 16) rfl ?_); refine goesL_ (some 14) rfl rfl Tryd.func16 sqF rfl #[.agg #[.slice A0_0 l0_0.length c0_0, .slice A0_1 l0_1.length c0_1]] rfl sqM ?_; (with_reducible refine (lw_long.calls _ _ l0_0 _ _ l0_1 false _ ?side1 ?side2 ?side3 ?side4 A3.out).mono ?_); (case side1 => exact sqQ HR0_0 HB); (case side2 => exact HC0_0.out); (case side3 => exact sqQ HR0_1 HB); (case side4 => exact HC0_1.out); rintro e w18 ⟨rfl, hb⟩; refine ⟨_, rfl, ?_⟩; replace BK471 := sqk BK471 hb; replace HB := sqb hb HB; (try clear hb); (try clear hb2); (try clear hk); (try clear hi); have hcz19_0 := sqc0 BK471; have hcz19_1 := sqc1 BK471; have hfz19_0 := blk_frozen BK471.out 0; have hfz19_1 := blk_frozen BK471.out 1) | ((with_reducible refine gate_callee (f := 18) rfl ?_); refine goesL_ (some 17) rfl rfl Tryd.func18 sqF rfl #[.agg #[.slice A0_0 l0_0.length c0_0, .slice A0_1 l0_1.length c0_1]] rfl sqM ?_; (with_reducible refine (rf_Copy.calls _ _ l0_0 _ _ l0_1 t474 t477 _ ?side1 ?side2 ?side3 ?side4 A10.out).mono ?_); (case side1 => exact sqQ HR0_0 HB); (case side2 => exact HC0_0.out); (case side3 => exact sqQ HR0_1 HB); (case side4 => exact HC0_1.out); rintro e w20 ⟨v475, v478, rfl, ho0, ho1, hb⟩; refine ⟨_, rfl, ?_⟩; have HO476 := Aside0.mk (Kd.R_lower ho0 (below_size (sqB HB))); have HO479 := Aside0.mk (Kd.R_lower ho1 (below_size (sqB HB))); replace BK471 := sqk BK471 hb; replace HB := sqb hb HB; (try clear hb); (try clear hb2); (try clear hk); (try clear hi); (try clear ho0); (try clear ho1)) | ((with_reducible refine gate_dst (N := 5) rfl ?_); refine box_event ?hg (N := 5) ?hd (cs := #[.slice none 0 0, .slice none 0 0]) (t := 25) ?hr ?_; (case hd => rfl); (case hg => rfl); (case hr => first | (go_simp; done) | (go_simp; rfl)); intro gb480 hg w21 hbox hb; replace HO476 := Aside0.mk (Kd.R_below (sqR HO476) hb); replace HO479 := Aside0.mk (Kd.R_below (sqR HO479) hb); have BK480 := Aside0.mk (hbox); have GW480 := Aside0.mk (sqZ hg HB); have GE480 := Aside0.mk (sqZ hg HB); replace HB := sqb hb HB; have NB471_480 := Aside0.mk (sqL hg BK471); have NB480_471 := Aside0.mk (sqG hg BK471); replace BK471 := sqk BK471 hb; clear hb hbox hg; obtain ⟨Ao22, co22, eo22⟩ := Kd.R_slice HO476.out; subst eo22; have hnb23 := NB480_471.out; have hnc23 := NB471_480.out; have hcz24_0 := sqc0 BK480; have hcz24_1 := sqc1 BK480; have hfz24_0 := blk_frozen BK480.out 0; have hfz24_1 := blk_frozen BK480.out 1; obtain ⟨Ao25, co25, eo25⟩ := Kd.R_slice HO479.out; subst eo25) | ((with_reducible refine gate_callee (f := 39) rfl ?_); refine goesL_ (some 21) rfl rfl Tryd.func39 sqF rfl #[.agg #[.slice Ao22 t474.length co22, .slice Ao25 t477.length co25], .int .i64 a1] rfl sqM ?_; (with_reducible refine (wool_Look.calls _ _ t474 _ _ t477 a1 t481 t482 t483 _ ?sideG ?side1 ?side2 ?side3 ?side4 A11.out).mono ?_); (case sideG => exact (Kd.C_below HGL.out (sqB HB))); (case side1 => refine (Kd.R_reads' (e := 41) (base := w.heap.size) (ok := fun k_ => True) (n := t474.length) (c := co22) ?_).2.2; exact (by (with_reducible repeat (first | apply Kd.R_alloc | apply Kd.R_drewN | apply Kd.R_drew)); exact (Kd.R_mono (Kd.R_far (p := ⟨gb480, 1, none⟩) (Kd.R_far (p := ⟨gb480, 0, none⟩) (Kd.R_types HO476.out BK480.out (by decide)) (fun _ hk => hk.2) (.slice Ao22 t474.length co22)) (fun _ hk => hk.2) (.slice Ao25 t477.length co25)) (fun _ h_ => h_.1)))); (case side2 => exact (Kd.R_reads' HO476.out).2.1); (case side3 => refine (Kd.R_reads' (e := 80) (base := w.heap.size) (ok := fun k_ => True) (n := t477.length) (c := co25) ?_).2.2; exact (by (with_reducible repeat (first | apply Kd.R_alloc | apply Kd.R_drewN | apply Kd.R_drew)); exact (Kd.R_mono (Kd.R_far (p := ⟨gb480, 1, none⟩) (Kd.R_far (p := ⟨gb480, 0, none⟩) (Kd.R_types HO479.out BK480.out (by decide)) (fun _ hk => hk.2) (.slice Ao22 t474.length co22)) (fun _ hk => hk.2) (.slice Ao25 t477.length co25)) (fun _ h_ => h_.1)))); (case side4 => exact (Kd.R_reads' HO479.out).2.1); rintro e w26 ⟨rfl, hb⟩; refine ⟨_, rfl, ?_⟩; replace HO476 := Aside0.mk (Kd.R_below (by (with_reducible repeat (first | apply Kd.R_alloc | apply Kd.R_drewN | apply Kd.R_drew)); exact (Kd.R_mono (Kd.R_far (p := ⟨gb480, 1, none⟩) (Kd.R_far (p := ⟨gb480, 0, none⟩) (Kd.R_types HO476.out BK480.out (by decide)) (fun _ hk => hk.2) (.slice Ao22 t474.length co22)) (fun _ hk => hk.2) (.slice Ao25 t477.length co25)) (fun _ h_ => h_.1))) hb); replace HO479 := Aside0.mk (Kd.R_below (by (with_reducible repeat (first | apply Kd.R_alloc | apply Kd.R_drewN | apply Kd.R_drew)); exact (Kd.R_mono (Kd.R_far (p := ⟨gb480, 1, none⟩) (Kd.R_far (p := ⟨gb480, 0, none⟩) (Kd.R_types HO479.out BK480.out (by decide)) (fun _ hk => hk.2) (.slice Ao22 t474.length co22)) (fun _ hk => hk.2) (.slice Ao25 t477.length co25)) (fun _ h_ => h_.1))) hb); replace BK471 := Aside0.mk (blk_below (g := gb471) (o := .cells #[.slice A0_0 l0_0.length c0_0, .slice A0_1 l0_1.length c0_1] 25 (0, 0)) sqX hb); replace BK480 := Aside0.mk (blk_below (g := gb480) (o := .cells #[.slice Ao22 t474.length co22, .slice Ao25 t477.length co25] 25 (0, 0)) (by (with_reducible repeat (first | refine blk_drewN ?_ _ | refine blk_drew ?_ | refine blk_alloc ?_ _)); refine blk_put (cs := #[.slice Ao22 t474.length co22, .slice none 0 0]) ?_ 1 _ rfl; (with_reducible repeat (first | refine blk_drewN ?_ _ | refine blk_drew ?_ | refine blk_alloc ?_ _)); refine blk_put (cs := #[.slice none 0 0, .slice none 0 0]) ?_ 0 _ rfl; (with_reducible repeat (first | refine blk_drewN ?_ _ | refine blk_drew ?_ | refine blk_alloc ?_ _)); exact BK480.out) hb); replace HB := sqb hb HB; (try clear hb); (try clear hb2); (try clear hk); (try clear hi); have hcz27_0 := sqc0 BK480; have hcz27_1 := sqc1 BK480; have hfz27_0 := blk_frozen BK480.out 0; have hfz27_1 := blk_frozen BK480.out 1; have hcz28_0 := sqc0 BK471; have hcz28_1 := sqc1 BK471; have hfz28_0 := blk_frozen BK471.out 0; have hfz28_1 := blk_frozen BK471.out 1) | ((with_reducible refine gate_callee (f := 23) rfl ?_); refine goesL_ (some 27) rfl rfl Tryd.func23 sqF rfl #[.agg #[.slice Ao22 t474.length co22, .slice Ao25 t477.length co25], .agg #[.slice A0_0 l0_0.length c0_0, .slice A0_1 l0_1.length c0_1]] rfl sqM ?_; (with_reducible refine (rf_Same.calls k _ _ t474 _ _ t477 _ _ l0_0 _ _ l0_1 true _ ?side1 ?side2 ?side3 ?side4 ?side5 ?side6 ?side7 ?side8 A12.out).mono ?_); (case side1 => repeat (first | exact (Kd.R_reads' HO476.out).2.2 | (with_reducible refine Kd.C_alloc ?_ _) | (with_reducible refine Kd.C_drewN ?_ _) | (with_reducible refine Kd.C_drew ?_))); (case side2 => exact (Kd.R_reads' HO476.out).2.1); (case side3 => repeat (first | exact (Kd.R_reads' HO479.out).2.2 | (with_reducible refine Kd.C_alloc ?_ _) | (with_reducible refine Kd.C_drewN ?_ _) | (with_reducible refine Kd.C_drew ?_))); (case side4 => exact (Kd.R_reads' HO479.out).2.1); (case side5 => exact sqQ HR0_0 HB); (case side6 => exact HC0_0.out); (case side7 => exact sqQ HR0_1 HB); (case side8 => exact HC0_1.out); rintro e w29 ⟨rfl, hb⟩; refine ⟨_, rfl, ?_⟩; replace HO476 := Aside0.mk (Kd.R_below (sqR HO476) hb); replace HO479 := Aside0.mk (Kd.R_below (sqR HO479) hb); replace BK471 := sqk BK471 hb; replace BK480 := sqk BK480 hb; replace HB := sqb hb HB; (try clear hb); (try clear hb2); (try clear hk); (try clear hi); have hcz30_0 := sqc0 BK471; have hcz30_1 := sqc1 BK471; have hfz30_0 := blk_frozen BK471.out 0; have hfz30_1 := blk_frozen BK471.out 1) | ((with_reducible refine gate_callee (f := 22) rfl ?_); refine goesL_ (some 30) rfl rfl Tryd.func22 sqF rfl #[.agg #[.slice A0_0 l0_0.length c0_0, .slice A0_1 l0_1.length c0_1]] rfl sqM ?_; (with_reducible refine (rf_Check.calls k _ _ l0_0 _ _ l0_1 t485 _ ?side1 ?side2 ?side3 ?side4 A14.out).mono ?_); (case side1 => exact sqQ HR0_0 HB); (case side2 => exact HC0_0.out); (case side3 => exact sqQ HR0_1 HB); (case side4 => exact HC0_1.out); rintro e w31 ⟨rfl, hb⟩; refine ⟨_, rfl, ?_⟩; replace HO476 := Aside0.mk (Kd.R_below (sqR HO476) hb); replace HO479 := Aside0.mk (Kd.R_below (sqR HO479) hb); replace BK471 := sqk BK471 hb; replace BK480 := sqk BK480 hb; replace HB := sqb hb HB; (try clear hb); (try clear hb2); (try clear hk); (try clear hi)) | ((with_reducible refine gate_dst (N := 31) rfl ?_); refine Kd.R_lit (Kd.int .i64) _ 3 ?hg (N := 31) ?hd (xs := ([] : List Int)) (inner := []) (ok := fun _ => True) (okp := fun _ => True) ?hr ?hp (fun _ hk => hk) trivial (Below.refl _ _) (Nat.le_refl _) (by simp) ?_; (case hd => rfl); (case hg => rfl); (case hr => first | (go_simp; done) | (go_simp; rfl)); (case hp => exact (Reps.none _ _)); intro v487 w32 ho33 hb hg_ hnew_; clear hg_ hnew_; (first | rw [← Ny486.out] at ho33 | (simp only [Int.reduceToNat] at ho33; rw [← Ny486.out] at ho33)); replace HO476 := Aside0.mk (Kd.R_below (sqR HO476) hb); replace HO479 := Aside0.mk (Kd.R_below (sqR HO479) hb); have HO488 := Aside0.mk (Kd.R_lower ho33 (below_size (sqB HB))); replace BK471 := sqk BK471 hb; replace BK480 := sqk BK480 hb; replace HB := sqb hb HB; clear hb ho33))
   (try simp only [Act.put, sqA])
   go_cut [38] (fun v38 wc => ∃ (kq : Nat) (x38_14 : Bool), v38 = .bool x38_14 ∧ Aside0 (lw_WoolLooks.j0 kq a1 t481 t482 t483 t485 y486 x38_14 l0_0 l0_1 = some r) ∧ Aside0 (kq ≤ k) ∧ Aside0 (Kd.R (Kd.int .i64) 3 wc w.heap.size (fun _ => True) v487 y486) ∧ Aside0 (Kd.R k41 41 wc w.heap.size (fun _ => True) (.slice Ao22 t474.length co22) t474) ∧ Aside0 (Kd.R k80 80 wc w.heap.size (fun _ => True) (.slice Ao25 t477.length co25) t477) ∧ Aside0 (wc.heap[gb471]? = some (.cells #[(.slice A0_0 l0_0.length c0_0), (.slice A0_1 l0_1.length c0_1)] 25 (0, 0))) ∧ Aside0 (wc.heap[gb480]? = some (.cells #[(.slice Ao22 t474.length co22), (.slice Ao25 t477.length co25)] 25 (0, 0))) ∧ Aside0 (Below w.heap.size w wc))
   case first =>
    have H := HC15.out; clear HC15
    by_cases c34 : t485 = 0
    ·rw [if_pos c34] at H
     have c34b0 : (t485 == 0) = true := beq_iff_eq.mpr c34; have c34b1 : (t485 != 0) = false := bne_eq_false_iff_eq.mpr c34; clear c34
     (first | rw [c34b0] | (simp only [i64_w, i32_w]; rw [c34b0]) | skip)
     obtain ⟨t489, A350, H⟩ := Option.bind_eq_some_iff.mp H; have A35 := Aside0.mk A350; clear A350; have H' := Aside0.mk H; clear H; go_wp2_with (first | (go_at_call 35; (with_reducible refine (rf_In.calls a1 0 20 t489 _ A35.out).mono ?_); rintro e w' ⟨rfl, ⟨nd, rfl⟩⟩))
     go_meet
     case rel => exact ⟨_, (!t489), sqE, H', ⟨by first | omega | exact Nat.le_refl _⟩, ⟨sqR HO488⟩, ⟨sqR HO476⟩, ⟨sqR HO479⟩, ⟨sqK BK471⟩, ⟨sqK BK480⟩, ⟨sqB HB⟩⟩
    ·rw [if_neg c34] at H
     have c34b0 : (t485 == 0) = false := beq_eq_false_iff_ne.mpr c34; have c34b1 : (t485 != 0) = true := bne_iff_ne.mpr c34
     (first | rw [c34b0] | (simp only [i64_w, i32_w]; rw [c34b0]) | skip)
     have H' := Aside0.mk H; clear H; go_wp2
     go_meet
     case rel => exact ⟨_, (false), sqE, H', ⟨by first | omega | exact Nat.le_refl _⟩, ⟨sqR HO488⟩, ⟨sqR HO476⟩, ⟨sqR HO479⟩, ⟨sqK BK471⟩, ⟨sqK BK480⟩, ⟨sqB HB⟩⟩
   case rest =>
    clear HC15; try clear c4
    (try clear c13); (try clear hcz17_0); (try clear hcz17_1); (try clear hcz19_0); (try clear hcz19_1); (try clear hcz24_0); (try clear hcz24_1); (try clear hcz27_0); (try clear hcz27_1); (try clear hcz28_0); (try clear hcz28_1); (try clear hcz30_0); (try clear hcz30_1); (try clear hfz17_0); (try clear hfz17_1); (try clear hfz19_0); (try clear hfz19_1); (try clear hfz24_0); (try clear hfz24_1); (try clear hfz27_0); (try clear hfz27_1); (try clear hfz28_0); (try clear hfz28_1); (try clear hfz30_0); (try clear hfz30_1); obtain ⟨kq, x38_14, rfl, HA, HJ14, HO_10, HO_481000, HO_481001, BK471, BK480, HB⟩ := hcut
    cases kq with
    | zero => exact absurd HA.out (by simp [lw_WoolLooks.j0])
    | succ kj14 =>
     have H := HA.out; clear HA; simp only [lw_WoolLooks.j0] at H; have HC36 := Aside0.mk H
     clear H; go_upto_if 38 with (fail)
     go_cut [9] (fun v9 wc => ∃ (kq : Nat) (x9_35 : Int), v9 = .int .i64 x9_35 ∧ Aside0 (lw_WoolLooks.j1 kq a1 t481 t482 t483 x9_35 y486 l0_0 l0_1 = some r) ∧ Aside0 (kq ≤ kj14) ∧ Aside0 (Kd.R (Kd.int .i64) 3 wc w.heap.size (fun _ => True) v487 y486) ∧ Aside0 (Kd.R k41 41 wc w.heap.size (fun _ => True) (.slice Ao22 t474.length co22) t474) ∧ Aside0 (Kd.R k80 80 wc w.heap.size (fun _ => True) (.slice Ao25 t477.length co25) t477) ∧ Aside0 (wc.heap[gb471]? = some (.cells #[(.slice A0_0 l0_0.length c0_0), (.slice A0_1 l0_1.length c0_1)] 25 (0, 0))) ∧ Aside0 (wc.heap[gb480]? = some (.cells #[(.slice Ao22 t474.length co22), (.slice Ao25 t477.length co25)] 25 (0, 0))) ∧ Aside0 (Below w.heap.size w wc))
     case first =>
      have H := HC36.out; clear HC36
      by_cases c37 : x38_14 = true
      ·subst c37
       rw [if_pos rfl] at H; have H' := Aside0.mk H; clear H; go_wp2
       go_meet
       case rel => exact ⟨_, (3), sqE, H', ⟨by have := HJ14.out; first | omega | exact Nat.le_refl _⟩, ⟨sqR HO_10⟩, ⟨sqR HO_481000⟩, ⟨sqR HO_481001⟩, ⟨sqK BK471⟩, ⟨sqK BK480⟩, ⟨sqB HB⟩⟩
      ·replace c37 := Bool.eq_false_iff.mpr c37
       subst c37; rw [if_neg Bool.false_ne_true] at H; have H' := Aside0.mk H; clear H; go_wp2
       go_meet
       case rel => exact ⟨_, (t485), sqE, H', ⟨by have := HJ14.out; first | omega | exact Nat.le_refl _⟩, ⟨sqR HO_10⟩, ⟨sqR HO_481000⟩, ⟨sqR HO_481001⟩, ⟨sqK BK471⟩, ⟨sqK BK480⟩, ⟨sqB HB⟩⟩
     case rest =>
      clear HC36; obtain ⟨kq, x9_35, rfl, HA, HJ35, HO_10, HO_481000, HO_481001, BK471, BK480, HB⟩ := hcut
      cases kq with
      | zero => exact absurd HA.out (by simp [lw_WoolLooks.j1])
      | succ kj35 =>
       have H := HA.out; clear HA; simp only [lw_WoolLooks.j1] at H; have HC38 := Aside0.mk H
       clear H; go_upto_if 40 with (fail)
       go_cut [9, 10] (fun v9 v10 wc => ∃ (kq : Nat) (x9_37 : Int) (x10_37 : List Int), v9 = .int .i64 x9_37 ∧ Aside0 (lw_WoolLooks.j2 kq a1 t481 t482 t483 x9_37 x10_37 l0_0 l0_1 = some r) ∧ Aside0 (kq ≤ kj35) ∧ Aside0 (Kd.R (Kd.int .i64) 3 wc w.heap.size (fun _ => True) v10 x10_37) ∧ Aside0 (Kd.R k41 41 wc w.heap.size (fun _ => True) (.slice Ao22 t474.length co22) t474) ∧ Aside0 (Kd.R k80 80 wc w.heap.size (fun _ => True) (.slice Ao25 t477.length co25) t477) ∧ Aside0 (wc.heap[gb471]? = some (.cells #[(.slice A0_0 l0_0.length c0_0), (.slice A0_1 l0_1.length c0_1)] 25 (0, 0))) ∧ Aside0 (wc.heap[gb480]? = some (.cells #[(.slice Ao22 t474.length co22), (.slice Ao25 t477.length co25)] 25 (0, 0))) ∧ Aside0 (Below w.heap.size w wc))
       case first =>
        have H := HC38.out; clear HC38
        by_cases c39 : x9_35 = 0
        ·rw [if_pos c39] at H
         have c39b0 : (x9_35 == 0) = true := beq_iff_eq.mpr c39; have c39b1 : (x9_35 != 0) = false := bne_eq_false_iff_eq.mpr c39; clear c39
         (first | rw [c39b0] | (simp only [i64_w, i32_w]; rw [c39b0]) | skip)
         obtain ⟨⟨t490, t493⟩, A400, H⟩ := Option.bind_eq_some_iff.mp H; replace H : (lw_WoolLooks.j2 kj35 a1 t481 t482 t483 t493 t490 l0_0 l0_1) = some r := H; have A40 := Aside0.mk A400; clear A400; have H' := Aside0.mk H; clear H; have hnb41 := NB471_480.out; have hnc41 := NB480_471.out; have hcz42_0 := sqc0 BK471; have hcz42_1 := sqc1 BK471; have hfz42_0 := blk_frozen BK471.out 0; have hfz42_1 := blk_frozen BK471.out 1
         go_wp2_with (first | ((with_reducible refine gate_callee (f := 33) rfl ?_); refine goesL_ (some 43) rfl rfl Tryd.func33 sqF rfl #[.agg #[.slice A0_0 l0_0.length c0_0, .slice A0_1 l0_1.length c0_1]] rfl sqM ?_; (with_reducible refine (rf_Stolen.calls kj35 _ _ l0_0 _ _ l0_1 t490 t493 _ ?side1 ?side2 ?side3 ?side4 A40.out).mono ?_); (case side1 => exact sqQ HR0_0 HB); (case side2 => exact HC0_0.out); (case side3 => exact sqQ HR0_1 HB); (case side4 => exact HC0_1.out); rintro e w43 ⟨v491, rfl, ho0, hb⟩; refine ⟨_, rfl, ?_⟩; replace HO_481000 := Aside0.mk (Kd.R_below (sqR HO_481000) hb); replace HO_481001 := Aside0.mk (Kd.R_below (sqR HO_481001) hb); have HO492 := Aside0.mk (Kd.R_lower (Kd.R_new' ho0 (Kd.R_lt (sqR HO_10))) (below_size (sqB HB))); replace HO_10 := Aside0.mk (Kd.R_elder' (sqR HO_10) (Kd.R_base ho0) hb); replace BK471 := sqk BK471 hb; replace BK480 := sqk BK480 hb; replace HB := sqb hb HB; (try clear hb); (try clear hb2); (try clear hk); (try clear hi); (try clear ho0)))
         go_meet
         case rel => exact ⟨_, (t493), (t490), sqE, H', ⟨by have := HJ14.out; have := HJ35.out; first | omega | exact Nat.le_refl _⟩, ⟨by (with_reducible repeat (first | apply Kd.R_alloc | apply Kd.R_drewN | apply Kd.R_drew)); exact Kd.R_mono HO492.out (fun _ hk => trivial)⟩, ⟨sqR HO_481000⟩, ⟨sqR HO_481001⟩, ⟨sqK BK471⟩, ⟨sqK BK480⟩, ⟨sqB HB⟩⟩
        ·rw [if_neg c39] at H
         have c39b0 : (x9_35 == 0) = false := beq_eq_false_iff_ne.mpr c39; have c39b1 : (x9_35 != 0) = true := bne_iff_ne.mpr c39
         (first | rw [c39b0] | (simp only [i64_w, i32_w]; rw [c39b0]) | skip)
         have H' := Aside0.mk H; clear H; go_wp2
         go_meet
         case rel => exact ⟨_, (x9_35), (y486), sqE, H', ⟨by have := HJ14.out; have := HJ35.out; first | omega | exact Nat.le_refl _⟩, ⟨sqR HO_10⟩, ⟨sqR HO_481000⟩, ⟨sqR HO_481001⟩, ⟨sqK BK471⟩, ⟨sqK BK480⟩, ⟨sqB HB⟩⟩
       case rest =>
        clear HC38; obtain ⟨kq, x9_37, x10_37, rfl, HA, HJ37, HO_10, HO_481000, HO_481001, BK471, BK480, HB⟩ := hcut
        cases kq with
        | zero => exact absurd HA.out (by simp [lw_WoolLooks.j2])
        | succ kj37 =>
         have H := HA.out; clear HA; simp only [lw_WoolLooks.j2] at H
         by_cases c44 : x9_37 = 0
         ·rw [if_pos c44] at H
          have c44b0 : (x9_37 == 0) = true := beq_iff_eq.mpr c44; have c44b1 : (x9_37 != 0) = false := bne_eq_false_iff_eq.mpr c44; clear c44; obtain ⟨⟨t494, t495⟩, A450, H⟩ := Option.bind_eq_some_iff.mp H; replace H : (if t494 ≥ 0 then (if t483 = 0 then (if t481 = t494 then (if t482 = t495 then ((lw_known.f).bind fun t496 => (some t496)) else (some false)) else (some false)) else (some false)) else (if t483 = 7 then (if t481 = 0 then (if t482 = 0 then ((lw_known.f).bind fun t497 => (some t497)) else (some false)) else (some false)) else (some false))) = some r := H; have A45 := Aside0.mk A450; clear A450
          by_cases c46 : t494 ≥ 0
          ·rw [if_pos c46] at H
           have c46b0 : decide (0 ≤ t494) = true := decide_eq_true c46; clear c46
           by_cases c47 : t483 = 0
           ·rw [if_pos c47] at H
            have c47b0 : (t483 == 0) = true := beq_iff_eq.mpr c47; have c47b1 : (t483 != 0) = false := bne_eq_false_iff_eq.mpr c47; clear c47
            by_cases c48 : t481 = t494
            ·rw [if_pos c48] at H
             have c48b0 : (t481 == t494) = true := beq_iff_eq.mpr c48; have c48b1 : (t481 != t494) = false := bne_eq_false_iff_eq.mpr c48; clear c48
             by_cases c49 : t482 = t495
             ·rw [if_pos c49] at H
              have c49b0 : (t482 == t495) = true := beq_iff_eq.mpr c49; have c49b1 : (t482 != t495) = false := bne_eq_false_iff_eq.mpr c49; clear c49; obtain ⟨t496, A500, H⟩ := Option.bind_eq_some_iff.mp H; have A50 := Aside0.mk A500; clear A500; obtain rfl := Option.some.inj H; have hnb51 := NB471_480.out; have hnc51 := NB480_471.out; have hcz52_0 := sqc0 BK471; have hcz52_1 := sqc1 BK471; have hfz52_0 := blk_frozen BK471.out 0; have hfz52_1 := blk_frozen BK471.out 1; obtain ⟨Ao53, co53, eo53⟩ := Kd.R_slice HO_10.out; subst eo53
              go_wp2_with (first | ((with_reducible refine gate_callee (f := 40) rfl ?_); refine goesL_ (some 52) rfl rfl Tryd.func40 sqF rfl #[.agg #[.slice A0_0 l0_0.length c0_0, .slice A0_1 l0_1.length c0_1], .slice Ao53 x10_37.length co53, .int .i64 a1] rfl sqM ?_; (with_reducible refine (rf_Look.calls kj37 _ _ l0_0 _ _ l0_1 _ _ x10_37 a1 t494 t495 _ ?side1 ?side2 ?side3 ?side4 ?side5 ?side6 A45.out).mono ?_); (case side1 => exact sqQ HR0_0 HB); (case side2 => exact HC0_0.out); (case side3 => exact sqQ HR0_1 HB); (case side4 => exact HC0_1.out); (case side5 => repeat (first | exact (Kd.R_reads' HO_10.out).2.2 | (with_reducible refine Kd.C_alloc ?_ _) | (with_reducible refine Kd.C_drewN ?_ _) | (with_reducible refine Kd.C_drew ?_))); (case side6 => exact (Kd.R_reads' HO_10.out).2.1); rintro e w54 ⟨rfl, hb⟩; refine ⟨_, rfl, ?_⟩; replace HO_10 := Aside0.mk (Kd.R_below (sqR HO_10) hb); replace HO_481000 := Aside0.mk (Kd.R_below (sqR HO_481000) hb); replace HO_481001 := Aside0.mk (Kd.R_below (sqR HO_481001) hb); replace BK471 := sqk BK471 hb; replace BK480 := sqk BK480 hb; replace HB := sqb hb HB; (try clear hb); (try clear hb2); (try clear hk); (try clear hi)) | (go_at_call 17; (with_reducible refine (lw_known.calls t496 _ ?sideG A50.out).mono ?_); (case sideG => exact (Kd.C_below HGL.out (sqB HB))); rintro e w55 ⟨rfl, hb⟩; replace HO_10 := Aside0.mk (Kd.R_below (sqR HO_10) hb); replace HO_481000 := Aside0.mk (Kd.R_below (sqR HO_481000) hb); replace HO_481001 := Aside0.mk (Kd.R_below (sqR HO_481001) hb); replace BK471 := sqk BK471 hb; replace BK480 := sqk BK480 hb; replace HB := sqb hb HB; (try clear hb); (try clear hb2); (try clear hk); (try clear hi)))
              go_ret
              exact ⟨by first | rfl | (simp [errW_none, errW_some] <;> rfl) | (simp [*, errW_none, errW_some] <;> rfl), sqB HB⟩
             ·rw [if_neg c49] at H
              have c49b0 : (t482 == t495) = false := beq_eq_false_iff_ne.mpr c49; have c49b1 : (t482 != t495) = true := bne_iff_ne.mpr c49; obtain rfl := Option.some.inj H; have hnb56 := NB471_480.out; have hnc56 := NB480_471.out; have hcz57_0 := sqc0 BK471; have hcz57_1 := sqc1 BK471; have hfz57_0 := blk_frozen BK471.out 0; have hfz57_1 := blk_frozen BK471.out 1; obtain ⟨Ao58, co58, eo58⟩ := Kd.R_slice HO_10.out; subst eo58
              go_wp2_with (first | ((with_reducible refine gate_callee (f := 40) rfl ?_); refine goesL_ (some 52) rfl rfl Tryd.func40 sqF rfl #[.agg #[.slice A0_0 l0_0.length c0_0, .slice A0_1 l0_1.length c0_1], .slice Ao58 x10_37.length co58, .int .i64 a1] rfl sqM ?_; (with_reducible refine (rf_Look.calls kj37 _ _ l0_0 _ _ l0_1 _ _ x10_37 a1 t494 t495 _ ?side1 ?side2 ?side3 ?side4 ?side5 ?side6 A45.out).mono ?_); (case side1 => exact sqQ HR0_0 HB); (case side2 => exact HC0_0.out); (case side3 => exact sqQ HR0_1 HB); (case side4 => exact HC0_1.out); (case side5 => repeat (first | exact (Kd.R_reads' HO_10.out).2.2 | (with_reducible refine Kd.C_alloc ?_ _) | (with_reducible refine Kd.C_drewN ?_ _) | (with_reducible refine Kd.C_drew ?_))); (case side6 => exact (Kd.R_reads' HO_10.out).2.1); rintro e w59 ⟨rfl, hb⟩; refine ⟨_, rfl, ?_⟩; replace HO_10 := Aside0.mk (Kd.R_below (sqR HO_10) hb); replace HO_481000 := Aside0.mk (Kd.R_below (sqR HO_481000) hb); replace HO_481001 := Aside0.mk (Kd.R_below (sqR HO_481001) hb); replace BK471 := sqk BK471 hb; replace BK480 := sqk BK480 hb; replace HB := sqb hb HB; (try clear hb); (try clear hb2); (try clear hk); (try clear hi)))
              go_ret
              exact ⟨by first | rfl | (simp [errW_none, errW_some] <;> rfl) | (simp [*, errW_none, errW_some] <;> rfl), sqB HB⟩
            ·rw [if_neg c48] at H
             have c48b0 : (t481 == t494) = false := beq_eq_false_iff_ne.mpr c48; have c48b1 : (t481 != t494) = true := bne_iff_ne.mpr c48; obtain rfl := Option.some.inj H; have hnb60 := NB471_480.out; have hnc60 := NB480_471.out; have hcz61_0 := sqc0 BK471; have hcz61_1 := sqc1 BK471; have hfz61_0 := blk_frozen BK471.out 0; have hfz61_1 := blk_frozen BK471.out 1; obtain ⟨Ao62, co62, eo62⟩ := Kd.R_slice HO_10.out; subst eo62
             go_wp2_with (first | ((with_reducible refine gate_callee (f := 40) rfl ?_); refine goesL_ (some 52) rfl rfl Tryd.func40 sqF rfl #[.agg #[.slice A0_0 l0_0.length c0_0, .slice A0_1 l0_1.length c0_1], .slice Ao62 x10_37.length co62, .int .i64 a1] rfl sqM ?_; (with_reducible refine (rf_Look.calls kj37 _ _ l0_0 _ _ l0_1 _ _ x10_37 a1 t494 t495 _ ?side1 ?side2 ?side3 ?side4 ?side5 ?side6 A45.out).mono ?_); (case side1 => exact sqQ HR0_0 HB); (case side2 => exact HC0_0.out); (case side3 => exact sqQ HR0_1 HB); (case side4 => exact HC0_1.out); (case side5 => repeat (first | exact (Kd.R_reads' HO_10.out).2.2 | (with_reducible refine Kd.C_alloc ?_ _) | (with_reducible refine Kd.C_drewN ?_ _) | (with_reducible refine Kd.C_drew ?_))); (case side6 => exact (Kd.R_reads' HO_10.out).2.1); rintro e w63 ⟨rfl, hb⟩; refine ⟨_, rfl, ?_⟩; replace HO_10 := Aside0.mk (Kd.R_below (sqR HO_10) hb); replace HO_481000 := Aside0.mk (Kd.R_below (sqR HO_481000) hb); replace HO_481001 := Aside0.mk (Kd.R_below (sqR HO_481001) hb); replace BK471 := sqk BK471 hb; replace BK480 := sqk BK480 hb; replace HB := sqb hb HB; (try clear hb); (try clear hb2); (try clear hk); (try clear hi)))
             go_ret
             exact ⟨by first | rfl | (simp [errW_none, errW_some] <;> rfl) | (simp [*, errW_none, errW_some] <;> rfl), sqB HB⟩
           ·rw [if_neg c47] at H
            have c47b0 : (t483 == 0) = false := beq_eq_false_iff_ne.mpr c47; have c47b1 : (t483 != 0) = true := bne_iff_ne.mpr c47; obtain rfl := Option.some.inj H; have hnb64 := NB471_480.out; have hnc64 := NB480_471.out; have hcz65_0 := sqc0 BK471; have hcz65_1 := sqc1 BK471; have hfz65_0 := blk_frozen BK471.out 0; have hfz65_1 := blk_frozen BK471.out 1; obtain ⟨Ao66, co66, eo66⟩ := Kd.R_slice HO_10.out; subst eo66
            go_wp2_with (first | ((with_reducible refine gate_callee (f := 40) rfl ?_); refine goesL_ (some 52) rfl rfl Tryd.func40 sqF rfl #[.agg #[.slice A0_0 l0_0.length c0_0, .slice A0_1 l0_1.length c0_1], .slice Ao66 x10_37.length co66, .int .i64 a1] rfl sqM ?_; (with_reducible refine (rf_Look.calls kj37 _ _ l0_0 _ _ l0_1 _ _ x10_37 a1 t494 t495 _ ?side1 ?side2 ?side3 ?side4 ?side5 ?side6 A45.out).mono ?_); (case side1 => exact sqQ HR0_0 HB); (case side2 => exact HC0_0.out); (case side3 => exact sqQ HR0_1 HB); (case side4 => exact HC0_1.out); (case side5 => repeat (first | exact (Kd.R_reads' HO_10.out).2.2 | (with_reducible refine Kd.C_alloc ?_ _) | (with_reducible refine Kd.C_drewN ?_ _) | (with_reducible refine Kd.C_drew ?_))); (case side6 => exact (Kd.R_reads' HO_10.out).2.1); rintro e w67 ⟨rfl, hb⟩; refine ⟨_, rfl, ?_⟩; replace HO_10 := Aside0.mk (Kd.R_below (sqR HO_10) hb); replace HO_481000 := Aside0.mk (Kd.R_below (sqR HO_481000) hb); replace HO_481001 := Aside0.mk (Kd.R_below (sqR HO_481001) hb); replace BK471 := sqk BK471 hb; replace BK480 := sqk BK480 hb; replace HB := sqb hb HB; (try clear hb); (try clear hb2); (try clear hk); (try clear hi)))
            go_ret
            exact ⟨by first | rfl | (simp [errW_none, errW_some] <;> rfl) | (simp [*, errW_none, errW_some] <;> rfl), sqB HB⟩
          ·rw [if_neg c46] at H
           have c46b0 : decide (0 ≤ t494) = false := decide_eq_false c46; clear c46
           by_cases c68 : t483 = 7
           ·rw [if_pos c68] at H
            have c68b0 : (t483 == 7) = true := beq_iff_eq.mpr c68; have c68b1 : (t483 != 7) = false := bne_eq_false_iff_eq.mpr c68; clear c68
            by_cases c69 : t481 = 0
            ·rw [if_pos c69] at H
             have c69b0 : (t481 == 0) = true := beq_iff_eq.mpr c69; have c69b1 : (t481 != 0) = false := bne_eq_false_iff_eq.mpr c69; clear c69
             by_cases c70 : t482 = 0
             ·rw [if_pos c70] at H
              have c70b0 : (t482 == 0) = true := beq_iff_eq.mpr c70; have c70b1 : (t482 != 0) = false := bne_eq_false_iff_eq.mpr c70; clear c70; obtain ⟨t497, A710, H⟩ := Option.bind_eq_some_iff.mp H; have A71 := Aside0.mk A710; clear A710; obtain rfl := Option.some.inj H; have hnb72 := NB471_480.out; have hnc72 := NB480_471.out; have hcz73_0 := sqc0 BK471; have hcz73_1 := sqc1 BK471; have hfz73_0 := blk_frozen BK471.out 0; have hfz73_1 := blk_frozen BK471.out 1; obtain ⟨Ao74, co74, eo74⟩ := Kd.R_slice HO_10.out; subst eo74
              go_wp2_with (first | ((with_reducible refine gate_callee (f := 40) rfl ?_); refine goesL_ (some 52) rfl rfl Tryd.func40 sqF rfl #[.agg #[.slice A0_0 l0_0.length c0_0, .slice A0_1 l0_1.length c0_1], .slice Ao74 x10_37.length co74, .int .i64 a1] rfl sqM ?_; (with_reducible refine (rf_Look.calls kj37 _ _ l0_0 _ _ l0_1 _ _ x10_37 a1 t494 t495 _ ?side1 ?side2 ?side3 ?side4 ?side5 ?side6 A45.out).mono ?_); (case side1 => exact sqQ HR0_0 HB); (case side2 => exact HC0_0.out); (case side3 => exact sqQ HR0_1 HB); (case side4 => exact HC0_1.out); (case side5 => repeat (first | exact (Kd.R_reads' HO_10.out).2.2 | (with_reducible refine Kd.C_alloc ?_ _) | (with_reducible refine Kd.C_drewN ?_ _) | (with_reducible refine Kd.C_drew ?_))); (case side6 => exact (Kd.R_reads' HO_10.out).2.1); rintro e w75 ⟨rfl, hb⟩; refine ⟨_, rfl, ?_⟩; replace HO_10 := Aside0.mk (Kd.R_below (sqR HO_10) hb); replace HO_481000 := Aside0.mk (Kd.R_below (sqR HO_481000) hb); replace HO_481001 := Aside0.mk (Kd.R_below (sqR HO_481001) hb); replace BK471 := sqk BK471 hb; replace BK480 := sqk BK480 hb; replace HB := sqb hb HB; (try clear hb); (try clear hb2); (try clear hk); (try clear hi)) | (go_at_call 17; (with_reducible refine (lw_known.calls t497 _ ?sideG A71.out).mono ?_); (case sideG => exact (Kd.C_below HGL.out (sqB HB))); rintro e w76 ⟨rfl, hb⟩; replace HO_10 := Aside0.mk (Kd.R_below (sqR HO_10) hb); replace HO_481000 := Aside0.mk (Kd.R_below (sqR HO_481000) hb); replace HO_481001 := Aside0.mk (Kd.R_below (sqR HO_481001) hb); replace BK471 := sqk BK471 hb; replace BK480 := sqk BK480 hb; replace HB := sqb hb HB; (try clear hb); (try clear hb2); (try clear hk); (try clear hi)))
              go_ret
              exact ⟨by first | rfl | (simp [errW_none, errW_some] <;> rfl) | (simp [*, errW_none, errW_some] <;> rfl), sqB HB⟩
             ·rw [if_neg c70] at H
              have c70b0 : (t482 == 0) = false := beq_eq_false_iff_ne.mpr c70; have c70b1 : (t482 != 0) = true := bne_iff_ne.mpr c70; obtain rfl := Option.some.inj H; have hnb77 := NB471_480.out; have hnc77 := NB480_471.out; have hcz78_0 := sqc0 BK471; have hcz78_1 := sqc1 BK471; have hfz78_0 := blk_frozen BK471.out 0; have hfz78_1 := blk_frozen BK471.out 1; obtain ⟨Ao79, co79, eo79⟩ := Kd.R_slice HO_10.out; subst eo79
              go_wp2_with (first | ((with_reducible refine gate_callee (f := 40) rfl ?_); refine goesL_ (some 52) rfl rfl Tryd.func40 sqF rfl #[.agg #[.slice A0_0 l0_0.length c0_0, .slice A0_1 l0_1.length c0_1], .slice Ao79 x10_37.length co79, .int .i64 a1] rfl sqM ?_; (with_reducible refine (rf_Look.calls kj37 _ _ l0_0 _ _ l0_1 _ _ x10_37 a1 t494 t495 _ ?side1 ?side2 ?side3 ?side4 ?side5 ?side6 A45.out).mono ?_); (case side1 => exact sqQ HR0_0 HB); (case side2 => exact HC0_0.out); (case side3 => exact sqQ HR0_1 HB); (case side4 => exact HC0_1.out); (case side5 => repeat (first | exact (Kd.R_reads' HO_10.out).2.2 | (with_reducible refine Kd.C_alloc ?_ _) | (with_reducible refine Kd.C_drewN ?_ _) | (with_reducible refine Kd.C_drew ?_))); (case side6 => exact (Kd.R_reads' HO_10.out).2.1); rintro e w80 ⟨rfl, hb⟩; refine ⟨_, rfl, ?_⟩; replace HO_10 := Aside0.mk (Kd.R_below (sqR HO_10) hb); replace HO_481000 := Aside0.mk (Kd.R_below (sqR HO_481000) hb); replace HO_481001 := Aside0.mk (Kd.R_below (sqR HO_481001) hb); replace BK471 := sqk BK471 hb; replace BK480 := sqk BK480 hb; replace HB := sqb hb HB; (try clear hb); (try clear hb2); (try clear hk); (try clear hi)))
              go_ret
              exact ⟨by first | rfl | (simp [errW_none, errW_some] <;> rfl) | (simp [*, errW_none, errW_some] <;> rfl), sqB HB⟩
            ·rw [if_neg c69] at H
             have c69b0 : (t481 == 0) = false := beq_eq_false_iff_ne.mpr c69; have c69b1 : (t481 != 0) = true := bne_iff_ne.mpr c69; obtain rfl := Option.some.inj H; have hnb81 := NB471_480.out; have hnc81 := NB480_471.out; have hcz82_0 := sqc0 BK471; have hcz82_1 := sqc1 BK471; have hfz82_0 := blk_frozen BK471.out 0; have hfz82_1 := blk_frozen BK471.out 1; obtain ⟨Ao83, co83, eo83⟩ := Kd.R_slice HO_10.out; subst eo83
             go_wp2_with (first | ((with_reducible refine gate_callee (f := 40) rfl ?_); refine goesL_ (some 52) rfl rfl Tryd.func40 sqF rfl #[.agg #[.slice A0_0 l0_0.length c0_0, .slice A0_1 l0_1.length c0_1], .slice Ao83 x10_37.length co83, .int .i64 a1] rfl sqM ?_; (with_reducible refine (rf_Look.calls kj37 _ _ l0_0 _ _ l0_1 _ _ x10_37 a1 t494 t495 _ ?side1 ?side2 ?side3 ?side4 ?side5 ?side6 A45.out).mono ?_); (case side1 => exact sqQ HR0_0 HB); (case side2 => exact HC0_0.out); (case side3 => exact sqQ HR0_1 HB); (case side4 => exact HC0_1.out); (case side5 => repeat (first | exact (Kd.R_reads' HO_10.out).2.2 | (with_reducible refine Kd.C_alloc ?_ _) | (with_reducible refine Kd.C_drewN ?_ _) | (with_reducible refine Kd.C_drew ?_))); (case side6 => exact (Kd.R_reads' HO_10.out).2.1); rintro e w84 ⟨rfl, hb⟩; refine ⟨_, rfl, ?_⟩; replace HO_10 := Aside0.mk (Kd.R_below (sqR HO_10) hb); replace HO_481000 := Aside0.mk (Kd.R_below (sqR HO_481000) hb); replace HO_481001 := Aside0.mk (Kd.R_below (sqR HO_481001) hb); replace BK471 := sqk BK471 hb; replace BK480 := sqk BK480 hb; replace HB := sqb hb HB; (try clear hb); (try clear hb2); (try clear hk); (try clear hi)))
             go_ret
             exact ⟨by first | rfl | (simp [errW_none, errW_some] <;> rfl) | (simp [*, errW_none, errW_some] <;> rfl), sqB HB⟩
           ·rw [if_neg c68] at H
            have c68b0 : (t483 == 7) = false := beq_eq_false_iff_ne.mpr c68; have c68b1 : (t483 != 7) = true := bne_iff_ne.mpr c68; obtain rfl := Option.some.inj H; have hnb85 := NB471_480.out; have hnc85 := NB480_471.out; have hcz86_0 := sqc0 BK471; have hcz86_1 := sqc1 BK471; have hfz86_0 := blk_frozen BK471.out 0; have hfz86_1 := blk_frozen BK471.out 1; obtain ⟨Ao87, co87, eo87⟩ := Kd.R_slice HO_10.out; subst eo87
            go_wp2_with (first | ((with_reducible refine gate_callee (f := 40) rfl ?_); refine goesL_ (some 52) rfl rfl Tryd.func40 sqF rfl #[.agg #[.slice A0_0 l0_0.length c0_0, .slice A0_1 l0_1.length c0_1], .slice Ao87 x10_37.length co87, .int .i64 a1] rfl sqM ?_; (with_reducible refine (rf_Look.calls kj37 _ _ l0_0 _ _ l0_1 _ _ x10_37 a1 t494 t495 _ ?side1 ?side2 ?side3 ?side4 ?side5 ?side6 A45.out).mono ?_); (case side1 => exact sqQ HR0_0 HB); (case side2 => exact HC0_0.out); (case side3 => exact sqQ HR0_1 HB); (case side4 => exact HC0_1.out); (case side5 => repeat (first | exact (Kd.R_reads' HO_10.out).2.2 | (with_reducible refine Kd.C_alloc ?_ _) | (with_reducible refine Kd.C_drewN ?_ _) | (with_reducible refine Kd.C_drew ?_))); (case side6 => exact (Kd.R_reads' HO_10.out).2.1); rintro e w88 ⟨rfl, hb⟩; refine ⟨_, rfl, ?_⟩; replace HO_10 := Aside0.mk (Kd.R_below (sqR HO_10) hb); replace HO_481000 := Aside0.mk (Kd.R_below (sqR HO_481000) hb); replace HO_481001 := Aside0.mk (Kd.R_below (sqR HO_481001) hb); replace BK471 := sqk BK471 hb; replace BK480 := sqk BK480 hb; replace HB := sqb hb HB; (try clear hb); (try clear hb2); (try clear hk); (try clear hi)))
            go_ret
            exact ⟨by first | rfl | (simp [errW_none, errW_some] <;> rfl) | (simp [*, errW_none, errW_some] <;> rfl), sqB HB⟩
         ·rw [if_neg c44] at H
          have c44b0 : (x9_37 == 0) = false := beq_eq_false_iff_ne.mpr c44; have c44b1 : (x9_37 != 0) = true := bne_iff_ne.mpr c44
          by_cases c89 : t483 = x9_37
          ·rw [if_pos c89] at H
           have c89b0 : (t483 == x9_37) = true := beq_iff_eq.mpr c89; have c89b1 : (t483 != x9_37) = false := bne_eq_false_iff_eq.mpr c89; clear c89
           by_cases c90 : t481 = 0
           ·rw [if_pos c90] at H
            have c90b0 : (t481 == 0) = true := beq_iff_eq.mpr c90; have c90b1 : (t481 != 0) = false := bne_eq_false_iff_eq.mpr c90; clear c90
            by_cases c91 : t482 = 0
            ·rw [if_pos c91] at H
             have c91b0 : (t482 == 0) = true := beq_iff_eq.mpr c91; have c91b1 : (t482 != 0) = false := bne_eq_false_iff_eq.mpr c91; clear c91; obtain ⟨t498, A920, H⟩ := Option.bind_eq_some_iff.mp H; have A92 := Aside0.mk A920; clear A920; obtain rfl := Option.some.inj H
             go_wp2_with (first | (go_at_call 17; (with_reducible refine (lw_known.calls t498 _ ?sideG A92.out).mono ?_); (case sideG => exact (Kd.C_below HGL.out (sqB HB))); rintro e w93 ⟨rfl, hb⟩; replace HO_10 := Aside0.mk (Kd.R_below (sqR HO_10) hb); replace HO_481000 := Aside0.mk (Kd.R_below (sqR HO_481000) hb); replace HO_481001 := Aside0.mk (Kd.R_below (sqR HO_481001) hb); replace BK471 := sqk BK471 hb; replace BK480 := sqk BK480 hb; replace HB := sqb hb HB; (try clear hb); (try clear hb2); (try clear hk); (try clear hi)))
             go_ret
             exact ⟨by first | rfl | (simp [errW_none, errW_some] <;> rfl) | (simp [*, errW_none, errW_some] <;> rfl), sqB HB⟩
            ·rw [if_neg c91] at H
             have c91b0 : (t482 == 0) = false := beq_eq_false_iff_ne.mpr c91; have c91b1 : (t482 != 0) = true := bne_iff_ne.mpr c91; obtain rfl := Option.some.inj H
             go_wp2
             go_ret
             exact ⟨by first | rfl | (simp [errW_none, errW_some] <;> rfl) | (simp [*, errW_none, errW_some] <;> rfl), sqB HB⟩
           ·rw [if_neg c90] at H
            have c90b0 : (t481 == 0) = false := beq_eq_false_iff_ne.mpr c90; have c90b1 : (t481 != 0) = true := bne_iff_ne.mpr c90; obtain rfl := Option.some.inj H
            go_wp2
            go_ret
            exact ⟨by first | rfl | (simp [errW_none, errW_some] <;> rfl) | (simp [*, errW_none, errW_some] <;> rfl), sqB HB⟩
          ·rw [if_neg c89] at H
           have c89b0 : (t483 == x9_37) = false := beq_eq_false_iff_ne.mpr c89; have c89b1 : (t483 != x9_37) = true := bne_iff_ne.mpr c89; obtain rfl := Option.some.inj H
           go_wp2
           go_ret
           exact ⟨by first | rfl | (simp [errW_none, errW_some] <;> rfl) | (simp [*, errW_none, errW_some] <;> rfl), sqB HB⟩
  ·replace c13 := Bool.eq_false_iff.mpr c13
   subst c13; rw [if_neg Bool.false_ne_true] at H; obtain rfl := Option.some.inj H
   go_enter Tryd.func7, Tryd.ntmps7
   go_wp2_with (first | ((with_reducible refine gate_dst (N := 2) rfl ?_); refine box_event ?hg (N := 2) ?hd (cs := #[.slice A0_0 l0_0.length c0_0, .slice A0_1 l0_1.length c0_1]) (t := 25) ?hr ?_; (case hd => rfl); (case hg => rfl); (case hr => first | (go_simp; done) | (go_simp; rfl)); intro gb471 hg w94 hbox hb; have BK471 := Aside0.mk (hbox); have GW471 := Aside0.mk (sqZ hg HB); have GE471 := Aside0.mk (sqZ hg HB); replace HB := sqb hb HB; clear hb hbox hg; have hcz95_0 := sqc0 BK471; have hcz95_1 := sqc1 BK471; have hfz95_0 := blk_frozen BK471.out 0; have hfz95_1 := blk_frozen BK471.out 1) | ((with_reducible refine gate_callee (f := 16) rfl ?_); refine goesL_ (some 14) rfl rfl Tryd.func16 sqF rfl #[.agg #[.slice A0_0 l0_0.length c0_0, .slice A0_1 l0_1.length c0_1]] rfl sqM ?_; (with_reducible refine (lw_long.calls _ _ l0_0 _ _ l0_1 false _ ?side1 ?side2 ?side3 ?side4 A3.out).mono ?_); (case side1 => exact sqQ HR0_0 HB); (case side2 => exact HC0_0.out); (case side3 => exact sqQ HR0_1 HB); (case side4 => exact HC0_1.out); rintro e w96 ⟨rfl, hb⟩; refine ⟨_, rfl, ?_⟩; replace BK471 := sqk BK471 hb; replace HB := sqb hb HB; (try clear hb); (try clear hb2); (try clear hk); (try clear hi); have hcz97_0 := sqc0 BK471; have hcz97_1 := sqc1 BK471; have hfz97_0 := blk_frozen BK471.out 0; have hfz97_1 := blk_frozen BK471.out 1) | ((with_reducible refine gate_callee (f := 18) rfl ?_); refine goesL_ (some 17) rfl rfl Tryd.func18 sqF rfl #[.agg #[.slice A0_0 l0_0.length c0_0, .slice A0_1 l0_1.length c0_1]] rfl sqM ?_; (with_reducible refine (rf_Copy.calls _ _ l0_0 _ _ l0_1 t474 t477 _ ?side1 ?side2 ?side3 ?side4 A10.out).mono ?_); (case side1 => exact sqQ HR0_0 HB); (case side2 => exact HC0_0.out); (case side3 => exact sqQ HR0_1 HB); (case side4 => exact HC0_1.out); rintro e w98 ⟨v475, v478, rfl, ho0, ho1, hb⟩; refine ⟨_, rfl, ?_⟩; have HO476 := Aside0.mk (Kd.R_lower ho0 (below_size (sqB HB))); have HO479 := Aside0.mk (Kd.R_lower ho1 (below_size (sqB HB))); replace BK471 := sqk BK471 hb; replace HB := sqb hb HB; (try clear hb); (try clear hb2); (try clear hk); (try clear hi); (try clear ho0); (try clear ho1)) | ((with_reducible refine gate_dst (N := 5) rfl ?_); refine box_event ?hg (N := 5) ?hd (cs := #[.slice none 0 0, .slice none 0 0]) (t := 25) ?hr ?_; (case hd => rfl); (case hg => rfl); (case hr => first | (go_simp; done) | (go_simp; rfl)); intro gb480 hg w99 hbox hb; replace HO476 := Aside0.mk (Kd.R_below (sqR HO476) hb); replace HO479 := Aside0.mk (Kd.R_below (sqR HO479) hb); have BK480 := Aside0.mk (hbox); have GW480 := Aside0.mk (sqZ hg HB); have GE480 := Aside0.mk (sqZ hg HB); replace HB := sqb hb HB; have NB471_480 := Aside0.mk (sqL hg BK471); have NB480_471 := Aside0.mk (sqG hg BK471); replace BK471 := sqk BK471 hb; clear hb hbox hg; obtain ⟨Ao100, co100, eo100⟩ := Kd.R_slice HO476.out; subst eo100; have hnb101 := NB480_471.out; have hnc101 := NB471_480.out; have hcz102_0 := sqc0 BK480; have hcz102_1 := sqc1 BK480; have hfz102_0 := blk_frozen BK480.out 0; have hfz102_1 := blk_frozen BK480.out 1; obtain ⟨Ao103, co103, eo103⟩ := Kd.R_slice HO479.out; subst eo103) | ((with_reducible refine gate_callee (f := 39) rfl ?_); refine goesL_ (some 21) rfl rfl Tryd.func39 sqF rfl #[.agg #[.slice Ao100 t474.length co100, .slice Ao103 t477.length co103], .int .i64 a1] rfl sqM ?_; (with_reducible refine (wool_Look.calls _ _ t474 _ _ t477 a1 t481 t482 t483 _ ?sideG ?side1 ?side2 ?side3 ?side4 A11.out).mono ?_); (case sideG => exact (Kd.C_below HGL.out (sqB HB))); (case side1 => refine (Kd.R_reads' (e := 41) (base := w.heap.size) (ok := fun k_ => True) (n := t474.length) (c := co100) ?_).2.2; exact (by (with_reducible repeat (first | apply Kd.R_alloc | apply Kd.R_drewN | apply Kd.R_drew)); exact (Kd.R_mono (Kd.R_far (p := ⟨gb480, 1, none⟩) (Kd.R_far (p := ⟨gb480, 0, none⟩) (Kd.R_types HO476.out BK480.out (by decide)) (fun _ hk => hk.2) (.slice Ao100 t474.length co100)) (fun _ hk => hk.2) (.slice Ao103 t477.length co103)) (fun _ h_ => h_.1)))); (case side2 => exact (Kd.R_reads' HO476.out).2.1); (case side3 => refine (Kd.R_reads' (e := 80) (base := w.heap.size) (ok := fun k_ => True) (n := t477.length) (c := co103) ?_).2.2; exact (by (with_reducible repeat (first | apply Kd.R_alloc | apply Kd.R_drewN | apply Kd.R_drew)); exact (Kd.R_mono (Kd.R_far (p := ⟨gb480, 1, none⟩) (Kd.R_far (p := ⟨gb480, 0, none⟩) (Kd.R_types HO479.out BK480.out (by decide)) (fun _ hk => hk.2) (.slice Ao100 t474.length co100)) (fun _ hk => hk.2) (.slice Ao103 t477.length co103)) (fun _ h_ => h_.1)))); (case side4 => exact (Kd.R_reads' HO479.out).2.1); rintro e w104 ⟨rfl, hb⟩; refine ⟨_, rfl, ?_⟩; replace HO476 := Aside0.mk (Kd.R_below (by (with_reducible repeat (first | apply Kd.R_alloc | apply Kd.R_drewN | apply Kd.R_drew)); exact (Kd.R_mono (Kd.R_far (p := ⟨gb480, 1, none⟩) (Kd.R_far (p := ⟨gb480, 0, none⟩) (Kd.R_types HO476.out BK480.out (by decide)) (fun _ hk => hk.2) (.slice Ao100 t474.length co100)) (fun _ hk => hk.2) (.slice Ao103 t477.length co103)) (fun _ h_ => h_.1))) hb); replace HO479 := Aside0.mk (Kd.R_below (by (with_reducible repeat (first | apply Kd.R_alloc | apply Kd.R_drewN | apply Kd.R_drew)); exact (Kd.R_mono (Kd.R_far (p := ⟨gb480, 1, none⟩) (Kd.R_far (p := ⟨gb480, 0, none⟩) (Kd.R_types HO479.out BK480.out (by decide)) (fun _ hk => hk.2) (.slice Ao100 t474.length co100)) (fun _ hk => hk.2) (.slice Ao103 t477.length co103)) (fun _ h_ => h_.1))) hb); replace BK471 := Aside0.mk (blk_below (g := gb471) (o := .cells #[.slice A0_0 l0_0.length c0_0, .slice A0_1 l0_1.length c0_1] 25 (0, 0)) sqX hb); replace BK480 := Aside0.mk (blk_below (g := gb480) (o := .cells #[.slice Ao100 t474.length co100, .slice Ao103 t477.length co103] 25 (0, 0)) (by (with_reducible repeat (first | refine blk_drewN ?_ _ | refine blk_drew ?_ | refine blk_alloc ?_ _)); refine blk_put (cs := #[.slice Ao100 t474.length co100, .slice none 0 0]) ?_ 1 _ rfl; (with_reducible repeat (first | refine blk_drewN ?_ _ | refine blk_drew ?_ | refine blk_alloc ?_ _)); refine blk_put (cs := #[.slice none 0 0, .slice none 0 0]) ?_ 0 _ rfl; (with_reducible repeat (first | refine blk_drewN ?_ _ | refine blk_drew ?_ | refine blk_alloc ?_ _)); exact BK480.out) hb); replace HB := sqb hb HB; (try clear hb); (try clear hb2); (try clear hk); (try clear hi); have hcz105_0 := sqc0 BK480; have hcz105_1 := sqc1 BK480; have hfz105_0 := blk_frozen BK480.out 0; have hfz105_1 := blk_frozen BK480.out 1; have hcz106_0 := sqc0 BK471; have hcz106_1 := sqc1 BK471; have hfz106_0 := blk_frozen BK471.out 0; have hfz106_1 := blk_frozen BK471.out 1) | ((with_reducible refine gate_callee (f := 23) rfl ?_); refine goesL_ (some 27) rfl rfl Tryd.func23 sqF rfl #[.agg #[.slice Ao100 t474.length co100, .slice Ao103 t477.length co103], .agg #[.slice A0_0 l0_0.length c0_0, .slice A0_1 l0_1.length c0_1]] rfl sqM ?_; (with_reducible refine (rf_Same.calls k _ _ t474 _ _ t477 _ _ l0_0 _ _ l0_1 false _ ?side1 ?side2 ?side3 ?side4 ?side5 ?side6 ?side7 ?side8 A12.out).mono ?_); (case side1 => repeat (first | exact (Kd.R_reads' HO476.out).2.2 | (with_reducible refine Kd.C_alloc ?_ _) | (with_reducible refine Kd.C_drewN ?_ _) | (with_reducible refine Kd.C_drew ?_))); (case side2 => exact (Kd.R_reads' HO476.out).2.1); (case side3 => repeat (first | exact (Kd.R_reads' HO479.out).2.2 | (with_reducible refine Kd.C_alloc ?_ _) | (with_reducible refine Kd.C_drewN ?_ _) | (with_reducible refine Kd.C_drew ?_))); (case side4 => exact (Kd.R_reads' HO479.out).2.1); (case side5 => exact sqQ HR0_0 HB); (case side6 => exact HC0_0.out); (case side7 => exact sqQ HR0_1 HB); (case side8 => exact HC0_1.out); rintro e w107 ⟨rfl, hb⟩; refine ⟨_, rfl, ?_⟩; replace HO476 := Aside0.mk (Kd.R_below (sqR HO476) hb); replace HO479 := Aside0.mk (Kd.R_below (sqR HO479) hb); replace BK471 := sqk BK471 hb; replace BK480 := sqk BK480 hb; replace HB := sqb hb HB; (try clear hb); (try clear hb2); (try clear hk); (try clear hi)))
   go_ret
   exact ⟨by first | rfl | (simp [errW_none, errW_some] <;> rfl) | (simp [*, errW_none, errW_some] <;> rfl), sqB HB⟩
end Go.Proofs.YtemingmeidmjkaaDoor.Q
namespace Go.Proofs.YtemingmeidmjkaaDoor.Rw
open Go.RowKit Go.Proofs.YtemingmeidmjkaaDoorW.PrintWords
set_option linter.unusedVariables false
set_option linter.unusedSimpArgs false
theorem add_two (a : Addr) (x y : Nat) : (a.add x).add y = a.add (x + y) := by
 unfold Addr.add
 by_cases h1 : x = 0
 ·subst h1; simp
 ·by_cases h2 : y = 0
  ·subst h2; simp
  ·have h3 : ¬ x + y = 0 := by omega
   simp [h1, h2, Nat.add_assoc]
structure Opens {α : Type} (P : Program) (t : TypeId) (d : Kd α) (good : α → Prop) : Prop where
 size : d.sz = P.cellsOf t
 read : ∀ {H : Type} {enc : TypeId × Value → H} {w : World} {base : Nat} {sp : Nat → Bool} {held : Bool} {fuel : Nat} {cs : List Value} {x : DataW H × List MemPlace}, DataW.trod enc P w base sp held fuel t cs = some x → ∃ y : α, d.K w y cs ∧ good y
theorem Opens.int {P : Program} {t : TypeId} {k : IntKind} (ht : P.underlying t = some (.int k)) (hc : 1 = P.cellsOf t) : Opens P t (Kd.int k) (fun n => (Lit.int k n).wf = true) := ⟨hc, fun h => by
 obtain ⟨n, rfl, rfl, hw⟩ := DataW.trod_int ht h
 exact ⟨n, rfl, hw⟩⟩
theorem Opens.slice {α : Type} {P : Program} {t e : TypeId} {d : Kd α} {good : α → Prop} (ht : P.underlying t = some (.slice e)) (hc : 1 = P.cellsOf t) (h : Opens P e d good) : Opens P t (Kd.slice e d) (fun l => ∀ x ∈ l, good x) := ⟨hc, fun {H enc w base sp held fuel cs x} hx => by
 rcases DataW.trod_slice ht hx with ⟨rfl, _⟩ | ⟨a, len, cap, elems, rest, n, _, rfl, _, hb, hl, hm, hlen, hel, _, _⟩
 ·exact ⟨[], ⟨none, 0, rfl, Nat.le_refl _, Kd.C_nil _ _⟩, fun x hx => by cases hx⟩
 ·have key : ∀ m, m ≤ len → ∃ l : List α, l.length = m ∧ ∀ i z, l[i]? = some z → good z ∧ ∃ c, c.length = d.sz ∧ d.K w z c ∧ ∀ j u, c[j]? = some u → w.cell? (a.add (i * d.sz + j)) = some u := by
   intro m
   induction m with
   | zero => intro _; exact ⟨[], rfl, fun i z hz => by simp at hz⟩
   | succ m ih =>
    intro hle; obtain ⟨l, hll, hl2⟩ := ih (by omega); have h1 := hel m (by omega); rw [List.getElem?_eq_getElem (by omega), Option.bind_eq_some_iff] at h1; obtain ⟨c, hc1, hc2⟩ := h1; obtain ⟨z, hz, hg⟩ := h.read hc2; obtain ⟨_, hcl, hcc⟩ := World.cells?_some hc1; refine ⟨l ++ [z], by simp [hll], fun i z' hz' => ?_⟩
    rcases Nat.lt_or_ge i l.length with hlt | hge
    ·rw [List.getElem?_append_left hlt] at hz'
     exact hl2 i z' hz'
    ·rw [List.getElem?_append_right hge] at hz'
     have e : i = m := by
      rcases Nat.eq_zero_or_pos (i - l.length) with e | e
      ·omega
      ·rw [List.getElem?_eq_none (by simp; omega)] at hz'; cases hz'
     subst e; rw [show i - l.length = 0 by omega] at hz'; simp only [List.getElem?_cons_zero, Option.some.injEq] at hz'; subst hz'; refine ⟨hg, c, by rw [hcl, h.size], hz, fun j u hu => ?_⟩
     have hj : j < P.cellsOf e := by rw [← hcl]; exact (List.getElem?_eq_some_iff.1 hu).1
     have := hcc j hj; rw [hu] at this; rw [h.size, ← this, add_two]
  obtain ⟨l, hll, hl2⟩ := key len (Nat.le_refl _); refine ⟨l, ⟨some a, cap, by rw [hll], by omega, rfl, by unfold maxLen at hm; omega, fun _ => ⟨a, rfl, fun j p hj => ?_⟩⟩, fun x hx => ?_⟩
  ·obtain ⟨_, c, h1, h2, h3⟩ := hl2 j p hj
   exact ⟨c, h1, h2, h3⟩
  ·obtain ⟨i, hi⟩ := List.getElem?_of_mem hx
   exact (hl2 i x hi).1⟩
structure FOpens {α : Type} (P : Program) (fs : List Field) (off : Nat) (d : Kd α) (good : α → Prop) : Prop where
 read : ∀ {H : Type} {enc : TypeId × Value → H} {w : World} {base : Nat} {sp : Nat → Bool} {held : Bool} {fuel : Nat} {cs : List Value},
 (∀ (i : Nat) (f : Field), fs[i]? = some f → ∃ y, DataW.trod enc P w base sp held fuel f.type ((cs.drop f.offset).take (P.cellsOf f.type)) = some y) → cs.length = off + d.sz → ∃ y : α, d.K w y (cs.drop off) ∧ good y
theorem FOpens.one {α : Type} {P : Program} {f : Field} {off : Nat} {d : Kd α} {good : α → Prop} (h : Opens P f.type d good) (ho : f.offset = off) : FOpens P [f] off d good := ⟨fun {H enc w base sp held fuel cs} hf hl => by
 obtain ⟨y, hy⟩ := hf 0 f rfl; rw [ho, ← h.size, List.take_of_length_le (by rw [List.length_drop]; omega)] at hy
 exact h.read hy⟩
theorem FOpens.cons {α β : Type} {P : Program} {f : Field} {fs : List Field} {off : Nat} {d1 : Kd α} {d2 : Kd β} {g1 : α → Prop} {g2 : β → Prop} (h1 : Opens P f.type d1 g1) (ho : f.offset = off) (h2 : FOpens P fs (off + d1.sz) d2 g2) : FOpens P (f :: fs) off (Kd.pair d1 d2) (fun x => g1 x.1 ∧ g2 x.2) := ⟨fun {H enc w base sp held fuel cs} hf hl => by
 have hsz : (Kd.pair d1 d2).sz = d1.sz + d2.sz := rfl; obtain ⟨y1, hy1⟩ := hf 0 f rfl; rw [ho, ← h1.size] at hy1; obtain ⟨x1, hk1, hg1⟩ := h1.read hy1; obtain ⟨x2, hk2, hg2⟩ := h2.read (cs := cs) (fun i g hg => hf (i + 1) g (by simpa using hg)) (by omega); refine ⟨(x1, x2), ⟨_, _, ?_, hk1, hk2⟩, hg1, hg2⟩
 rw [← List.drop_drop, List.take_append_drop]⟩
theorem Opens.struct {α : Type} {P : Program} {t : TypeId} {fs : Array Field} {d : Kd α} {good : α → Prop} (ht : P.underlying t = some (.struct fs)) (hs : d.sz = P.cellsOf t) (h : FOpens P fs.toList 0 d good) : Opens P t d good := ⟨hs, fun {H enc w base sp held fuel cs x} hx => by
 obtain ⟨xs, n, _, _, hcl, hxl, hf⟩ := DataW.trod_struct ht hx
 have := h.read (enc := enc) (w := w) (base := base) (sp := sp) (held := held) (fuel := n) (cs := cs) (fun i f hi => by
  rw [Array.getElem?_toList] at hi; have hlt := (Array.getElem?_eq_some_iff.1 hi).1
  exact ⟨xs[i]'(by omega), by rw [hf i f hi, List.getElem?_eq_getElem]⟩) (by omega)
 simpa using this⟩
theorem Opens.iso {α β : Type} {P : Program} {t : TypeId} {d : Kd α} {good : α → Prop} (f : β → α) (g : α → β) (hfg : ∀ x, f (g x) = x) (h : Opens P t d good) : Opens P t (Kd.iso d f) (fun y => good (f y)) := ⟨h.size, fun hx => by
 obtain ⟨y, hk, hg⟩ := h.read hx
 exact ⟨g y, by show d.K _ (f (g y)) _; rw [hfg]; exact hk, by rw [hfg]; exact hg⟩⟩
end Go.Proofs.YtemingmeidmjkaaDoor.Rw
namespace Go.Proofs.YtemingmeidmjkaaDoor.Q
open Go.RowKit Go.Proofs.YtemingmeidmjkaaDoorW.PrintWords
set_option linter.unusedVariables false
set_option linter.unusedSimpArgs false
theorem rdI (l : List Int) (i : Nat) (h : i < l.length) : rd l (i : Int) = l[i] := by simp [rd, h]
theorem rdA (l : List S41) (i : Nat) (h : i < l.length) : rd_T41 l (i : Int) = l[i] := by simp [rd_T41, h]
theorem rdW (l : List S80) (i : Nat) (h : i < l.length) : rd_T80 l (i : Int) = l[i] := by simp [rd_T80, h]
theorem drop_dec {α : Type} [DecidableEq α] (a b : List α) (i : Nat) (ha : i < a.length) (hb : i < b.length) : decide (a.drop i = b.drop i) = (decide (a[i] = b[i]) && decide (a.drop (i + 1) = b.drop (i + 1))) := by
 rw [List.drop_eq_getElem_cons ha, List.drop_eq_getElem_cons hb, Bool.eq_iff_iff]; simp only [decide_eq_true_eq, Bool.and_eq_true, List.cons.injEq]
theorem In_f (a b c : Int) : rf_In.f a b c = some (inB b c [a]) := by
 have e : inB b c [a] = (decide (b ≤ a) && decide (a ≤ c)) := by
  rw [Bool.eq_iff_iff, inB_iff]
  simp
 rw [e]
 unfold rf_In.f
 split <;> simp_all <;> omega
theorem inB_one (b c a : Int) : inB b c [a] = true ↔ b ≤ a ∧ a ≤ c := by rw [inB_iff]; simp
theorem known_f : lw_known.f = some true := rfl
theorem long_f (l0 : List S41) (l1 : List S80) : lw_long.f l0 l1 = some (decide ((l0.length : Int) > 10 ∨ (l1.length : Int) > 12)) := by
 unfold lw_long.f
 by_cases h : (l0.length : Int) > 10 <;> simp [h]
theorem Copy_f (l0 : List S41) (l1 : List S80) (h0 : l0.length ≤ 1000) (h1 : l1.length ≤ 1000) : rf_Copy.f l0 l1 = some (l0, l1) := by
 unfold rf_Copy.f
 simp only [Option.bind_some, List.length_nil, List.nil_append]; rw [if_pos (by omega), if_pos (by omega)]
theorem dec_S (x y : S41) : decide ((⟨x.f0, x.f1⟩ : Sp) = ⟨y.f0, y.f1⟩) = !(!(x.f0 == y.f0) || !(x.f1 == y.f1)) := by
 rw [Bool.eq_iff_iff]
 simp
theorem toSt_get (l : List S41) (i : Nat) (h : i < l.length) : (toSt l)[i]'(by rw [toSt_len]; exact h) = ⟨l[i].f0, l[i].f1⟩ := by simp [toSt]
theorem Spans_l0 (a b : List S41) (hl : a.length ≤ 1000) (hab : a.length = b.length) : ∀ (d i : Nat), i + d = a.length → Ev (fun k => rf_Spans.l0 k a b (i : Int)) (decide ((toSt a).drop i = (toSt b).drop i))
 | 0, i, h => by
  refine Ev.up ?_; simp only [rf_Spans.l0, if_neg (show ¬ (i : Int) < (a.length : Int) by omega)]; rw [List.drop_eq_nil_of_le (by rw [toSt_len]; omega), List.drop_eq_nil_of_le (by rw [toSt_len]; omega)]
  simpa using Ev.now true
 | d + 1, i, h => by
  refine Ev.up ?_; simp only [rf_Spans.l0, if_pos (show (i : Int) < (a.length : Int) by omega), if_pos (show (0 : Int) ≤ (i : Int) by omega), if_pos (show (i : Int) < (b.length : Int) by omega), wi i (by omega), rdA a i (by omega), rdA b i (by omega)]; rw [drop_dec (toSt a) (toSt b) i (by rw [toSt_len]; omega) (by rw [toSt_len]; omega), toSt_get a i (by omega), toSt_get b i (by omega), dec_S]
  cases hq : (!(a[i].f0 == b[i].f0) || !(a[i].f1 == b[i].f1))
  ·simp only [Bool.false_eq_true, if_false, Bool.not_false, Bool.true_and]
   exact Spans_l0 a b hl hab d (i + 1) (by omega)
  ·simp only [if_true, Bool.not_true, Bool.false_and]
   exact Ev.now _
theorem Spans_f (a b : List S41) (ha : a.length ≤ 1000) : Ev (fun k => rf_Spans.f k a b) (decide (toSt a = toSt b)) := by
 unfold rf_Spans.f
 by_cases h : a.length = b.length
 ·simp only [if_pos (show (a.length : Int) = (b.length : Int) by omega)]
  exact Spans_l0 a b ha h a.length 0 (by omega)
 ·simp only [if_neg (show ¬ (a.length : Int) = (b.length : Int) by omega)]
  rw [decide_eq_false (fun e => h (by have := congrArg List.length e; rwa [toSt_len, toSt_len] at this))]; exact Ev.now _
theorem Same_l0 (st : List S41) (wg : List S80) (hl : wg.length ≤ 1000) : ∀ (d i : Nat), i + d = wg.length → Ev (fun k => rf_Same.l0 k (i : Int) st wg st wg) true
 | 0, i, h => by
  refine Ev.up ?_; simp only [rf_Same.l0, if_neg (show ¬ (i : Int) < (wg.length : Int) by omega)]; exact Ev.now true
 | d + 1, i, h => by
  refine Ev.up ?_; simp only [rf_Same.l0, if_pos (show (i : Int) < (wg.length : Int) by omega), if_pos (show (0 : Int) ≤ (i : Int) by omega), wi i (by omega), beq_self_eq_true, Bool.not_true, Bool.or_self, Bool.false_eq_true, if_false]; exact Same_l0 st wg hl d (i + 1) (by omega)
theorem Same_f (st : List S41) (wg : List S80) (h0 : st.length ≤ 1000) (hl : wg.length ≤ 1000) : Ev (fun k => rf_Same.f k st wg st wg) true := by
 unfold rf_Same.f
 refine Ev.bind (Spans_f st st h0) ?_; simp only [decide_true, if_true, bne_self_eq_false]; refine Ev.up ?_; simp only [rf_Same.j0, Bool.false_eq_true, if_false]; exact Same_l0 st wg hl wg.length 0 (by omega)
theorem Least_f (s : Sp) (h : stB s) (w : Int) (hw : 0 ≤ w ∧ w ≤ 400) : rf_Least.f s.lo s.hi w = some (loS s w) := by
 obtain ⟨h0, h1, h2⟩ := h
 unfold rf_Least.f loS
 have e1 : 0 ≤ w * s.hi := Int.mul_nonneg hw.1 (by omega); have e2 : w * s.hi ≤ 400 * 300 := Int.mul_le_mul hw.2 h2 (by omega) (by omega)
 generalize w * s.hi = y at *
 rw [wr (x := y) (by omega), Int.tdiv_eq_ediv_of_nonneg (by omega), wr (x := y / 1000) (by omega), wr (x := y / 1000 * 1000) (by omega), wr (x := y / 1000 + 1) (by omega)]
 split
 ·rw [wr (by omega)]; congr 1; omega
 ·rw [wr (by omega)]; congr 1; omega
theorem Greatest_f (s : Sp) (h : stB s) (w : Int) (hw : 0 ≤ w ∧ w ≤ 400) : rf_Greatest.f s.lo s.hi w = some (hiS s w) := by
 obtain ⟨h0, h1, h2⟩ := h
 unfold rf_Greatest.f hiS
 have e1 : 0 ≤ w * s.lo := Int.mul_nonneg hw.1 (by omega); have e2 : w * s.lo ≤ 400 * 300 := Int.mul_le_mul hw.2 (by omega) (by omega) (by omega)
 generalize w * s.lo = y at *
 rw [wr (x := y) (by omega), Int.tdiv_eq_ediv_of_nonneg (by omega), wr (x := y / 1000) (by omega), wr (by omega)]
theorem Check_l1 (st : List S41) (wg : List S80) (hl : wg.length ≤ 1000) : ∀ (d i : Nat), i + d = wg.length → Ev (fun k => rf_Check.l1 k (i : Int) st wg) (if (toWg (wg.drop i)).any (wgBad st.length) then 2 else 0)
 | 0, i, h => by
  refine Ev.up ?_; simp only [rf_Check.l1, if_neg (show ¬ (i : Int) < (wg.length : Int) by omega)]; rw [List.drop_eq_nil_of_le (by omega)]; exact Ev.now _
 | d + 1, i, h => by
  refine Ev.up ?_
  have hi : i < wg.length := by omega
  simp only [rf_Check.l1, if_pos (show (i : Int) < (wg.length : Int) by omega), if_pos (show (0 : Int) ≤ (i : Int) by omega), wi i (by omega), rdW wg i hi, In_f, Option.bind_some]; have ih := Check_l1 st wg hl d (i + 1) (by omega); rw [List.drop_eq_getElem_cons hi]; have e : (toWg (wg[i] :: wg.drop (i + 1))).any (wgBad st.length) = (wgBad st.length ⟨wg[i].f0, wg[i].f1, wg[i].f2⟩ || (toWg (wg.drop (i + 1))).any (wgBad st.length)) := rfl; rw [e]
  unfold wgBad at ih ⊢
  cases h1 : inB 0 (st.length : Int) [wg[i].f0] <;> cases h2 : inB 0 400 [wg[i].f1] <;> cases h3 : inB 0 20 [wg[i].f2] <;> simp only [Bool.false_eq_true, if_false, if_true, Bool.not_true, Bool.not_false, Bool.or_true, Bool.true_or, Bool.or_false, Bool.false_or]
  all_goals first | exact Ev.now _ | exact ih
theorem Check_l0 (st : List S41) (wg : List S80) (hs : st.length ≤ 1000) (hl : wg.length ≤ 1000) : ∀ (d i : Nat), i + d = st.length → Ev (fun k => rf_Check.l0 k (i : Int) st wg) (if (toSt (st.drop i)).any stBad then 4 else if wg.length > 8 then 5 else if (toWg wg).any (wgBad st.length) then 2 else 0)
 | 0, i, h => by
  refine Ev.up ?_; simp only [rf_Check.l0, if_neg (show ¬ (i : Int) < (st.length : Int) by omega)]; rw [List.drop_eq_nil_of_le (by omega)]; have e : (toSt []).any stBad = false := rfl; rw [e]; simp only [Bool.false_eq_true, if_false]
  by_cases h8 : wg.length > 8
  ·simp only [if_pos h8, if_pos (show (wg.length : Int) > 8 by omega)]
   exact Ev.now _
  ·simp only [if_neg h8, if_neg (show ¬ (wg.length : Int) > 8 by omega)]
   have h9 := Check_l1 st wg hl wg.length 0 (by omega); rw [List.drop_zero] at h9; exact h9
 | d + 1, i, h => by
  refine Ev.up ?_
  have hi : i < st.length := by omega
  simp only [rf_Check.l0, if_pos (show (i : Int) < (st.length : Int) by omega), if_pos (show (0 : Int) ≤ (i : Int) by omega), wi i (by omega), rdA st i hi, In_f, Option.bind_some]; have ih := Check_l0 st wg hs hl d (i + 1) (by omega); rw [List.drop_eq_getElem_cons hi]; have e : (toSt (st[i] :: st.drop (i + 1))).any stBad = (stBad ⟨st[i].f0, st[i].f1⟩ || (toSt (st.drop (i + 1))).any stBad) := rfl; rw [e]
  have e2 : stBad ⟨st[i].f0, st[i].f1⟩ = !(inB 0 st[i].f1 [st[i].f0] && !decide (st[i].f1 > 300)) := by
   unfold stBad
   rw [Bool.eq_iff_iff]; simp only [Bool.or_eq_true, decide_eq_true_eq, Bool.not_eq_true', Bool.and_eq_false_iff, Bool.not_eq_false']
   have a1 : (inB 0 300 [st[i].f0, st[i].f1] = false) ↔ ¬ ((0 ≤ st[i].f0 ∧ st[i].f0 ≤ 300) ∧ (0 ≤ st[i].f1 ∧ st[i].f1 ≤ 300)) := by
    rw [← Bool.not_eq_true, inB_iff]
    simp
   have a2 : (inB 0 st[i].f1 [st[i].f0] = false) ↔ ¬ (0 ≤ st[i].f0 ∧ st[i].f0 ≤ st[i].f1) := by rw [← Bool.not_eq_true, inB_one]
   rw [a1, a2]; omega
  rw [e2]
  cases h1 : inB 0 st[i].f1 [st[i].f0]
  ·simp only [Bool.false_eq_true, if_false, Bool.false_and, Bool.not_false, Bool.true_or, if_true]
   exact Ev.now _
  ·by_cases h3 : st[i].f1 > 300
   ·simp only [h3, if_true, decide_true, Bool.not_true, Bool.and_false, Bool.not_false, Bool.true_or]
    exact Ev.now _
   ·simp only [h3, if_true, decide_false, Bool.not_false, Bool.and_true, Bool.not_true, Bool.false_or, if_false]
    exact ih
theorem Check_f (st : List S41) (wg : List S80) (hs : st.length ≤ 1000) (hl : wg.length ≤ 1000) : Ev (fun k => rf_Check.f k st wg) (roadE (toSt st) (toWg wg)) := by
 unfold rf_Check.f roadE
 simp only [In_f, Option.bind_some, toSt_len, toWg_len]
 cases h1 : inB 1 5 [(st.length : Int)]
 ·simp only [Bool.false_eq_true, if_false]
  exact Ev.now _
 ·simp only [if_true]
  have h9 := Check_l0 st wg hs hl st.length 0 (by omega); rw [List.drop_zero] at h9; exact h9
end Go.Proofs.YtemingmeidmjkaaDoor.Q
namespace Go.Proofs.YtemingmeidmjkaaDoor.Q
open Go.RowKit Go.Proofs.YtemingmeidmjkaaDoorW.PrintWords
set_option linter.unusedVariables false
set_option linter.unusedSimpArgs false
def T4 (g : Nat → Bool) : List Bool := (List.range 401).map g
theorem T4_len (g : Nat → Bool) : (T4 g).length = 401 := by simp [T4]
theorem T4_get (g : Nat → Bool) (i : Nat) (h : i ≤ 400) : rdOf false (T4 g) (i : Int) = g i := by
 unfold rdOf T4
 rw [Int.toNat_natCast, List.getD_eq_getElem?_getD, List.getElem?_map, List.getElem?_range (by omega)]; rfl
theorem T4_congr {g h : Nat → Bool} (e : ∀ j, j ≤ 400 → g j = h j) : T4 g = T4 h := List.map_congr_left fun j hj => e j (by have := List.mem_range.1 hj; omega)
theorem T4_set (g : Nat → Bool) (i : Nat) (b : Bool) : (T4 g).set i b = T4 (fun j => if j = i then b else g j) := by
 apply List.ext_getElem?
 intro j; rw [List.getElem?_set, T4_len]
 unfold T4
 rw [List.getElem?_map, List.getElem?_map]
 by_cases hj : j < 401
 ·rw [List.getElem?_range hj]
  by_cases e : i = j
  ·rw [if_pos e, if_pos (by omega)]
   simp [e]
  ·rw [if_neg e]
   simp [show ¬ j = i from fun e' => e e'.symm]
 ·rw [List.getElem?_eq_none (l := List.range 401) (by simpa using hj)]
  by_cases e : i = j
  ·rw [if_pos e, if_neg (by omega)]; rfl
  ·rw [if_neg e]; rfl
def rowsL (n : Nat) (R : Nat → Nat → Bool) : List (List Bool) := (List.range n).map fun p => T4 (R p)
theorem rowsL_len (n : Nat) (R : Nat → Nat → Bool) : (rowsL n R).length = n := by simp [rowsL]
theorem rowsL_get (n : Nat) (R : Nat → Nat → Bool) (p : Nat) (h : p < n) : rd_L9 (rowsL n R) (p : Int) = T4 (R p) := by
 unfold rd_L9 rowsL
 rw [Int.toNat_natCast, List.getD_eq_getElem?_getD, List.getElem?_map, List.getElem?_range h]; rfl
theorem rowsL_set (n : Nat) (R : Nat → Nat → Bool) (p : Nat) (g : Nat → Bool) (h : p < n) : (rowsL n R).set p (T4 g) = rowsL n (fun q => if q = p then g else R q) := by
 apply List.ext_getElem?
 intro j; rw [List.getElem?_set, rowsL_len]
 unfold rowsL
 rw [List.getElem?_map, List.getElem?_map]
 by_cases hj : j < n
 ·rw [List.getElem?_range hj]
  by_cases e : p = j
  ·rw [if_pos e, if_pos (by omega)]
   simp [e]
  ·rw [if_neg e]
   simp [show ¬ j = p from fun e' => e e'.symm]
 ·rw [List.getElem?_eq_none (l := List.range n) (by simpa using hj)]
  by_cases e : p = j
  ·omega
  ·rw [if_neg e]; rfl
theorem rowsL_succ (n : Nat) (R : Nat → Nat → Bool) : rowsL n R ++ [T4 (R n)] = rowsL (n + 1) R := by simp [rowsL, List.range_succ]
theorem rowsL_congr {n : Nat} {R S : Nat → Nat → Bool} (e : ∀ p, p < n → ∀ j, j ≤ 400 → R p j = S p j) : rowsL n R = rowsL n S := List.map_congr_left fun p hp => T4_congr (e p (List.mem_range.1 hp))
def fitB (wg : List Wg) (p w : Int) : Bool := wg.all fun x => !decide (x.p = p) || inB (x.r - x.o) (x.r + x.o) [w]
theorem fitB_iff (wg : List Wg) (p w : Int) : fitB wg p w = true ↔ ∀ x ∈ wg, x.p = p → x.r - x.o ≤ w ∧ w ≤ x.r + x.o := by
 unfold fitB
 simp only [List.all_eq_true, Bool.or_eq_true, Bool.not_eq_true', decide_eq_false_iff_not, inB_one]
 exact ⟨fun h x hx hp => (h x hx).resolve_left (fun hn => hn hp), fun h x hx => by
  by_cases e : x.p = p
  ·exact .inr (h x hx e)
  ·exact .inl e⟩
theorem seen_in (p w : Int) : ∀ (wg : List Wg) (s : Sp), inS (wg.foldl (seenStep p) s) w ↔ inS s w ∧ ∀ x ∈ wg, x.p = p → x.r - x.o ≤ w ∧ w ≤ x.r + x.o
 | [], s => by simp
 | x :: wg, s => by
  rw [List.foldl_cons, seen_in p w wg]
  unfold seenStep
  by_cases e : x.p = p
  ·rw [if_pos e, inS_and]
   simp only [List.mem_cons, forall_eq_or_imp, e, true_implies]
   unfold inS
   simp only
   constructor
   ·rintro ⟨⟨h1, h2⟩, h3⟩; exact ⟨h1, h2, h3⟩
   ·rintro ⟨h1, h2, h3⟩; exact ⟨⟨h1, h2⟩, h3⟩
  ·rw [if_neg e]
   simp only [List.mem_cons, forall_eq_or_imp, e, false_implies, true_and]
theorem fit_seen (wg : List Wg) (p w : Int) (h : 0 ≤ w ∧ w ≤ 400) : fitB wg p w = true ↔ inS (seenS wg p) w := by
 rw [fitB_iff, seenS, seen_in]; simp only [inS]; exact ⟨fun h1 => ⟨h, h1⟩, fun h1 => h1.2⟩
theorem Fits_l0 (st : List S41) (wg : List S80) (hw : wgOk (toWg wg)) (hl : wg.length ≤ 1000) (p w : Int) : ∀ (d i : Nat), i + d = wg.length → Ev (fun k => rf_Fits.l0 k p w (i : Int) st wg) (fitB (toWg (wg.drop i)) p w)
 | 0, i, h => by
  refine Ev.up ?_; simp only [rf_Fits.l0, if_neg (show ¬ (i : Int) < (wg.length : Int) by omega)]; rw [List.drop_eq_nil_of_le (by omega)]; exact Ev.now _
 | d + 1, i, h => by
  refine Ev.up ?_
  have hi : i < wg.length := by omega
  have hb := hw ⟨wg[i].f0, wg[i].f1, wg[i].f2⟩ (List.mem_map.2 ⟨wg[i], List.getElem_mem hi, rfl⟩); simp only at hb; simp only [rf_Fits.l0, if_pos (show (i : Int) < (wg.length : Int) by omega), if_pos (show (0 : Int) ≤ (i : Int) by omega), wi i (by omega), rdW wg i hi, In_f, Option.bind_some]; rw [wr (x := wg[i].f1 - wg[i].f2) (by omega), wr (x := wg[i].f1 + wg[i].f2) (by omega), List.drop_eq_getElem_cons hi]; have ih := Fits_l0 st wg hw hl p w d (i + 1) (by omega); have e : fitB (toWg (wg[i] :: wg.drop (i + 1))) p w = ((!decide (wg[i].f0 = p) || inB (wg[i].f1 - wg[i].f2) (wg[i].f1 + wg[i].f2) [w]) && fitB (toWg (wg.drop (i + 1))) p w) := rfl; rw [e]
  by_cases hp : wg[i].f0 = p
  ·simp only [hp, if_true, decide_true, Bool.not_true, Bool.false_or]
   cases inB (wg[i].f1 - wg[i].f2) (wg[i].f1 + wg[i].f2) [w]
   ·simp only [Bool.false_eq_true, if_false, Bool.false_and]; exact Ev.now _
   ·simp only [if_true, Bool.true_and]; exact ih
  ·simp only [hp, if_false, decide_false, Bool.not_false, Bool.true_or, Bool.true_and]
   exact ih
theorem Fits_f (st : List S41) (wg : List S80) (hw : wgOk (toWg wg)) (hl : wg.length ≤ 1000) (p w : Int) : Ev (fun k => rf_Fits.f k st wg p w) (fitB (toWg wg) p w) := by
 have h := Fits_l0 st wg hw hl p w wg.length 0 (by omega); rw [List.drop_zero] at h; exact h
def stpB (st : List Sp) (th : Int) (p w v : Nat) : Bool := if (p : Int) = th then decide ((v : Int) < hiS (rdS st p) w) else inB (loS (rdS st p) w) (hiS (rdS st p) w) [(v : Int)]
theorem Step_f (st : List S41) (wg : List S80) (hok : RdOk (toSt st) (toWg wg)) (th : Int) (p w v : Nat) (hp : p < st.length) (hw : w ≤ 400) : rf_Step.f st wg (p : Int) (w : Int) (v : Int) ((p : Int) == th) = some (stpB (toSt st) th p w v) := by
 have hv := hok.at (p : Int) (by omega) (by rw [toSt_len]; omega); have e1 := Least_f (rdS (toSt st) (p : Int)) hv (w : Int) (by omega); have e2 := Greatest_f (rdS (toSt st) (p : Int)) hv (w : Int) (by omega)
 have er : rdS (toSt st) (p : Int) = ⟨st[p].f0, st[p].f1⟩ := by rw [rdS_nat _ _ (by rw [toSt_len]; exact hp), toSt_get st p hp]
 unfold rf_Step.f stpB
 rw [er] at e1 e2 ⊢; simp only at e1 e2; simp only [if_pos (show (0 : Int) ≤ (p : Int) by omega), if_pos (show (p : Int) < (st.length : Int) by omega), rdA st p hp, e1, e2, In_f, Option.bind_some]
 by_cases h : (p : Int) = th
 ·simp [h]
 ·simp [h]
def fwB (st : List Sp) (wg : List Wg) (th : Int) : Nat → Nat → Bool
 | 0, w => fitB wg 0 w
 | p + 1, v => fitB wg ((p + 1 : Nat) : Int) v && (List.range 401).any fun w => decide (v ≤ w) && fwB st wg th p w && stpB st th p w v
def acB (st : List Sp) (wg : List Wg) (th : Int) (p w v : Nat) : Bool := (List.range w).any fun w' => decide (v ≤ w') && fwB st wg th p w' && stpB st th p w' v
theorem acB_succ (st : List Sp) (wg : List Wg) (th : Int) (p w v : Nat) : acB st wg th p (w + 1) v = (acB st wg th p w v || (decide (v ≤ w) && fwB st wg th p w && stpB st th p w v)) := by
 unfold acB
 rw [List.range_succ, List.any_append]
 simp
def fuB (st : List Sp) (wg : List Wg) (th : Int) : Nat → Nat → Nat → Bool
 | 0, p, w => fwB st wg th p w
 | d + 1, p, w => fwB st wg th p w && (List.range (w + 1)).any fun v => fuB st wg th d (p + 1) v && stpB st th p w v
section
variable (st : List S41) (wg : List S80) (hok : RdOk (toSt st) (toWg wg)) (hl : wg.length ≤ 1000) (th : Int) (r : List (List Bool))
theorem Sets_l1 (p : Nat) (x6 : List (List Bool)) (x5 : Int) (g : Nat → Bool)
  (h : Ev (fun k => rf_Sets.l2 k th x5 x6 (p : Int) (T4 fun w => if p = 0 then fitB (toWg wg) 0 w else false) 0 st wg) r) (hok : RdOk (toSt st) (toWg wg)) (hl : wg.length ≤ 1000) : ∀ (d i : Nat), i + d = 401 → Ev (fun k => rf_Sets.l1 k th x5 x6 (p : Int) (T4 fun w => if w < i then (if p = 0 then fitB (toWg wg) 0 w else false) else g w) (i : Int) st wg) r
 | 0, i, hd => by
  refine Ev.up ?_; simp only [rf_Sets.l1, if_neg (show ¬ (i : Int) ≤ 400 by omega)]; rw [T4_congr (h := fun w => if p = 0 then fitB (toWg wg) 0 w else false) (fun j hj => if_pos (show j < i by omega))]; exact h
 | d + 1, i, hd => by
  have ih := Sets_l1 p x6 x5 g h hok hl d (i + 1) (by omega); refine Ev.up ?_
  have e : ∀ b, b = (if p = 0 then fitB (toWg wg) 0 i else false) → (T4 fun w => if w < i then (if p = 0 then fitB (toWg wg) 0 w else false) else g w).set i b = T4 fun w => if w < i + 1 then (if p = 0 then fitB (toWg wg) 0 w else false) else g w := by
   intro b hb; rw [T4_set, hb]; refine T4_congr (fun j hj => ?_)
   by_cases e1 : j = i
   ·rw [if_pos e1, if_pos (show j < i + 1 by omega), e1]
   ·rw [if_neg e1]
    by_cases e2 : j < i
    ·rw [if_pos e2, if_pos (show j < i + 1 by omega)]
    ·rw [if_neg e2, if_neg (show ¬ j < i + 1 by omega)]
  simp only [rf_Sets.l1, if_pos (show (i : Int) ≤ 400 by omega), if_pos (show (0 : Int) ≤ (i : Int) by omega), T4_len, if_pos (show (i : Int) < ((401 : Nat) : Int) by omega), wi i (by omega), Int.toNat_natCast]
  by_cases hp : p = 0
  ·subst hp
   simp only [Int.natCast_zero, Int.ofNat_eq_natCast, if_true] at *; refine Ev.bind (Fits_f st wg hok.wgs hl 0 (i : Int)) ?_; rw [e _ rfl]; exact ih
  ·simp only [if_neg (show ¬ (p : Int) = 0 by omega)]
   rw [e false (by rw [if_neg hp])]; exact ih
theorem Sets_l3 (n p : Nat) (x5 : Int) (hp : p < st.length) (w : Nat) (hw : w ≤ 400) (hok : RdOk (toSt st) (toWg wg))
  (h : Ev (fun k => rf_Sets.l2 k th x5 (rowsL (p + 1) (fwB (toSt st) (toWg wg) th)) ((p + 1 : Nat) : Int) (T4 (acB (toSt st) (toWg wg) th p (w + 1))) ((w + 1 : Nat) : Int) st wg) r) (hf : fwB (toSt st) (toWg wg) th p w = true) :
  ∀ (d i : Nat), i + d = w + 1 → Ev (fun k => rf_Sets.l3 k th x5 (rowsL (p + 1) (fwB (toSt st) (toWg wg) th)) ((p + 1 : Nat) : Int) (T4 fun v => if v < i then acB (toSt st) (toWg wg) th p (w + 1) v else acB (toSt st) (toWg wg) th p w v) (w : Int) (i : Int) st wg) r
 | 0, i, hd => by
  refine Ev.up ?_; simp only [rf_Sets.l3, if_neg (show ¬ (i : Int) ≤ (w : Int) by omega), wi w (by omega)]
  rw [T4_congr (h := acB (toSt st) (toWg wg) th p (w + 1)) (fun j hj => by
   by_cases e1 : j < i
   ·rw [if_pos e1]
   ·rw [if_neg e1, acB_succ, decide_eq_false (show ¬ j ≤ w by omega)]; simp)]
  exact h
 | d + 1, i, hd => by
  have ih := Sets_l3 n p x5 hp w hw hok h hf d (i + 1) (by omega); refine Ev.up ?_
  have e1 : wrap64 (((p + 1 : Nat) : Int) - 1) = (p : Int) := by
   have := hok.len; rw [toSt_len] at this; rw [wr (by omega)]; omega
  have e : ∀ b, b = acB (toSt st) (toWg wg) th p (w + 1) i → (T4 fun v => if v < i then acB (toSt st) (toWg wg) th p (w + 1) v else acB (toSt st) (toWg wg) th p w v).set i b = T4 fun v => if v < i + 1 then acB (toSt st) (toWg wg) th p (w + 1) v else acB (toSt st) (toWg wg) th p w v := by
   intro b hb; rw [T4_set, hb]; refine T4_congr (fun j hj => ?_)
   by_cases e1 : j = i
   ·rw [if_pos e1, if_pos (show j < i + 1 by omega), e1]
   ·rw [if_neg e1]
    by_cases e2 : j < i
    ·rw [if_pos e2, if_pos (show j < i + 1 by omega)]
    ·rw [if_neg e2, if_neg (show ¬ j < i + 1 by omega)]
  have ea : acB (toSt st) (toWg wg) th p (w + 1) i = (acB (toSt st) (toWg wg) th p w i || stpB (toSt st) th p w i) := by
   rw [acB_succ, hf, decide_eq_true (show i ≤ w by omega)]; simp
  simp only [rf_Sets.l3, if_pos (show (i : Int) ≤ (w : Int) by omega), e1, if_pos (show (0 : Int) ≤ (p : Int) by omega), rowsL_len, if_pos (show (p : Int) < ((p + 1 : Nat) : Int) by omega), if_pos (show (0 : Int) ≤ (w : Int) by omega), rowsL_get (p + 1) _ p (by omega), T4_len, if_pos (show (w : Int) < ((401 : Nat) : Int) by omega), T4_get _ w hw, hf, if_true, if_pos (show (0 : Int) ≤ (i : Int) by omega), if_pos (show (i : Int) < ((401 : Nat) : Int) by omega), T4_get _ i (show i ≤ 400 by omega), if_neg (show ¬ i < i by omega), wi i (by omega), Int.toNat_natCast]
  cases ha : acB (toSt st) (toWg wg) th p w i
  ·simp only [Bool.false_eq_true, if_false]
   simp only [Step_f st wg hok th p w i hp hw, Option.bind_some]; rw [e _ (by rw [ea, ha, Bool.false_or])]; exact ih
  ·simp only [if_true]
   rw [e true (by rw [ea, ha, Bool.true_or])]; exact ih
theorem Sets_l2 (p : Nat) (x5 : Int) (hp : p < st.length) (hok : RdOk (toSt st) (toWg wg))
  (h : Ev (fun k => rf_Sets.l4 k th x5 (rowsL (p + 1) (fwB (toSt st) (toWg wg) th)) ((p + 1 : Nat) : Int) (T4 (acB (toSt st) (toWg wg) th p 401)) 0 st wg) r) :
  ∀ (d w : Nat), w + d = 401 → Ev (fun k => rf_Sets.l2 k th x5 (rowsL (p + 1) (fwB (toSt st) (toWg wg) th)) ((p + 1 : Nat) : Int) (T4 (acB (toSt st) (toWg wg) th p w)) (w : Int) st wg) r
 | 0, w, hd => by
  obtain rfl : w = 401 := by omega
  refine Ev.up ?_; simp only [rf_Sets.l2, if_neg (show ¬ (((401 : Nat)) : Int) ≤ 400 by omega)]; refine Ev.up ?_; simp only [rf_Sets.j3, Bool.false_eq_true, if_false]; exact h
 | d + 1, w, hd => by
  have ih := Sets_l2 p x5 hp hok h d (w + 1) (by omega); refine Ev.up ?_; simp only [rf_Sets.l2, if_pos (show (w : Int) ≤ 400 by omega)]; refine Ev.up ?_; simp only [rf_Sets.j3, decide_eq_true (show ((p + 1 : Nat) : Int) > 0 by omega), if_true]
  cases hf : fwB (toSt st) (toWg wg) th p w
  ·refine Ev.up ?_
   have e1 : wrap64 (((p + 1 : Nat) : Int) - 1) = (p : Int) := by
    have := hok.len; rw [toSt_len] at this; rw [wr (by omega)]; omega
   simp only [rf_Sets.l3, if_pos (show (0 : Int) ≤ (w : Int) by omega), e1, if_pos (show (0 : Int) ≤ (p : Int) by omega), rowsL_len, if_pos (show (p : Int) < ((p + 1 : Nat) : Int) by omega), rowsL_get (p + 1) _ p (by omega), T4_len, if_pos (show (w : Int) < ((401 : Nat) : Int) by omega), T4_get _ w (show w ≤ 400 by omega), hf, Bool.false_eq_true, if_false, wi w (by omega)]; rw [T4_congr (g := acB (toSt st) (toWg wg) th p w) (h := acB (toSt st) (toWg wg) th p (w + 1)) (fun j hj => by rw [acB_succ, hf]; simp)]; exact ih
  ·have h3 := Sets_l3 st wg th r 0 p x5 hp w (by omega) hok ih hf (w + 1) 0 (by omega)
   simp only [show ∀ v, ¬ (v < 0) from fun v => by omega, if_false] at h3; exact h3
theorem Sets_l4 (p : Nat) (x5 : Int) (x6 : List (List Bool)) (hx : x6.length ≤ 1000) (hok : RdOk (toSt st) (toWg wg)) (hl : wg.length ≤ 1000) (g : Nat → Bool) (hp : p ≤ 1000)
  (h : Ev (fun k => rf_Sets.l0 k th x5 (x6 ++ [T4 fun v => g v && fitB (toWg wg) (p : Int) v]) ((p + 1 : Nat) : Int) st wg) r) :
  ∀ (d i : Nat), i + d = 401 → Ev (fun k => rf_Sets.l4 k th x5 x6 (p : Int) (T4 fun v => if v < i then (g v && fitB (toWg wg) (p : Int) v) else g v) (i : Int) st wg) r
 | 0, i, hd => by
  refine Ev.up ?_; simp only [rf_Sets.l4, if_neg (show ¬ (i : Int) ≤ 400 by omega), if_pos (show x6.length < 5864062014805 by omega), wi p (by omega)]; rw [T4_congr (h := fun v => g v && fitB (toWg wg) (p : Int) v) (fun j hj => if_pos (show j < i by omega))]; exact h
 | d + 1, i, hd => by
  have ih := Sets_l4 p x5 x6 hx hok hl g hp h d (i + 1) (by omega); refine Ev.up ?_
  have e : ∀ b, b = (g i && fitB (toWg wg) (p : Int) i) → (T4 fun v => if v < i then (g v && fitB (toWg wg) (p : Int) v) else g v).set i b = T4 fun v => if v < i + 1 then (g v && fitB (toWg wg) (p : Int) v) else g v := by
   intro b hb; rw [T4_set, hb]; refine T4_congr (fun j hj => ?_)
   by_cases e1 : j = i
   ·rw [if_pos e1, if_pos (show j < i + 1 by omega), e1]
   ·rw [if_neg e1]
    by_cases e2 : j < i
    ·rw [if_pos e2, if_pos (show j < i + 1 by omega)]
    ·rw [if_neg e2, if_neg (show ¬ j < i + 1 by omega)]
  simp only [rf_Sets.l4, if_pos (show (i : Int) ≤ 400 by omega), if_pos (show (0 : Int) ≤ (i : Int) by omega), T4_len, if_pos (show (i : Int) < ((401 : Nat) : Int) by omega), T4_get _ i (show i ≤ 400 by omega), if_neg (show ¬ i < i by omega), wi i (by omega), Int.toNat_natCast]
  cases hg : g i
  ·simp only [Bool.false_eq_true, if_false]
   rw [e false (by rw [hg]; rfl)]; exact ih
  ·simp only [if_true]
   refine Ev.bind (Fits_f st wg hok.wgs hl (p : Int) (i : Int)) ?_; rw [e _ (by rw [hg, Bool.true_and])]; exact ih
theorem Sets_l0 (hok : RdOk (toSt st) (toWg wg)) (hl : wg.length ≤ 1000) (hs : st.length ≤ 500)
  (h : Ev (fun k => rf_Sets.l5 k th (rowsL (st.length + 1) (fwB (toSt st) (toWg wg) th)) ((st.length : Int) - 1) st wg) r) :
  ∀ (d p : Nat), p + d = st.length + 1 → Ev (fun k => rf_Sets.l0 k th ((st.length : Int) + 1) (rowsL p (fwB (toSt st) (toWg wg) th)) (p : Int) st wg) r
 | 0, p, hd => by
  obtain rfl : p = st.length + 1 := by omega
  refine Ev.up ?_; simp only [rf_Sets.l0, if_neg (show ¬ ((st.length + 1 : Nat) : Int) < (st.length : Int) + 1 by omega)]; rw [wr (by omega), show (st.length : Int) + 1 - 2 = (st.length : Int) - 1 by omega]; exact h
 | d + 1, p, hd => by
  have ih := Sets_l0 hok hl hs h d (p + 1) (by omega); refine Ev.up ?_; simp only [rf_Sets.l0, if_pos (show (p : Int) < (st.length : Int) + 1 by omega), if_pos (show 401 ≤ 281474976710656 by omega)]
  have e0 : List.replicate 401 false = T4 fun w => if w < 0 then (if p = 0 then fitB (toWg wg) 0 w else false) else false := by
   unfold T4
   rw [List.map_congr_left (g := fun _ => false) (fun j _ => if_neg (show ¬ j < 0 by omega)), List.map_const', List.length_range]
  rw [e0]; refine Sets_l1 st wg th r p (rowsL p (fwB (toSt st) (toWg wg) th)) ((st.length : Int) + 1) (fun _ => false) ?_ hok hl 401 0 (by omega); rw [← rowsL_succ] at ih
  match p, hd, ih with
  | 0, hd, ih =>
   refine Ev.up ?_; simp only [rf_Sets.l2, if_pos (show (0 : Int) ≤ 400 by omega), Int.natCast_zero, Int.ofNat_eq_natCast]; refine Ev.up ?_; simp only [rf_Sets.j3, decide_eq_false (show ¬ ((0 : Int) > 0) by omega), Bool.false_eq_true, if_false, if_true]
   have h4 := Sets_l4 st wg th r 0 ((st.length : Int) + 1) (rowsL 0 (fwB (toSt st) (toWg wg) th)) (by simp [rowsL]) hok hl (fun w => fitB (toWg wg) 0 w) (by omega) (by
    rw [T4_congr (h := fwB (toSt st) (toWg wg) th 0) (fun j hj => by
     show (fitB (toWg wg) 0 j && fitB (toWg wg) ((0 : Nat) : Int) j) = fitB (toWg wg) 0 j
     simp)]
    exact ih) 401 0 (by omega)
   simp only [show ∀ v, ¬ (v < 0) from fun v => by omega, if_false] at h4; exact h4
  | p + 1, hd, ih =>
   have e1 : (T4 fun w => if p + 1 = 0 then fitB (toWg wg) 0 w else false) = T4 (acB (toSt st) (toWg wg) th p 0) := T4_congr (fun j hj => by rw [if_neg (by omega)]; rfl); rw [e1]; refine Sets_l2 st wg th r p ((st.length : Int) + 1) (by omega) hok ?_ 401 0 (by omega)
   have h4 := Sets_l4 st wg th r (p + 1) ((st.length : Int) + 1) (rowsL (p + 1) (fwB (toSt st) (toWg wg) th)) (by rw [rowsL_len]; omega) hok hl (acB (toSt st) (toWg wg) th p 401) (by omega) (by
    rw [T4_congr (h := fwB (toSt st) (toWg wg) th (p + 1)) (fun j hj => by
     rw [Bool.and_comm]
     rfl)]
    exact ih) 401 0 (by omega)
   simp only [show ∀ v, ¬ (v < 0) from fun v => by omega, if_false] at h4; exact h4
end
end Go.Proofs.YtemingmeidmjkaaDoor.Q
namespace Go.Proofs.YtemingmeidmjkaaDoor.Q
open Go.RowKit Go.Proofs.YtemingmeidmjkaaDoorW.PrintWords
set_option linter.unusedVariables false
set_option linter.unusedSimpArgs false
def anF (f : Nat → Bool) : Nat → Nat → Bool
 | 0, _ => false
 | d + 1, i => f i || anF f d (i + 1)
theorem anF_eq (f : Nat → Bool) : ∀ (d i : Nat), anF f d i = (List.range d).any fun t => f (i + t)
 | 0, i => rfl
 | d + 1, i => by
  rw [anF, anF_eq f d (i + 1), List.range_succ_eq_map, List.any_cons, List.any_map]
  congr 1
  congr 1
  funext t
  simp only [Function.comp]; rw [show i + 1 + t = i + (t + 1) by omega]
theorem anF_zero (f : Nat → Bool) (d : Nat) : anF f d 0 = (List.range d).any f := by
 rw [anF_eq]
 congr 1
 funext t
 rw [Nat.zero_add]
def upR (R : Nat → Nat → Bool) (p w : Nat) (b : Bool) : Nat → Nat → Bool := fun q => if q = p then (fun j => if j = w then b else R p j) else R q
section
variable (st : List S41) (wg : List S80) (th : Int) (r : List (List Bool))
theorem Sets_l7 (n p w : Nat) (hn : n = st.length + 1) (hp : p < st.length) (hw : w ≤ 400) (hok : RdOk (toSt st) (toWg wg)) (R : Nat → Nat → Bool) : ∀ (d i : Nat) (c : Bool), i + d = w + 1 → (c = true → R p w = true) →
  Ev (fun k => rf_Sets.l6 k th (rowsL n (upR R p w (R p w && (c || anF (fun v => R (p + 1) v && stpB (toSt st) th p w v) d i)))) (p : Int) ((w + 1 : Nat) : Int) st wg) r →
  Ev (fun k => rf_Sets.l7 k th (rowsL n R) (p : Int) (w : Int) c (i : Int) st wg) r
 | 0, i, c, hd, hc, h => by
  refine Ev.up ?_
  have e : (R p w && (c || anF (fun v => R (p + 1) v && stpB (toSt st) th p w v) 0 i)) = c := by
   cases c
   ·simp [anF]
   ·rw [hc rfl]; rfl
  rw [e] at h; simp only [rf_Sets.l7, if_neg (show ¬ (i : Int) ≤ (w : Int) by omega), if_pos (show (0 : Int) ≤ (p : Int) by omega), rowsL_len, if_pos (show (p : Int) < (n : Int) by omega), if_pos (show (0 : Int) ≤ (w : Int) by omega), rowsL_get n R p (by omega), T4_len, if_pos (show (w : Int) < ((401 : Nat) : Int) by omega), Int.toNat_natCast, T4_set, wi w (by omega)]; rw [rowsL_set n R p _ (by omega)]; exact h
 | d + 1, i, c, hd, hc, h => by
  have hset : ∀ b, (rowsL n R).set p ((T4 (R p)).set w b) = rowsL n (upR R p w b) := by
   intro b; rw [T4_set, rowsL_set n R p _ (by omega)]; rfl
  have hlen := hok.len; rw [toSt_len] at hlen; refine Ev.up ?_; simp only [rf_Sets.l7, if_pos (show (i : Int) ≤ (w : Int) by omega), if_pos (show (0 : Int) ≤ (p : Int) by omega), rowsL_len, if_pos (show (p : Int) < (n : Int) by omega), if_pos (show (0 : Int) ≤ (w : Int) by omega), rowsL_get n R p (by omega), T4_len, if_pos (show (w : Int) < ((401 : Nat) : Int) by omega), Int.toNat_natCast, T4_get _ w hw, wi w (by omega), hset]
  cases hr : R p w
  ·have hcf : c = false := by
    cases c
    ·rfl
    ·rw [hc rfl] at hr; cases hr
   subst hcf; rw [hr] at h; simp only [Bool.false_and] at h; simp only [Bool.false_eq_true, if_false]; exact h
  ·simp only [if_true]
   cases c
   ·simp only [Bool.false_eq_true, if_false, wi p (by omega), if_pos (show (0 : Int) ≤ ((p + 1 : Nat) : Int) by omega), if_pos (show ((p + 1 : Nat) : Int) < (n : Int) by omega), if_pos (show (0 : Int) ≤ (i : Int) by omega), rowsL_get n R (p + 1) (by omega), T4_len, if_pos (show (i : Int) < ((401 : Nat) : Int) by omega), T4_get _ i (show i ≤ 400 by omega), wi i (by omega)]
    rw [hr] at h; simp only [anF, Bool.true_and, Bool.false_or] at h
    cases h2 : R (p + 1) i
    ·simp only [Bool.false_eq_true, if_false]
     refine Sets_l7 n p w hn hp hw hok R d (i + 1) false (by omega) (fun e => by cases e) ?_; rw [hr]; rw [h2] at h
     simpa using h
    ·simp only [if_true, Step_f st wg hok th p w i hp hw, Option.bind_some]
     refine Sets_l7 n p w hn hp hw hok R d (i + 1) _ (by omega) (fun _ => hr) ?_; rw [hr]; rw [h2] at h
     simpa using h
   ·simp only [if_true]
    rw [hr] at h; simp only [Bool.true_or, Bool.and_self] at h; exact h
def bkR (R : Nat → Nat → Bool) (th : Int) (sts : List Sp) (p : Nat) : Nat → Bool := fun w => R p w && (List.range (w + 1)).any fun v => R (p + 1) v && stpB sts th p w v
def atR (R : Nat → Nat → Bool) (th : Int) (sts : List Sp) (p i : Nat) : Nat → Nat → Bool := fun q => if q = p then (fun w => if w < i then bkR R th sts p w else R p w) else R q
theorem Sets_l6 (n p : Nat) (hn : n = st.length + 1) (hp : p < st.length) (hok : RdOk (toSt st) (toWg wg)) (R : Nat → Nat → Bool)
  (h : Ev (fun k => rf_Sets.l5 k th (rowsL n (atR R th (toSt st) p 401)) ((p : Int) - 1) st wg) r) : ∀ (d i : Nat), i + d = 401 → Ev (fun k => rf_Sets.l6 k th (rowsL n (atR R th (toSt st) p i)) (p : Int) (i : Int) st wg) r
 | 0, i, hd => by
  obtain rfl : i = 401 := by omega
  refine Ev.up ?_; have hlen := hok.len; rw [toSt_len] at hlen; simp only [rf_Sets.l6, if_neg (show ¬ ((401 : Nat) : Int) ≤ 400 by omega)]; rw [wr (by omega)]; exact h
 | d + 1, i, hd => by
  have ih := Sets_l6 n p hn hp hok R h d (i + 1) (by omega); refine Ev.up ?_; simp only [rf_Sets.l6, if_pos (show (i : Int) ≤ 400 by omega)]; refine Sets_l7 st wg th r n p i hn hp (by omega) hok (atR R th (toSt st) p i) (i + 1) 0 false (by omega) (fun e => by cases e) ?_
  have e : rowsL n (upR (atR R th (toSt st) p i) p i (atR R th (toSt st) p i p i && (false || anF (fun v => atR R th (toSt st) p i (p + 1) v && stpB (toSt st) th p i v) (i + 1) 0))) = rowsL n (atR R th (toSt st) p (i + 1)) := by
   refine rowsL_congr (fun q hq j hj => ?_)
   have a1 : atR R th (toSt st) p i p i = R p i := by simp [atR]
   have a2 : ∀ v, atR R th (toSt st) p i (p + 1) v = R (p + 1) v := fun v => by simp [atR]
   have a3 : (atR R th (toSt st) p i p i && (false || anF (fun v => atR R th (toSt st) p i (p + 1) v && stpB (toSt st) th p i v) (i + 1) 0)) = bkR R th (toSt st) p i := by
    rw [a1, Bool.false_or, anF_zero]; simp only [a2]; rfl
   rw [a3]
   by_cases e1 : q = p
   ·subst e1
    simp only [upR, if_true, atR]
    by_cases e2 : j = i
    ·subst e2
     simp
    ·rw [if_neg e2]
     by_cases e3 : j < i
     ·rw [if_pos e3, if_pos (show j < i + 1 by omega)]
     ·rw [if_neg e3, if_neg (show ¬ j < i + 1 by omega)]
   ·simp only [upR, if_neg e1, atR]
  rw [e]; exact ih
def gR (sts : List Sp) (wgs : List Wg) (th : Int) (p : Nat) : Nat → Nat → Bool := fun q => if q < p then fwB sts wgs th q else fuB sts wgs th (sts.length - q) q
theorem Sets_l5 (hok : RdOk (toSt st) (toWg wg)) : ∀ (p : Nat), p ≤ st.length → Ev (fun k => rf_Sets.l5 k th (rowsL (st.length + 1) (gR (toSt st) (toWg wg) th p)) ((p : Int) - 1) st wg) (rowsL (st.length + 1) fun q => fuB (toSt st) (toWg wg) th (st.length - q) q)
 | 0, _ => by
  refine Ev.up ?_; simp only [rf_Sets.l5, if_neg (show ¬ (((0 : Nat) : Int) - 1 ≥ 0) by omega)]; rw [rowsL_congr (S := fun q => fuB (toSt st) (toWg wg) th (st.length - q) q) (fun q _ j _ => by simp [gR, toSt_len])]; exact Ev.now _
 | p + 1, hp => by
  have ih := Sets_l5 hok p (by omega); refine Ev.up ?_; rw [show ((p + 1 : Nat) : Int) - 1 = (p : Int) by omega]; simp only [rf_Sets.l5, if_pos (show (p : Int) ≥ 0 by omega)]
  have e : rowsL (st.length + 1) (gR (toSt st) (toWg wg) th (p + 1)) = rowsL (st.length + 1) (atR (gR (toSt st) (toWg wg) th (p + 1)) th (toSt st) p 0) := by
   refine rowsL_congr (fun q _ j _ => ?_)
   unfold atR
   by_cases e1 : q = p
   ·rw [if_pos e1, e1]; simp
   ·rw [if_neg e1]
  rw [e]; refine Sets_l6 st wg th _ (st.length + 1) p rfl (by omega) hok (gR (toSt st) (toWg wg) th (p + 1)) ?_ 401 0 (by omega)
  have e2 : rowsL (st.length + 1) (atR (gR (toSt st) (toWg wg) th (p + 1)) th (toSt st) p 401) = rowsL (st.length + 1) (gR (toSt st) (toWg wg) th p) := by
   refine rowsL_congr (fun q _ j hj => ?_)
   unfold atR
   by_cases e1 : q = p
   ·subst e1
    rw [if_pos rfl]; simp only [if_pos (show j < 401 by omega)]
    unfold bkR gR
    simp only [if_pos (show q < q + 1 by omega), if_neg (show ¬ q + 1 < q + 1 by omega), if_neg (show ¬ q < q by omega), toSt_len]; rw [show st.length - q = (st.length - (q + 1)) + 1 by omega]; rfl
   ·rw [if_neg e1]
    unfold gR
    by_cases e3 : q < p
    ·rw [if_pos e3, if_pos (show q < p + 1 by omega)]
    ·rw [if_neg e3, if_neg (show ¬ q < p + 1 by omega)]
  rw [e2]; exact ih
theorem Sets_f (hok : RdOk (toSt st) (toWg wg)) (hl : wg.length ≤ 1000) (hs : st.length ≤ 500) : Ev (fun k => rf_Sets.f k st wg th) (rowsL (st.length + 1) fun q => fuB (toSt st) (toWg wg) th (st.length - q) q) := by
 unfold rf_Sets.f
 rw [wr (by omega)]; have h5 := Sets_l5 st wg th hok st.length (Nat.le_refl _)
 have e : rowsL (st.length + 1) (gR (toSt st) (toWg wg) th st.length) = rowsL (st.length + 1) (fwB (toSt st) (toWg wg) th) := by
  refine rowsL_congr (fun q hq j _ => ?_)
  unfold gR
  by_cases e1 : q < st.length
  ·rw [if_pos e1]
  ·rw [if_neg e1, toSt_len, show st.length - q = 0 by omega]
   rfl
 rw [e] at h5; exact Sets_l0 st wg th _ hok hl hs h5 (st.length + 1) 0 (by omega)
end
end Go.Proofs.YtemingmeidmjkaaDoor.Q
namespace Go.Proofs.YtemingmeidmjkaaDoor.Q
open Go.RowKit Go.Proofs.YtemingmeidmjkaaDoorW.PrintWords
set_option linter.unusedVariables false
set_option linter.unusedSimpArgs false
theorem trimLo_in {st after : Sp} (h : stB st) (w : Int) : ∀ (n : Nat) (s : Sp), s.hi - s.lo + 1 ≤ n → (inS (trimLo st after n s) w ↔ inS s w ∧ after.lo ≤ hiS st w)
 | 0, s, hn => by
  unfold trimLo inS
  omega
 | n + 1, s, hn => by
  unfold trimLo
  by_cases h1 : s.lo > s.hi
  ·rw [if_pos h1]
   unfold inS
   omega
  ·rw [if_neg h1]
   by_cases h2 : hiS st s.lo < after.lo
   ·rw [if_pos h2, trimLo_in h w n _ (by simp only; omega)]
    unfold inS
    simp only
    constructor
    ·rintro ⟨h3, h4⟩; exact ⟨by omega, h4⟩
    ·rintro ⟨h3, h4⟩
     refine ⟨⟨?_, h3.2⟩, h4⟩
     by_cases e : w = s.lo
     ·rw [e] at h4; omega
     ·omega
   ·rw [if_neg h2]
    constructor
    ·intro h3
     have := hiS_mono h (w := s.lo) (w' := w) h3.1; exact ⟨h3, by omega⟩
    ·exact fun h3 => h3.1
theorem trimHi_in {st after : Sp} (h : stB st) (w : Int) : ∀ (n : Nat) (s : Sp), s.hi - s.lo + 1 ≤ n → (inS (trimHi st after n s) w ↔ inS s w ∧ loS st w ≤ after.hi)
 | 0, s, hn => by
  unfold trimHi inS
  omega
 | n + 1, s, hn => by
  unfold trimHi
  by_cases h1 : s.lo > s.hi
  ·rw [if_pos h1]
   unfold inS
   omega
  ·rw [if_neg h1]
   by_cases h2 : loS st s.hi > after.hi
   ·rw [if_pos h2, trimHi_in h w n _ (by simp only; omega)]
    unfold inS
    simp only
    constructor
    ·rintro ⟨h3, h4⟩; exact ⟨by omega, h4⟩
    ·rintro ⟨h3, h4⟩
     refine ⟨⟨h3.1, ?_⟩, h4⟩
     by_cases e : w = s.hi
     ·rw [e] at h4; omega
     ·omega
   ·rw [if_neg h2]
    constructor
    ·intro h3
     have := loS_mono h (w := w) (w' := s.hi) h3.2; exact ⟨h3, by omega⟩
    ·exact fun h3 => h3.1
theorem ok_len {s : Sp} (h : okS s) : s.hi - s.lo + 1 ≤ ((402 : Nat) : Int) := by
 unfold okS at h
 omega
theorem back_in {st s after : Sp} (h : stB st) (hs : okS s) (w : Int) : inS (backS st s after) w ↔ inS s w ∧ ∃ v, inS after v ∧ loS st w ≤ v ∧ v ≤ hiS st w := by
 unfold backS
 by_cases ha : after.lo > after.hi
 ·rw [if_pos ha]
  constructor
  ·intro h1; unfold inS at h1; omega
  ·rintro ⟨_, v, h1, _⟩; unfold inS at h1; omega
 ·rw [if_neg ha, trimHi_in h w 402 _ (ok_len (trimLo_ok _ _ _ _ hs)), trimLo_in h w 402 _ (ok_len hs)]
  constructor
  ·rintro ⟨⟨h1, h2⟩, h3⟩
   have h0 : 0 ≤ w := by unfold okS inS at *; omega
   exact ⟨h1, (meets st after w h h0).2 ⟨by omega, h2, h3⟩⟩
  ·rintro ⟨h1, h2⟩
   have h0 : 0 ≤ w := by unfold okS inS at *; omega
   obtain ⟨_, h3, h4⟩ := (meets st after w h h0).1 h2; exact ⟨⟨h1, h3⟩, h4⟩
theorem on_in {st s : Sp} (h : stB st) (hs : okS s) (v : Int) : inS (onS st s) v ↔ ∃ w, inS s w ∧ loS st w ≤ v ∧ v ≤ hiS st w := by
 by_cases hn : s.lo > s.hi
 ·constructor
  ·intro h1
   unfold onS at h1
   rw [if_pos hn] at h1
   unfold inS at h1
   omega
  ·rintro ⟨w, h1, _⟩
   unfold inS at h1
   omega
 ·exact onS_mem h s (by unfold okS at hs; omega) v
theorem goL_rd : ∀ (ts l : List Sp), l.length = ts.length + 1 → (∀ i : Nat, i < ts.length → rdS (goL ts l) (i : Int) = backS (rdS ts (i : Int)) (rdS l (i : Int)) (rdS (goL ts l) ((i + 1 : Nat) : Int))) ∧ rdS (goL ts l) (ts.length : Int) = rdS l (ts.length : Int)
 | [], l, h => ⟨fun i hi => by simp at hi, by cases l <;> rfl⟩
 | t :: ts, [], h => by simp at h
 | t :: ts, s :: l, h => by
  have hl : l.length = ts.length + 1 := by simpa using h
  obtain ⟨h1, h2⟩ := goL_rd ts l hl
  have sh : ∀ (x : Sp) (m : List Sp) (j : Nat), rdS (x :: m) ((j + 1 : Nat) : Int) = rdS m (j : Int) := fun x m j => by
   unfold rdS
   rw [Int.toNat_natCast, Int.toNat_natCast, List.getD_cons_succ]
  refine ⟨fun i hi => ?_, ?_⟩
  ·match i with
   | 0 =>
    rw [goL, sh]
    have e : (goL ts l).headD z_Sp = rdS (goL ts l) ((0 : Nat) : Int) := by
     cases goL ts l <;> rfl
    rw [e]; rfl
   | i + 1 =>
    rw [goL, sh, sh, sh, sh]; exact h1 i (by simpa using hi)
  ·rw [goL, List.length_cons, sh, sh]
   exact h2
section
variable {st : List Sp} {wg : List Wg}
theorem stp_hon {p w v : Nat} : stpB st (-1) p w v = true ↔ loS (rdS st p) w ≤ v ∧ (v : Int) ≤ hiS (rdS st p) w := by
 unfold stpB
 rw [if_neg (by omega), inB_one]
theorem fw_come (hok : RdOk st wg) : ∀ (p : Nat), p ≤ st.length → ∀ w : Nat, w ≤ 400 → (fwB st wg (-1) p w = true ↔ inS (comeAt st wg p) (w : Int))
 | 0, _, w, hw => fit_seen wg 0 (w : Int) (by omega)
 | p + 1, hp, v, hv => by
  have ih := fw_come hok p (by omega); have ho := comeAt_ok hok p (by omega); have hst := hok.at (p : Int) (by omega) (by omega); rw [comeAt, inS_and, on_in hst ho, fwB, Bool.and_eq_true, fit_seen wg _ (v : Int) (by omega), List.any_eq_true]
  constructor
  ·rintro ⟨h1, w, hw, h2⟩
   have hw4 := List.mem_range.1 hw; simp only [Bool.and_eq_true, decide_eq_true_eq] at h2; exact ⟨⟨(w : Int), (ih w (by omega)).1 h2.1.2, stp_hon.1 h2.2⟩, h1⟩
  ·rintro ⟨⟨w, h1, h2, h3⟩, h4⟩
   have hb : 0 ≤ w ∧ w ≤ 400 := by unfold okS inS at *; omega
   have h5 := hiS_le hst (w := w) hb.1; obtain ⟨m, rfl⟩ : ∃ m : Nat, w = (m : Int) := ⟨w.toNat, by omega⟩; refine ⟨h4, m, List.mem_range.2 (by omega), ?_⟩; simp only [Bool.and_eq_true, decide_eq_true_eq]; exact ⟨⟨by omega, (ih m (by omega)).2 h1⟩, stp_hon.2 ⟨h2, h3⟩⟩
theorem comeL_rd' (st : List Sp) (wg : List Wg) (j : Nat) (h : j ≤ st.length) : rdS (comeL st wg) (j : Int) = comeAt st wg j := by
 rw [rdS_nat _ _ (by rw [comeL_len]; omega)]
 simp [comeL]
theorem honL_okS (hok : RdOk st wg) (p : Nat) (hp : p ≤ st.length) : okS (rdS (honL st wg) (p : Int)) := by
 rw [rdS_nat _ _ (by rw [honL_len]; omega)]; exact goL_ok st (comeL st wg) (comeL_ok hok) _ (List.getElem_mem _)
theorem fu_hon (hok : RdOk st wg) : ∀ (d p : Nat), p + d = st.length → ∀ w : Nat, w ≤ 400 → (fuB st wg (-1) d p w = true ↔ inS (rdS (honL st wg) (p : Int)) (w : Int))
 | 0, p, hp, w, hw => by
  obtain rfl : p = st.length := by omega
  have h := (goL_rd st (comeL st wg) (comeL_len st wg)).2; rw [honL, h, comeL_rd' st wg _ (Nat.le_refl _)]; exact fw_come hok _ (Nat.le_refl _) w hw
 | d + 1, p, hp, w, hw => by
  have ih := fu_hon hok d (p + 1) (by omega); have h := (goL_rd st (comeL st wg) (comeL_len st wg)).1 p (by omega); have hst := hok.at (p : Int) (by omega) (by omega); have ho := comeAt_ok hok p (by omega); have ho2 := honL_okS hok (p + 1) (by omega); rw [honL, h, comeL_rd' st wg p (by omega), back_in hst ho, fuB, Bool.and_eq_true, fw_come hok p (by omega) w hw, List.any_eq_true]
  constructor
  ·rintro ⟨h1, v, hv, h2⟩
   have hv4 := List.mem_range.1 hv; simp only [Bool.and_eq_true] at h2; exact ⟨h1, (v : Int), (ih v (by omega)).1 h2.1, stp_hon.1 h2.2⟩
  ·rintro ⟨h1, v, h2, h3, h4⟩
   have h5 := hiS_le hst (w := (w : Int)) (by omega)
   have hv0 : 0 ≤ v := by
    have : inS (rdS (honL st wg) ((p + 1 : Nat) : Int)) v := h2
    unfold okS inS at *
    omega
   obtain ⟨m, rfl⟩ : ∃ m : Nat, v = (m : Int) := ⟨v.toNat, by omega⟩; refine ⟨h1, m, List.mem_range.2 (by omega), ?_⟩; rw [Bool.and_eq_true]; exact ⟨(ih m (by omega)).2 h2, stp_hon.2 ⟨h3, h4⟩⟩
theorem hon_is (hok : RdOk st wg) : honB st wg = true ↔ ∃ w : Nat, w ≤ 400 ∧ fuB st wg (-1) st.length 0 w = true := by
 have hn : honB st wg = true ↔ ∀ p : Nat, p ≤ st.length → ¬ (rdS (honL st wg) (p : Int)).lo > (rdS (honL st wg) (p : Int)).hi := by
  unfold honB
  rw [Bool.not_eq_true', List.any_eq_false]
  constructor
  ·intro h p hp
   have h1 := h (rdS (honL st wg) (p : Int)) (by rw [rdS_nat _ _ (by rw [honL_len]; omega)]; exact List.getElem_mem _)
   simpa [noneB] using h1
  ·intro h s hs
   obtain ⟨i, hi, rfl⟩ := List.getElem_of_mem hs; have h1 := h i (by rw [honL_len] at hi; omega); rw [rdS_nat _ _ hi] at h1
   simpa [noneB] using h1
 rw [hn]
 constructor
 ·intro h
  have h0 := h 0 (by omega); have ho := honL_okS hok 0 (by omega)
  generalize hs : rdS (honL st wg) ((0 : Nat) : Int) = s at *
  have hb : 0 ≤ s.lo ∧ s.lo ≤ s.hi ∧ s.hi ≤ 400 := by unfold okS at ho; omega
  refine ⟨s.lo.toNat, by omega, (fu_hon hok st.length 0 (by omega) _ (by omega)).2 ?_⟩; rw [hs]
  unfold inS
  omega
 ·rintro ⟨w, hw, h⟩
  have key : ∀ (d p : Nat), p + d = st.length → (∃ w : Nat, w ≤ 400 ∧ fuB st wg (-1) d p w = true) → ∀ q : Nat, p ≤ q → q ≤ st.length → ¬ (rdS (honL st wg) (q : Int)).lo > (rdS (honL st wg) (q : Int)).hi := by
   intro d
   induction d with
   | zero =>
    rintro p hp ⟨w, hw, h⟩ q h1 h2
    obtain rfl : q = p := by omega
    have := (fu_hon hok 0 q (by omega) w hw).1 h
    unfold inS at this
    omega
   | succ d ih =>
    rintro p hp ⟨w, hw, h⟩ q h1 h2
    by_cases e : q = p
    ·subst e
     have := (fu_hon hok (d + 1) q (by omega) w hw).1 h
     unfold inS at this
     omega
    ·rw [fuB, Bool.and_eq_true, List.any_eq_true] at h
     obtain ⟨_, v, hv, h3⟩ := h; have hv4 := List.mem_range.1 hv; rw [Bool.and_eq_true] at h3; exact ih (p + 1) (by omega) ⟨v, by omega, h3.1⟩ q (by omega) h2
  exact fun p hp => key st.length 0 (by omega) ⟨w, hw, h⟩ p (by omega) hp
end
end Go.Proofs.YtemingmeidmjkaaDoor.Q
namespace Go.Proofs.YtemingmeidmjkaaDoor.Q
open Go.RowKit Go.Proofs.YtemingmeidmjkaaDoorW.PrintWords
set_option linter.unusedVariables false
set_option linter.unusedSimpArgs false
section
variable {st : List Sp} {wg : List Wg} {s : Nat}
theorem stp_ne {p w v : Nat} (h : p ≠ s) : stpB st (s : Int) p w v = true ↔ loS (rdS st p) w ≤ v ∧ (v : Int) ≤ hiS (rdS st p) w := by
 unfold stpB
 rw [if_neg (by omega), inB_one]
theorem stp_at {w v : Nat} : stpB st (s : Int) s w v = true ↔ (v : Int) < hiS (rdS st s) w := by
 unfold stpB
 rw [if_pos rfl, decide_eq_true_eq]
theorem fw_step (hok : RdOk st wg) (p : Nat) (hp : p < st.length) (hps : p ≠ s) (X : Sp) (hX : okS X) (ih : ∀ w : Nat, w ≤ 400 → (fwB st wg s p w = true ↔ inS X (w : Int))) (v : Nat) (hv : v ≤ 400) :
  fwB st wg s (p + 1) v = true ↔ inS (andS (onS (rdS st p) X) (seenS wg ((p + 1 : Nat) : Int))) (v : Int) := by
 have hst := hok.at (p : Int) (by omega) (by omega); rw [inS_and, on_in hst hX, fwB, Bool.and_eq_true, fit_seen wg _ (v : Int) (by omega), List.any_eq_true]
 constructor
 ·rintro ⟨h1, w, hw, h2⟩
  have hw4 := List.mem_range.1 hw; simp only [Bool.and_eq_true, decide_eq_true_eq] at h2; exact ⟨⟨(w : Int), (ih w (by omega)).1 h2.1.2, (stp_ne hps).1 h2.2⟩, h1⟩
 ·rintro ⟨⟨w, h1, h2, h3⟩, h4⟩
  have hb : 0 ≤ w ∧ w ≤ 400 := by unfold okS inS at *; omega
  have h5 := hiS_le hst (w := w) hb.1; obtain ⟨m, rfl⟩ : ∃ m : Nat, w = (m : Int) := ⟨w.toNat, by omega⟩; refine ⟨h4, m, List.mem_range.2 (by omega), ?_⟩; simp only [Bool.and_eq_true, decide_eq_true_eq]; exact ⟨⟨by omega, (ih m (by omega)).2 h1⟩, (stp_ne hps).2 ⟨h2, h3⟩⟩
theorem fw_le (hok : RdOk st wg) (hs : s < st.length) : ∀ (p : Nat), p ≤ s → ∀ w : Nat, w ≤ 400 → (fwB st wg s p w = true ↔ inS (comeAt st wg p) (w : Int))
 | 0, _, w, hw => fit_seen wg 0 (w : Int) (by omega)
 | p + 1, hp, v, hv => fw_step hok p (by omega) (by omega) _ (comeAt_ok hok p (by omega)) (fun w hw => fw_le hok hs p (by omega) w hw) v hv
theorem fw_gt (hok : RdOk st wg) (hs : s < st.length) (hne : ¬ (comeAt st wg s).lo > (comeAt st wg s).hi) : ∀ (p : Nat), s < p → p ≤ st.length → ∀ w : Nat, w ≤ 400 → (fwB st wg s p w = true ↔ inS (thA st wg s p) (w : Int))
 | 0, h, _, _, _ => by omega
 | p + 1, hp, hpn, v, hv => by
  by_cases e : p = s
  ·subst e
   have ih := fw_le hok hs p (Nat.le_refl _); have hst := hok.at (p : Int) (by omega) (by omega); have ho := comeAt_ok hok p (by omega)
   have hb : 0 ≤ (comeAt st wg p).lo ∧ (comeAt st wg p).hi ≤ 400 := by unfold okS at ho; omega
   rw [thA_at, inS_and, fwB, Bool.and_eq_true, fit_seen wg _ (v : Int) (by omega), List.any_eq_true]
   have e1 : (onS (rdS st p) (comeAt st wg p)).hi = hiS (rdS st p) (comeAt st wg p).hi := by
    unfold onS
    rw [if_neg hne]
   rw [e1]
   constructor
   ·rintro ⟨h1, w, hw, h2⟩
    have hw4 := List.mem_range.1 hw; simp only [Bool.and_eq_true, decide_eq_true_eq] at h2; have h3 := (ih w (by omega)).1 h2.1.2; have h4 := stp_at.1 h2.2; have h5 := hiS_mono hst (w := (w : Int)) (w' := (comeAt st wg p).hi) h3.2; refine ⟨?_, h1⟩
    unfold inS
    simp only; omega
   ·rintro ⟨h1, h2⟩
    unfold inS at h1
    simp only at h1; obtain ⟨m, hm⟩ : ∃ m : Nat, (comeAt st wg p).hi = (m : Int) := ⟨(comeAt st wg p).hi.toNat, by omega⟩; have h5 := hiS_le hst (w := (m : Int)) (by omega); rw [hm] at h1 hb hne; refine ⟨h2, m, List.mem_range.2 (by omega), ?_⟩; simp only [Bool.and_eq_true, decide_eq_true_eq]; refine ⟨⟨by omega, (ih m (by omega)).2 ?_⟩, stp_at.2 (by omega)⟩
    unfold inS
    rw [hm]; omega
  ·rw [thA_gt _ _ _ _ (by omega)]
   exact fw_step hok p (by omega) e _ (thA_ok hok s hs p (by omega)) (fun w hw => fw_gt hok hs hne p (by omega) (by omega) w hw) v hv
theorem rd_drop (L : List Sp) (k i : Nat) : rdS (L.drop k) (i : Int) = rdS L ((k + i : Nat) : Int) := by
 unfold rdS
 rw [Int.toNat_natCast, Int.toNat_natCast, List.getD_eq_getElem?_getD, List.getD_eq_getElem?_getD, List.getElem?_drop]
theorem rd_take (L : List Sp) (k i : Nat) (h : i < k) : rdS (L.take k) (i : Int) = rdS L (i : Int) := by
 unfold rdS
 rw [Int.toNat_natCast, List.getD_eq_getElem?_getD, List.getD_eq_getElem?_getD, List.getElem?_take, if_pos h]
theorem rd_left (L M : List Sp) (i : Nat) (h : i < L.length) : rdS (L ++ M) (i : Int) = rdS L (i : Int) := by
 unfold rdS
 rw [Int.toNat_natCast, List.getD_eq_getElem?_getD, List.getD_eq_getElem?_getD, List.getElem?_append_left h]
theorem rd_right (L M : List Sp) (i : Nat) (h : L.length ≤ i) : rdS (L ++ M) (i : Int) = rdS M ((i - L.length : Nat) : Int) := by
 unfold rdS
 rw [Int.toNat_natCast, Int.toNat_natCast, List.getD_eq_getElem?_getD, List.getD_eq_getElem?_getD, List.getElem?_append_right h]
theorem rd_sets (L : List Sp) (k i : Nat) (x : Sp) (h : k < L.length) : rdS (L.set k x) (i : Int) = if i = k then x else rdS L (i : Int) := by
 unfold rdS
 rw [Int.toNat_natCast, List.getD_eq_getElem?_getD, List.getD_eq_getElem?_getD, List.getElem?_set]
 by_cases e : k = i
 ·subst e
  rw [if_pos rfl, if_pos h, if_pos rfl]; rfl
 ·rw [if_neg e, if_neg (fun h => e h.symm)]
theorem th2_rd (hs : s < st.length) (j : Nat) (hj : j ≤ st.length) : rdS (thL2 st wg s) (j : Int) = thA st wg s j := by
 rw [thL2, thM_rd _ _ _ _ _ hj, if_pos hj]
theorem th3_le (hs : s < st.length) (j : Nat) (hj : j ≤ s) : rdS (thL3 st wg s) (j : Int) = comeAt st wg j := by
 have hl := thL2_len st wg s; rw [thL3, gst, rd_left _ _ _ (by rw [List.length_take]; omega), rd_take _ _ _ (by omega), th2_rd hs j (by omega), thA_le _ _ _ _ hj]
theorem th3_gt (hs : s < st.length) (j : Nat) (hj : s < j) (hn : j ≤ st.length) : rdS (thL3 st wg s) (j : Int) = rdS (goL (st.drop (s + 1)) ((thL2 st wg s).drop (s + 1))) ((j - (s + 1) : Nat) : Int) := by
 have hl := thL2_len st wg s; rw [thL3, gst, show (thL2 st wg s).length - (st.length - s) = s + 1 by omega, rd_right _ _ _ (by rw [List.length_take]; omega), List.length_take, show min (s + 1) (thL2 st wg s).length = s + 1 by omega]
theorem th3_last (hs : s < st.length) : rdS (thL3 st wg s) (st.length : Int) = thA st wg s st.length := by
 have hl := thL2_len st wg s; have h := (goL_rd (st.drop (s + 1)) ((thL2 st wg s).drop (s + 1)) (by rw [List.length_drop, List.length_drop]; omega)).2; rw [List.length_drop] at h; rw [th3_gt hs _ hs (Nat.le_refl _), h, rd_drop, show s + 1 + (st.length - (s + 1)) = st.length by omega, th2_rd hs _ (Nat.le_refl _)]
theorem th3_step (hs : s < st.length) (j : Nat) (hj : s < j) (hn : j < st.length) : rdS (thL3 st wg s) (j : Int) = backS (rdS st (j : Int)) (thA st wg s j) (rdS (thL3 st wg s) ((j + 1 : Nat) : Int)) := by
 have hl := thL2_len st wg s; have h := (goL_rd (st.drop (s + 1)) ((thL2 st wg s).drop (s + 1)) (by rw [List.length_drop, List.length_drop]; omega)).1 (j - (s + 1)) (by rw [List.length_drop]; omega); rw [th3_gt hs j hj (by omega), h, rd_drop, rd_drop, show s + 1 + (j - (s + 1)) = j by omega, th2_rd hs _ (by omega), th3_gt hs (j + 1) (by omega) (by omega), show j - (s + 1) + 1 = j + 1 - (s + 1) by omega]
theorem th4_rd (hs : s < st.length) (j : Nat) : rdS (thL4 st wg s) (j : Int) = if j = s then thX (rdS st s) (comeAt st wg s) (rdS (thL3 st wg s) ((s + 1 : Nat) : Int)) else rdS (thL3 st wg s) (j : Int) := by
 rw [thL4, rd_sets _ _ _ _ (by rw [thL3_len]; omega), th3_le hs s (Nat.le_refl _)]
theorem th5_gt (hs : s < st.length) (j : Nat) (hj : s < j) : rdS (thL5 st wg s) (j : Int) = rdS (thL3 st wg s) (j : Int) := by
 have hl := thL4_len st wg s
 have hg : (gst (st.take s) ((thL4 st wg s).take (s + 1)) (s + 1)).length = s + 1 := by rw [gst_len, List.length_take]; omega
 rw [thL5, thG, rd_right _ _ _ (by omega), hg, rd_drop, show s + 1 + (j - (s + 1)) = j by omega, th4_rd hs, if_neg (by omega)]
theorem th5_go (hs : s < st.length) (j : Nat) (hj : j ≤ s) : rdS (thL5 st wg s) (j : Int) = rdS (goL (st.take s) ((thL4 st wg s).take (s + 1))) (j : Int) := by
 have hl := thL4_len st wg s
 have hg : (gst (st.take s) ((thL4 st wg s).take (s + 1)) (s + 1)).length = s + 1 := by rw [gst_len, List.length_take]; omega
 rw [thL5, thG, rd_left _ _ _ (by omega), gst, List.length_take, show min (s + 1) (thL4 st wg s).length - (s + 1) = 0 by omega, List.take_zero, List.drop_zero, List.drop_zero, List.nil_append]
theorem th5_at (hs : s < st.length) : rdS (thL5 st wg s) (s : Int) = thX (rdS st s) (comeAt st wg s) (rdS (thL3 st wg s) ((s + 1 : Nat) : Int)) := by
 have hl := thL4_len st wg s; have h := (goL_rd (st.take s) ((thL4 st wg s).take (s + 1)) (by rw [List.length_take, List.length_take]; omega)).2; rw [List.length_take, show min s st.length = s by omega] at h; rw [th5_go hs s (Nat.le_refl _), h, rd_take _ _ _ (by omega), th4_rd hs, if_pos rfl]
theorem th5_lt (hs : s < st.length) (j : Nat) (hj : j < s) : rdS (thL5 st wg s) (j : Int) = backS (rdS st (j : Int)) (comeAt st wg j) (rdS (thL5 st wg s) ((j + 1 : Nat) : Int)) := by
 have hl := thL4_len st wg s; have h := (goL_rd (st.take s) ((thL4 st wg s).take (s + 1)) (by rw [List.length_take, List.length_take]; omega)).1 j (by rw [List.length_take]; omega); rw [th5_go hs j (by omega), h, rd_take _ _ _ hj, rd_take _ _ _ (by omega), th4_rd hs, if_neg (by omega), th3_le hs j (by omega), th5_go hs (j + 1) (by omega)]
theorem rd5_ok (hok : RdOk st wg) (hs : s < st.length) (j : Nat) : okS (rdS (thL5 st wg s) (j : Int)) := rd_ok (thL5_ok hok s hs) j
theorem rd3_ok (hok : RdOk st wg) (hs : s < st.length) (j : Nat) : okS (rdS (thL3 st wg s) (j : Int)) := rd_ok (thL3_ok hok s hs) j
theorem fu_step (hok : RdOk st wg) (d p : Nat) (hp : p + (d + 1) = st.length) (hps : p ≠ s) (X Y : Sp) (hX : okS X) (hY : okS Y) (hf : ∀ w : Nat, w ≤ 400 → (fwB st wg s p w = true ↔ inS X (w : Int)))
  (ih : ∀ w : Nat, w ≤ 400 → (fuB st wg s d (p + 1) w = true ↔ inS Y (w : Int))) (w : Nat) (hw : w ≤ 400) : fuB st wg s (d + 1) p w = true ↔ inS (backS (rdS st (p : Int)) X Y) (w : Int) := by
 have hst := hok.at (p : Int) (by omega) (by omega); rw [back_in hst hX, fuB, Bool.and_eq_true, hf w hw, List.any_eq_true]
 constructor
 ·rintro ⟨h1, v, hv, h2⟩
  have hv4 := List.mem_range.1 hv; simp only [Bool.and_eq_true] at h2; exact ⟨h1, (v : Int), (ih v (by omega)).1 h2.1, (stp_ne hps).1 h2.2⟩
 ·rintro ⟨h1, v, h2, h3, h4⟩
  have h5 := hiS_le hst (w := (w : Int)) (by omega)
  have hv0 : 0 ≤ v := by unfold okS inS at *; omega
  obtain ⟨m, rfl⟩ : ∃ m : Nat, v = (m : Int) := ⟨v.toNat, by omega⟩; refine ⟨h1, m, List.mem_range.2 (by omega), ?_⟩; rw [Bool.and_eq_true]; exact ⟨(ih m (by omega)).2 h2, (stp_ne hps).2 ⟨h3, h4⟩⟩
theorem fu_gt (hok : RdOk st wg) (hs : s < st.length) (hne : ¬ (comeAt st wg s).lo > (comeAt st wg s).hi) : ∀ (d p : Nat), p + d = st.length → s < p → ∀ w : Nat, w ≤ 400 → (fuB st wg s d p w = true ↔ inS (rdS (thL3 st wg s) (p : Int)) (w : Int))
 | 0, p, hp, hsp, w, hw => by
  obtain rfl : p = st.length := by omega
  rw [th3_last hs]; exact fw_gt hok hs hne _ hs (Nat.le_refl _) w hw
 | d + 1, p, hp, hsp, w, hw => by
  rw [th3_step hs p hsp (by omega)]; exact fu_step hok d p hp (by omega) _ _ (thA_ok hok s hs p (by omega)) (rd3_ok hok hs (p + 1)) (fun v hv => fw_gt hok hs hne p hsp (by omega) v hv) (fun v hv => fu_gt hok hs hne d (p + 1) (by omega) (by omega) v hv) w hw
theorem fu_at (hok : RdOk st wg) (hs : s < st.length) (hne : ¬ (comeAt st wg s).lo > (comeAt st wg s).hi) (hne2 : ¬ (rdS (thL3 st wg s) ((s + 1 : Nat) : Int)).lo > (rdS (thL3 st wg s) ((s + 1 : Nat) : Int)).hi) (d : Nat) (hd : s + (d + 1) = st.length) (w : Nat) (hw : w ≤ 400) :
  fuB st wg s (d + 1) s w = true ↔ inS (rdS (thL5 st wg s) (s : Int)) (w : Int) := by
 have hst := hok.at (s : Int) (by omega) (by omega); have ih := fu_gt hok hs hne d (s + 1) (by omega) (by omega); have hY := rd3_ok hok hs (s + 1); have hX := comeAt_ok hok s (by omega)
 generalize hy : rdS (thL3 st wg s) ((s + 1 : Nat) : Int) = Y at *
 rw [th5_at hs, hy, thX, trimLo_in hst _ 402 _ (ok_len hX), fuB, Bool.and_eq_true, fw_le hok hs s (Nat.le_refl _) w hw, List.any_eq_true]
 have hb : 0 ≤ Y.lo ∧ Y.hi ≤ 400 := by unfold okS at hY; omega
 have h5 := hiS_le hst (w := (w : Int)) (by omega)
 constructor
 ·rintro ⟨h1, v, hv, h2⟩
  have hv4 := List.mem_range.1 hv; simp only [Bool.and_eq_true] at h2; have h3 := (ih v (by omega)).1 h2.1; have h4 := stp_at.1 h2.2; refine ⟨h1, ?_⟩
  unfold inS at h3
  simp only; omega
 ·rintro ⟨h1, h2⟩
  simp only at h2; obtain ⟨m, hm⟩ : ∃ m : Nat, Y.lo = (m : Int) := ⟨Y.lo.toNat, by omega⟩; refine ⟨h1, m, List.mem_range.2 (by omega), ?_⟩; rw [Bool.and_eq_true]; refine ⟨(ih m (by omega)).2 ?_, stp_at.2 (by omega)⟩
  unfold inS
  omega
theorem fu_le (hok : RdOk st wg) (hs : s < st.length) (hne : ¬ (comeAt st wg s).lo > (comeAt st wg s).hi) (hne2 : ¬ (rdS (thL3 st wg s) ((s + 1 : Nat) : Int)).lo > (rdS (thL3 st wg s) ((s + 1 : Nat) : Int)).hi) : ∀ (k p d : Nat), p + k = s → p + d = st.length → ∀ w : Nat, w ≤ 400 → (fuB st wg s d p w = true ↔ inS (rdS (thL5 st wg s) (p : Int)) (w : Int))
 | 0, p, d, hk, hd, w, hw => by
  obtain rfl : p = s := by omega
  obtain ⟨d, rfl⟩ : ∃ e, d = e + 1 := ⟨d - 1, by omega⟩; exact fu_at hok hs hne hne2 d hd w hw
 | k + 1, p, d, hk, hd, w, hw => by
  obtain ⟨d, rfl⟩ : ∃ e, d = e + 1 := ⟨d - 1, by omega⟩; rw [th5_lt hs p (by omega)]; exact fu_step hok d p hd (by omega) _ _ (comeAt_ok hok p (by omega)) (rd5_ok hok hs (p + 1)) (fun v hv => fw_le hok hs p (by omega) v hv) (fun v hv => fu_le hok hs hne hne2 k (p + 1) d (by omega) (by omega) v hv) w hw
theorem any_none {L : List Sp} {n : Nat} (hl : L.length = n + 1) : L.any noneB = false ↔ ∀ p : Nat, p ≤ n → ¬ (rdS L (p : Int)).lo > (rdS L (p : Int)).hi := by
 rw [List.any_eq_false]
 constructor
 ·intro h p hp
  have h1 := h (rdS L (p : Int)) (by rw [rdS_nat _ _ (by omega)]; exact List.getElem_mem _)
  simpa [noneB] using h1
 ·intro h x hx
  obtain ⟨i, hi, rfl⟩ := List.getElem_of_mem hx; have h1 := h i (by omega); rw [rdS_nat _ _ hi] at h1
  simpa [noneB] using h1
theorem fu_fw (d : Nat) : ∀ (p w : Nat), fuB st wg s d p w = true → fwB st wg s p w = true := by
 intro p w h
 cases d with
 | zero => exact h
 | succ d => rw [fuB, Bool.and_eq_true] at h; exact h.1
theorem fu_chain : ∀ (d p w : Nat), w ≤ 400 → fuB st wg s d p w = true → ∀ q : Nat, p ≤ q → q ≤ p + d → ∃ v : Nat, v ≤ 400 ∧ fuB st wg s (p + d - q) q v = true
 | 0, p, w, hw, h, q, h1, h2 => by
  obtain rfl : q = p := by omega
  exact ⟨w, hw, by rw [show q + 0 - q = 0 by omega]; exact h⟩
 | d + 1, p, w, hw, h, q, h1, h2 => by
  by_cases e : q = p
  ·subst e
   exact ⟨w, hw, by rw [show q + (d + 1) - q = d + 1 by omega]; exact h⟩
  ·rw [fuB, Bool.and_eq_true, List.any_eq_true] at h
   obtain ⟨_, v, hv, h3⟩ := h; have hv4 := List.mem_range.1 hv; rw [Bool.and_eq_true] at h3; have := fu_chain d (p + 1) v (by omega) h3.1 q (by omega) (by omega); rw [show p + (d + 1) - q = p + 1 + d - q by omega]; exact this
theorem th_ok (hs : s < st.length) : thOk st wg s = true ↔ (∀ p : Nat, p ≤ st.length → ¬ (rdS (thL3 st wg s) (p : Int)).lo > (rdS (thL3 st wg s) (p : Int)).hi) ∧ ∀ p : Nat, p ≤ st.length → ¬ (rdS (thL5 st wg s) (p : Int)).lo > (rdS (thL5 st wg s) (p : Int)).hi := by
 rw [← any_none (thL3_len st wg s), ← any_none (thL5_len st wg s), thOk]
 simp
theorem th_in (hok : RdOk st wg) (hs : s < st.length) (h : thOk st wg s = true) (q : Nat) (hq : q ≤ st.length) (w : Nat) (hw : w ≤ 400) : fuB st wg s (st.length - q) q w = true ↔ inS (rdS (thL5 st wg s) (q : Int)) (w : Int) := by
 obtain ⟨h3, h5⟩ := (th_ok hs).1 h; have hne := h3 s (by omega); rw [th3_le hs s (Nat.le_refl _)] at hne
 by_cases e : s < q
 ·rw [th5_gt hs q e]
  exact fu_gt hok hs hne _ q (by omega) e w hw
 ·exact fu_le hok hs hne (h3 (s + 1) (by omega)) (s - q) q _ (by omega) (by omega) w hw
theorem th_is (hok : RdOk st wg) (hs : s < st.length) : thOk st wg s = true ↔ ∃ w : Nat, w ≤ 400 ∧ fuB st wg s st.length 0 w = true := by
 constructor
 ·intro h
  have h0 := ((th_ok hs).1 h).2 0 (by omega); have ho := rd5_ok hok hs 0; have hi := th_in hok hs h 0 (by omega); rw [Nat.sub_zero] at hi
  generalize rdS (thL5 st wg s) ((0 : Nat) : Int) = x at *
  have hb : 0 ≤ x.lo ∧ x.lo ≤ x.hi ∧ x.hi ≤ 400 := by unfold okS at ho; omega
  refine ⟨x.lo.toNat, by omega, (hi _ (by omega)).2 ?_⟩
  unfold inS
  omega
 ·rintro ⟨w, hw, h⟩
  have hc := fu_chain st.length 0 w hw h
  have hcome : ∀ q : Nat, q ≤ s → ¬ (comeAt st wg q).lo > (comeAt st wg q).hi := by
   intro q hq; obtain ⟨v, hv, h1⟩ := hc q (by omega) (by omega); have := (fw_le hok hs q hq v hv).1 (fu_fw _ _ _ h1)
   unfold inS at this
   omega
  have hne := hcome s (Nat.le_refl _)
  have h3 : ∀ p : Nat, p ≤ st.length → ¬ (rdS (thL3 st wg s) (p : Int)).lo > (rdS (thL3 st wg s) (p : Int)).hi := by
   intro p hp
   by_cases e : s < p
   ·obtain ⟨v, hv, h1⟩ := hc p (by omega) (by omega)
    have := (fu_gt hok hs hne _ p (by omega) e v hv).1 h1
    unfold inS at this
    omega
   ·rw [th3_le hs p (by omega)]
    exact hcome p (by omega)
  refine (th_ok hs).2 ⟨h3, fun p hp => ?_⟩
  by_cases e : s < p
  ·rw [th5_gt hs p e]
   exact h3 p hp
  ·obtain ⟨v, hv, h1⟩ := hc p (by omega) (by omega)
   have := (fu_le hok hs hne (h3 (s + 1) (by omega)) (s - p) p _ (by omega) (by omega) v hv).1 h1
   unfold inS at this
   omega
end
end Go.Proofs.YtemingmeidmjkaaDoor.Q
namespace Go.Proofs.YtemingmeidmjkaaDoor.Q
open Go.RowKit Go.Proofs.YtemingmeidmjkaaDoorW.PrintWords Go.Proofs.YtemingmeidmjkaaDoorW.PrintLast Go.Proofs.YtemingmeidmjkaaDoorW.PrintMore
attribute [local go_sem] max2_int min2_int max_two min_two max_three min_three max_four min_four   -- for this text's walks alone
set_option linter.unusedVariables false
set_option linter.unusedSimpArgs false
end Go.Proofs.YtemingmeidmjkaaDoor.Q
namespace Go.Proofs.YtemingmeidmjkaaDoor.Q
open Go.RowKit Go.Proofs.YtemingmeidmjkaaDoorW.PrintWords Go.Proofs.YtemingmeidmjkaaDoorW.PrintLast Go.Proofs.YtemingmeidmjkaaDoorW.PrintMore
attribute [local go_sem] max2_int min2_int max_two min_two max_three min_three max_four min_four   -- for this text's walks alone
set_option linter.unusedVariables false
set_option linter.unusedSimpArgs false
def wool_Check.f (l0_0 : List (S41)) (l0_1 : List (S80)) : Option (Int) := some (roadE (toSt l0_0) (toWg l0_1))
theorem wool_Check.calls (A0_0 : Option Addr) (c0_0 : Nat) (l0_0 : List (S41)) (A0_1 : Option Addr) (c0_1 : Nat) (l0_1 : List (S80)) (r : Int) (w : World) (hr0_0 : Kd.C k41 w A0_0 l0_0.length l0_0) (hc0_0 : l0_0.length ≤ c0_0) (hr0_1 : Kd.C k80 w A0_1 l0_1.length l0_1) (hc0_1 : l0_1.length ≤ c0_1) (h : wool_Check.f l0_0 l0_1 = some r) :
  Calls Tryd.prog 19 #[.agg #[.slice A0_0 l0_0.length c0_0, .slice A0_1 l0_1.length c0_1]] w fun e w' => e = .returned (.int .i64 r) ∧ Below w.heap.size w w' := by
 simp only [wool_Check.f, Option.some.injEq, Prod.mk.injEq] at h; obtain rfl := h; have H := check_ A0_0 c0_0 (toSt l0_0) A0_1 c0_1 (toWg l0_1) w (toSt_C hr0_0) (toSt_c hc0_0) (toWg_C hr0_1) (toWg_c hc0_1); rw [toSt_len, toWg_len] at H; exact H
end Go.Proofs.YtemingmeidmjkaaDoor.Q
namespace Go.Proofs.YtemingmeidmjkaaDoor.Q
open Go.RowKit Go.Proofs.YtemingmeidmjkaaDoorW.PrintWords Go.Proofs.YtemingmeidmjkaaDoorW.PrintLast Go.Proofs.YtemingmeidmjkaaDoorW.PrintMore
attribute [local go_sem] max2_int min2_int max_two min_two max_three min_three max_four min_four   -- for this text's walks alone
set_option linter.unusedVariables false
set_option linter.unusedSimpArgs false
def wool_Weights.f (l0_0 : List (S41)) (l0_1 : List (S80)) : Option ((List (S41)) × Int) := some (ofSp (ohL (toSt l0_0) (toWg l0_1)), ohE (toSt l0_0) (toWg l0_1))
theorem wool_Weights.calls (A0_0 : Option Addr) (c0_0 : Nat) (l0_0 : List (S41)) (A0_1 : Option Addr) (c0_1 : Nat) (l0_1 : List (S80)) (r1 : List (S41)) (r2 : Int) (w : World) (hG : GL w) (hr0_0 : Kd.C k41 w A0_0 l0_0.length l0_0) (hc0_0 : l0_0.length ≤ c0_0) (hr0_1 : Kd.C k80 w A0_1 l0_1.length l0_1) (hc0_1 : l0_1.length ≤ c0_1) (h : wool_Weights.f l0_0 l0_1 = some (r1, r2)) :
  Calls Tryd.prog 20 #[.agg #[.slice A0_0 l0_0.length c0_0, .slice A0_1 l0_1.length c0_1]] w fun e w' => ∃ v0_ : Value, e = .returned (.tuple #[v0_, .int .i64 r2]) ∧ Kd.R k41 41 w' w.heap.size (fun _ => True) v0_ r1 ∧ Below w.heap.size w w' := by
 simp only [wool_Weights.f, Option.some.injEq, Prod.mk.injEq] at h; obtain ⟨rfl, rfl⟩ := h; have H := weights_ A0_0 c0_0 (toSt l0_0) A0_1 c0_1 (toWg l0_1) w hG (toSt_C hr0_0) (toSt_c hc0_0) (toWg_C hr0_1) (toWg_c hc0_1); rw [toSt_len, toWg_len] at H; refine H.mono ?_; rintro e w' ⟨v, he, h1, h2⟩; exact ⟨v, he, ofSp_R h1, h2⟩
def wool_Flocks.f (l0_0 : List (S41)) (l0_1 : List (S80)) : Option ((List (S41)) × Int) := some (ofSp (flocksL (toSt l0_0) (toWg l0_1)), ohE (toSt l0_0) (toWg l0_1))
theorem wool_Flocks.calls (A0_0 : Option Addr) (c0_0 : Nat) (l0_0 : List (S41)) (A0_1 : Option Addr) (c0_1 : Nat) (l0_1 : List (S80)) (r1 : List (S41)) (r2 : Int) (w : World) (hG : GL w) (hr0_0 : Kd.C k41 w A0_0 l0_0.length l0_0) (hc0_0 : l0_0.length ≤ c0_0) (hr0_1 : Kd.C k80 w A0_1 l0_1.length l0_1) (hc0_1 : l0_1.length ≤ c0_1) (h : wool_Flocks.f l0_0 l0_1 = some (r1, r2)) :
  Calls Tryd.prog 21 #[.agg #[.slice A0_0 l0_0.length c0_0, .slice A0_1 l0_1.length c0_1]] w fun e w' => ∃ v0_ : Value, e = .returned (.tuple #[v0_, .int .i64 r2]) ∧ Kd.R k41 41 w' w.heap.size (fun _ => True) v0_ r1 ∧ Below w.heap.size w w' := by
 simp only [wool_Flocks.f, Option.some.injEq, Prod.mk.injEq] at h; obtain ⟨rfl, rfl⟩ := h; have H := flocks_ A0_0 c0_0 (toSt l0_0) A0_1 c0_1 (toWg l0_1) w hG (toSt_C hr0_0) (toSt_c hc0_0) (toWg_C hr0_1) (toWg_c hc0_1); rw [toSt_len, toWg_len] at H; refine H.mono ?_; rintro e w' ⟨v, he, h1, h2⟩; exact ⟨v, he, ofSp_R h1, h2⟩
end Go.Proofs.YtemingmeidmjkaaDoor.Q
namespace Go.Proofs.YtemingmeidmjkaaDoor.Q
open Go.RowKit Go.Proofs.YtemingmeidmjkaaDoorW.PrintWords Go.Proofs.YtemingmeidmjkaaDoorW.PrintLast Go.Proofs.YtemingmeidmjkaaDoorW.PrintMore
attribute [local go_sem] max2_int min2_int max_two min_two max_three min_three max_four min_four   -- for this text's walks alone
set_option linter.unusedVariables false
set_option linter.unusedSimpArgs false
end Go.Proofs.YtemingmeidmjkaaDoor.Q
namespace Go.Proofs.YtemingmeidmjkaaDoor.Q
open Go.RowKit Go.Proofs.YtemingmeidmjkaaDoorW.PrintWords
set_option linter.unusedVariables false
set_option linter.unusedSimpArgs false
def enF (g : Nat → Bool) : Nat → Nat → Int × Int → Int × Int
 | 0, _, x => x
 | d + 1, i, x => enF g d (i + 1) (if g i then (if x.1 < 0 then ((i : Int), (i : Int)) else (x.1, (i : Int))) else x)
theorem enF_fst (g : Nat → Bool) : ∀ (d i : Nat) (x : Int × Int), ((enF g d i x).1 ≥ 0 ↔ x.1 ≥ 0 ∨ ∃ j, i ≤ j ∧ j < i + d ∧ g j = true)
 | 0, i, x => by
  unfold enF
  exact ⟨fun h => .inl h, fun h => h.elim id (fun ⟨j, h1, h2, _⟩ => by omega)⟩
 | d + 1, i, x => by
  rw [enF, enF_fst g d (i + 1)]
  cases hg : g i
  ·simp only [Bool.false_eq_true, if_false]
   constructor
   ·rintro (h | ⟨j, h1, h2, h3⟩)
    ·exact .inl h
    ·exact .inr ⟨j, by omega, by omega, h3⟩
   ·rintro (h | ⟨j, h1, h2, h3⟩)
    ·exact .inl h
    ·refine .inr ⟨j, ?_, by omega, h3⟩
     by_cases e : j = i
     ·rw [e, hg] at h3; cases h3
     ·omega
  ·simp only [if_true]
   constructor
   ·intro _
    exact .inr ⟨i, by omega, by omega, hg⟩
   ·intro _
    left
    by_cases hx : x.1 < 0
    ·rw [if_pos hx]; simp only; omega
    ·rw [if_neg hx]; simp only; omega
theorem Ends_l0 (g : Nat → Bool) : ∀ (d i : Nat) (a b : Int), i + d = 401 → Ev (fun k => rf_Ends.l0 k (T4 g) (i : Int) a b) (enF g d i (a, b))
 | 0, i, a, b, hd => by
  refine Ev.up ?_; simp only [rf_Ends.l0, T4_len, if_neg (show ¬ (i : Int) < ((401 : Nat) : Int) by omega)]; exact Ev.now _
 | d + 1, i, a, b, hd => by
  refine Ev.up ?_; simp only [rf_Ends.l0, T4_len, if_pos (show (i : Int) < ((401 : Nat) : Int) by omega), if_pos (show (0 : Int) ≤ (i : Int) by omega), T4_get g i (by omega)]; rw [enF]
  cases hg : g i
  ·simp only [Bool.false_eq_true, if_false]
   refine Ev.up ?_; simp only [rf_Ends.j1, Bool.false_eq_true, if_false, T4_len, if_pos (show (i : Int) < ((401 : Nat) : Int) by omega), if_pos (show (0 : Int) ≤ (i : Int) by omega), T4_get g i (show i ≤ 400 by omega), hg, wi i (by omega)]; exact Ends_l0 g d (i + 1) a b (by omega)
  ·simp only [if_true]
   refine Ev.up ?_
   by_cases ha : a < 0
   ·simp only [rf_Ends.j1, decide_eq_true ha, if_true, T4_len, if_pos (show (i : Int) < ((401 : Nat) : Int) by omega), if_pos (show (0 : Int) ≤ (i : Int) by omega), T4_get g i (show i ≤ 400 by omega), hg, wi i (by omega), if_pos ha]
    exact Ends_l0 g d (i + 1) _ _ (by omega)
   ·simp only [rf_Ends.j1, decide_eq_false ha, Bool.false_eq_true, if_false, if_true, T4_len, if_pos (show (i : Int) < ((401 : Nat) : Int) by omega), if_pos (show (0 : Int) ≤ (i : Int) by omega), T4_get g i (show i ≤ 400 by omega), hg, wi i (by omega), if_neg ha]
    exact Ends_l0 g d (i + 1) _ _ (by omega)
theorem Ends_f (g : Nat → Bool) : Ev (fun k => rf_Ends.f k (T4 g)) (enF g 401 0 (-1, -1)) := Ends_l0 g 401 0 (-1) (-1) (by omega)
theorem Is_f (n : Nat) (R : Nat → Nat → Bool) (hn : 0 < n) : Ev (fun k => rf_Is.f k (rowsL n R)) (decide (∃ w : Nat, w ≤ 400 ∧ R 0 w = true)) := by
 unfold rf_Is.f
 simp only [rowsL_len, if_pos (show (0 : Int) < (n : Int) by omega)]; have h0 := rowsL_get n R 0 hn; rw [show ((0 : Nat) : Int) = 0 from rfl] at h0; rw [h0]; refine Ev.bind (Ends_f (R 0)) ?_
 have e : decide ((enF (R 0) 401 0 (-1, -1)).1 ≥ 0) = decide (∃ w : Nat, w ≤ 400 ∧ R 0 w = true) := by
  rw [decide_eq_decide, enF_fst]
  constructor
  ·rintro (h | ⟨j, h1, h2, h3⟩)
   ·simp at h
   ·exact ⟨j, by omega, h3⟩
  ·rintro ⟨j, h1, h2⟩
   exact .inr ⟨j, by omega, by omega, h2⟩
 rw [← e]; exact Ev.now _
section
variable (st : List S41) (wg : List S80)
end
section
variable (st : List S41) (wg : List S80)
end
end Go.Proofs.YtemingmeidmjkaaDoor.Q
namespace Go.Proofs.YtemingmeidmjkaaDoor.Q
open Go.RowKit Go.Proofs.YtemingmeidmjkaaDoorW.PrintWords
set_option linter.unusedVariables false
set_option linter.unusedSimpArgs false
section
variable {st : List S41} {wg : List S80}
theorem dec_hon (hok : RdOk (toSt st) (toWg wg)) : decide (∃ w : Nat, w ≤ 400 ∧ fuB (toSt st) (toWg wg) (-1) (st.length - 0) 0 w = true) = honB (toSt st) (toWg wg) := by
 rw [Bool.eq_iff_iff, decide_eq_true_eq, hon_is hok, toSt_len, Nat.sub_zero]
theorem dec_th (hok : RdOk (toSt st) (toWg wg)) (s : Nat) (hs : s < st.length) : decide (∃ w : Nat, w ≤ 400 ∧ fuB (toSt st) (toWg wg) (s : Int) (st.length - 0) 0 w = true) = thOk (toSt st) (toWg wg) s := by
 rw [Bool.eq_iff_iff, decide_eq_true_eq, th_is hok (by rw [toSt_len]; exact hs), toSt_len, Nat.sub_zero]
theorem Where_l0 (hok : RdOk (toSt st) (toWg wg)) (h5 : st.length ≤ 500) (hl : wg.length ≤ 1000) : ∀ (d i : Nat), i + d = st.length → Ev (fun k => rf_Where.l0 k (whereN (toSt st) (toWg wg) i) (i : Int) st wg) (whereL (toSt st) (toWg wg))
 | 0, i, hd => by
  obtain rfl : i = st.length := by omega
  refine Ev.up ?_; simp only [rf_Where.l0, if_neg (Int.lt_irrefl _)]
  have e : whereN (toSt st) (toWg wg) st.length = whereL (toSt st) (toWg wg) := by rw [whereL, whereN, toSt_len]
  rw [e]; exact Ev.now _
 | d + 1, i, hd => by
  have ih := Where_l0 hok h5 hl d (i + 1) (by omega); rw [whereN_succ] at ih; have hb := whereN_len (toSt st) (toWg wg) i; refine Ev.up ?_; simp only [rf_Where.l0, if_pos (show (i : Int) < (st.length : Int) by omega)]; refine Ev.bind (Sets_f st wg (i : Int) hok hl h5) ?_; refine Ev.bind (Is_f (st.length + 1) _ (by omega)) ?_; simp only [dec_th hok i (by omega), wi i (by omega), if_pos (show (whereN (toSt st) (toWg wg) i).length < 17592186044416 by omega)]
  cases ht : thOk (toSt st) (toWg wg) i
  ·rw [ht] at ih
   simp only [Bool.false_eq_true, if_false, List.append_nil] at ih ⊢; exact ih
  ·rw [ht] at ih
   simp only [if_true] at ih ⊢; exact ih
theorem Where_f (hok : RdOk (toSt st) (toWg wg)) (h5 : st.length ≤ 500) (hl : wg.length ≤ 1000) : Ev (fun k => rf_Where.f k st wg) (whereL (toSt st) (toWg wg)) := Where_l0 hok h5 hl st.length 0 (by omega)
theorem Stolen_f (h5 : st.length ≤ 500) (hl : wg.length ≤ 1000) : Ev (fun k => rf_Stolen.f k st wg) (owL (toSt st) (toWg wg), owE (toSt st) (toWg wg)) := by
 unfold rf_Stolen.f
 refine Ev.bind (Check_f st wg (by omega) hl) ?_
 by_cases he : roadE (toSt st) (toWg wg) = 0
 ·have hok := (road_ok he).1
  simp only [if_pos he]; refine Ev.bind (Sets_f st wg (-1) hok hl h5) ?_; refine Ev.bind (Is_f (st.length + 1) _ (by omega)) ?_; simp only [dec_hon hok]
  cases hh : honB (toSt st) (toWg wg)
  ·simp only [Bool.false_eq_true, if_false]
   refine Ev.bind (Where_f hok h5 hl) ?_
   by_cases hw : whereL (toSt st) (toWg wg) = []
   ·have e1 : owE (toSt st) (toWg wg) = 9 := by simp [owE, he, hh, hw]
    have e2 : owL (toSt st) (toWg wg) = [] := by rw [owL, e1]; rfl
    rw [e1, e2, hw]; exact Ev.now _
   ·have e1 : owE (toSt st) (toWg wg) = 0 := by simp [owE, he, hh, hw]
    have e2 : owL (toSt st) (toWg wg) = whereL (toSt st) (toWg wg) := by rw [owL, e1]; rfl
    have hp : ((whereL (toSt st) (toWg wg)).length : Int) > 0 := by
     have := List.length_pos_iff.2 hw; omega
    rw [e1, e2]; simp only [if_pos hp]; exact Ev.now _
  ·have e1 : owE (toSt st) (toWg wg) = 6 := by simp [owE, he, hh]
   have e2 : owL (toSt st) (toWg wg) = [] := by rw [owL, e1]; rfl
   rw [e1, e2]; simp only [if_true]; exact Ev.now _
 ·have e1 : owE (toSt st) (toWg wg) = roadE (toSt st) (toWg wg) := by simp [owE, he]
  have e2 : owL (toSt st) (toWg wg) = [] := by rw [owL, e1, if_neg he]
  rw [e1, e2]; simp only [if_neg he]; exact Ev.now _
end
end Go.Proofs.YtemingmeidmjkaaDoor.Q
namespace Go.Proofs.YtemingmeidmjkaaDoor.Q
open Go.RowKit Go.Proofs.YtemingmeidmjkaaDoorW.PrintWords
set_option linter.unusedVariables false
set_option linter.unusedSimpArgs false
def allL (n m : Nat) (R : Nat → Nat → Nat → Bool) : List (List (List Bool)) := (List.range m).map fun i => rowsL n (R i)
theorem allL_len (n m : Nat) (R : Nat → Nat → Nat → Bool) : (allL n m R).length = m := by simp [allL]
theorem allL_get (n m : Nat) (R : Nat → Nat → Nat → Bool) (i : Nat) (h : i < m) : rd_L11 (allL n m R) (i : Int) = rowsL n (R i) := by
 unfold rd_L11 allL
 rw [Int.toNat_natCast, List.getD_eq_getElem?_getD, List.getElem?_map, List.getElem?_range h]; rfl
theorem allL_succ (n m : Nat) (R : Nat → Nat → Nat → Bool) : allL n m R ++ [rowsL n (R m)] = allL n (m + 1) R := by simp [allL, List.range_succ]
theorem mx_max' (a b : Int) : mx a b = max a b := by unfold mx; omega
theorem mn_min' (a b : Int) : mn a b = min a b := by unfold mn; omega
theorem anF_hit (g : Nat → Bool) (x : Sp) (off read : Int) (hx : fullS x) (hg : ∀ w : Nat, w ≤ 400 → (g w = true ↔ inS x (w : Int))) (w0 : Nat) (hw : (w0 : Int) = max 0 (read - off)) :
  anF g (min 400 (read + off) + 1 - (w0 : Int)).toNat w0 = lkHit off read x := by
 unfold fullS at hx
 rw [anF_eq, Bool.eq_iff_iff, List.any_eq_true]
 unfold lkHit noneB andS
 simp only [Bool.not_eq_true', decide_eq_false_iff_not]
 constructor
 ·rintro ⟨t, ht, h⟩
  have ht' := List.mem_range.1 ht; have := (hg (w0 + t) (by omega)).1 h
  unfold inS at this
  omega
 ·intro h
  refine ⟨(max x.lo (read - off) - (w0 : Int)).toNat, List.mem_range.2 (by omega), (hg _ (by omega)).2 ?_⟩
  unfold inS
  omega
section
variable (st : List S41) (wg : List S80) (off : Int) (m : Nat) (R : Nat → Nat → Nat → Bool) (L : Nat → List Sp)
theorem Look_l4 (hst : st.length ≤ 500) (x10 x11 : Int) (p : Nat) (hp : p ≤ st.length) (x13 read x15 : Int) (i : Nat) (hi : i < m) (r : Int × Int) (ho : 0 ≤ off ∧ off ≤ 20) (hread : -20 ≤ read ∧ read ≤ 420) : ∀ (d w : Nat) (c : Bool), (min 400 (read + off) + 1 - (w : Int)).toNat = d →
  Ev (fun k => if (c || anF (R i p) d w) = true then rf_Look.l3 k off (allL (st.length + 1) m R) x10 x11 (p : Int) x13 read (wrap64 (x15 + 1)) (wrap64 ((i : Int) + 1)) st wg else rf_Look.l3 k off (allL (st.length + 1) m R) x10 x11 (p : Int) x13 read x15 (wrap64 ((i : Int) + 1)) st wg) r →
  Ev (fun k => rf_Look.l4 k off (allL (st.length + 1) m R) x10 x11 (p : Int) x13 read x15 (i : Int) c (w : Int) st wg) r
 | 0, w, c, hd, h => by
  refine Ev.up ?_; simp only [anF, Bool.or_false] at h; simp only [rf_Look.l4, mn_min', wr (show -9223372036854775808 ≤ read + off ∧ read + off ≤ 9223372036854775807 by omega), if_neg (show ¬ (w : Int) ≤ min 400 (read + off) by omega)]; exact h
 | d + 1, w, c, hd, h => by
  refine Ev.up ?_; simp only [rf_Look.l4, mn_min', wr (show -9223372036854775808 ≤ read + off ∧ read + off ≤ 9223372036854775807 by omega), if_pos (show (w : Int) ≤ min 400 (read + off) by omega), wi w (by omega)]
  cases c
  ·simp only [Bool.false_eq_true, if_false, if_pos (show (0 : Int) ≤ (i : Int) by omega), allL_len, if_pos (show (i : Int) < (m : Int) by omega), if_pos (show (0 : Int) ≤ (p : Int) by omega), allL_get _ _ R i hi, rowsL_len, if_pos (show (p : Int) < ((st.length + 1 : Nat) : Int) by omega), if_pos (show (0 : Int) ≤ (w : Int) by omega), rowsL_get _ (R i) p (show p < st.length + 1 by omega), T4_len, if_pos (show (w : Int) < ((401 : Nat) : Int) by omega), T4_get (R i p) w (by omega)]
   refine Look_l4 hst x10 x11 p hp x13 read x15 i hi r ho hread d (w + 1) _ (by omega) ?_; simp only [anF, Bool.false_or] at h; exact h
  ·simp only [if_true]
   refine Look_l4 hst x10 x11 p hp x13 read x15 i hi r ho hread d (w + 1) true (by omega) ?_; simp only [Bool.true_or, if_true] at h ⊢; exact h
theorem Look_l3 (hst : st.length ≤ 500) (hm : m ≤ 1000) (hL : ∀ p, (L p).length = m) (H : ∀ i, i < m → ∀ p, p ≤ st.length → fullS (rdS (L p) i) ∧ ∀ w : Nat, w ≤ 400 → (R i p w = true ↔ inS (rdS (L p) i) (w : Int))) (x10 x11 : Int) (p : Nat) (hp : p ≤ st.length) (x13 read : Int) (r : Int × Int) (ho : 0 ≤ off ∧ off ≤ 20) (hread : -20 ≤ read ∧ read ≤ 420)
  (h : Ev (fun k => rf_Look.l2 k off (allL (st.length + 1) m R) x10 x11 (p : Int) (max x13 (lkC off read (L p) : Int)) (wrap64 (read + 1)) st wg) r) : ∀ (d i : Nat), i + d = m →
  Ev (fun k => rf_Look.l3 k off (allL (st.length + 1) m R) x10 x11 (p : Int) x13 read ((lkC off read ((L p).take i) : Nat) : Int) (i : Int) st wg) r
 | 0, i, hd => by
  obtain rfl : i = m := by omega
  refine Ev.up ?_; simp only [rf_Look.l3, allL_len, if_neg (Int.lt_irrefl _), mx_max']; rw [List.take_of_length_le (by rw [hL]; omega)]; exact h
 | d + 1, i, hd => by
  have hi : i < m := by omega
  have ih := Look_l3 hst hm hL H x10 x11 p hp x13 read r ho hread h d (i + 1) (by omega); obtain ⟨hf, hR⟩ := H i hi p hp; obtain ⟨w0, hw0⟩ : ∃ n : Nat, (n : Int) = max 0 (read - off) := ⟨(max 0 (read - off)).toNat, by omega⟩; have hb := lkC_le off read ((L p).take i); have hb2 := List.length_take_le i (L p); refine Ev.up ?_; simp only [rf_Look.l3, allL_len, if_pos (show (i : Int) < (m : Int) by omega), mx_max', wr (show -9223372036854775808 ≤ read - off ∧ read - off ≤ 9223372036854775807 by omega)]; rw [← hw0]; refine Look_l4 st wg off m R hst x10 x11 p hp x13 read _ i hi r ho hread _ w0 false rfl ?_; rw [anF_hit (R i p) _ off read hf hR w0 hw0, Bool.false_or, wi i (by omega), wi (lkC off read ((L p).take i)) (by omega)]; rw [lkC_succ off read (L p) i (by rw [hL]; omega)] at ih
  cases hh : lkHit off read (rdS (L p) i)
  ·rw [hh] at ih
   simp only [Bool.false_eq_true, if_false, Nat.add_zero] at ih ⊢; exact ih
  ·rw [hh] at ih
   simp only [if_true] at ih ⊢; exact ih
theorem Look_l2 (hst : st.length ≤ 500) (hm : m ≤ 1000) (hL : ∀ p, (L p).length = m) (H : ∀ i, i < m → ∀ p, p ≤ st.length → fullS (rdS (L p) i) ∧ ∀ w : Nat, w ≤ 400 → (R i p w = true ↔ inS (rdS (L p) i) (w : Int))) (x10 x11 : Int) (p : Nat) (hp : p ≤ st.length) (r : Int × Int) (ho : 0 ≤ off ∧ off ≤ 20)
  (h : Ev (fun k => if ((lkM off (L p) (401 + 2 * off).toNat : Nat) : Int) < x11 then rf_Look.l1 k off (allL (st.length + 1) m R) (p : Int) ((lkM off (L p) (401 + 2 * off).toNat : Nat) : Int) (wrap64 ((p : Int) + 1)) st wg else rf_Look.l1 k off (allL (st.length + 1) m R) x10 x11 (wrap64 ((p : Int) + 1)) st wg) r) : ∀ (d j : Nat), j + d = (401 + 2 * off).toNat →
  Ev (fun k => rf_Look.l2 k off (allL (st.length + 1) m R) x10 x11 (p : Int) ((lkM off (L p) j : Nat) : Int) (-off + (j : Int)) st wg) r
 | 0, j, hd => by
  obtain rfl : j = (401 + 2 * off).toNat := by omega
  refine Ev.up ?_; simp only [rf_Look.l2, wr (show -9223372036854775808 ≤ 400 + off ∧ 400 + off ≤ 9223372036854775807 by omega), if_neg (show ¬ -off + ((401 + 2 * off).toNat : Int) ≤ 400 + off by omega)]; exact h
 | d + 1, j, hd => by
  have ih := Look_l2 hst hm hL H x10 x11 p hp r ho h d (j + 1) (by omega); refine Ev.up ?_; simp only [rf_Look.l2, wr (show -9223372036854775808 ≤ 400 + off ∧ 400 + off ≤ 9223372036854775807 by omega), if_pos (show -off + (j : Int) ≤ 400 + off by omega)]
  have h3 := Look_l3 st wg off m R L hst hm hL H x10 x11 p hp ((lkM off (L p) j : Nat) : Int) (-off + (j : Int)) r ho (by omega) (by
   rw [wr (by omega), show -off + (j : Int) + 1 = -off + ((j + 1 : Nat) : Int) by omega, show max ((lkM off (L p) j : Nat) : Int) ((lkC off (-off + (j : Int)) (L p) : Nat) : Int) = ((lkM off (L p) (j + 1) : Nat) : Int) by rw [lkM_succ]; omega]
   exact ih) m 0 (by omega)
  simpa [lkC] using h3
end
section
variable {st : List S41} {wg : List S80}
theorem Look_l1 (hst : st.length ≤ 500) (off : Int) (ho : 0 ≤ off ∧ off ≤ 20) (l : List Int) (hm : l.length ≤ 1000) (R : Nat → Nat → Nat → Bool) (H : ∀ i, i < l.length → ∀ p, p ≤ st.length → fullS (rdS (lkS (toSt st) (toWg wg) p l) i) ∧ ∀ w : Nat, w ≤ 400 → (R i p w = true ↔ inS (rdS (lkS (toSt st) (toWg wg) p l) i) (w : Int))) : ∀ (d p : Nat), p + d = st.length + 1 →
  Ev (fun k => rf_Look.l1 k off (allL (st.length + 1) l.length R) (lkP (toSt st) (toWg wg) off l p).1 (lkP (toSt st) (toWg wg) off l p).2 (p : Int) st wg) (lkP (toSt st) (toWg wg) off l (st.length + 1))
 | 0, p, hd => by
  obtain rfl : p = st.length + 1 := by omega
  refine Ev.up ?_; simp only [rf_Look.l1, if_neg (show ¬ ((st.length + 1 : Nat) : Int) ≤ (st.length : Int) by omega)]; exact Ev.now _
 | d + 1, p, hd => by
  have ih := Look_l1 hst off ho l hm R H d (p + 1) (by omega); rw [lkP_succ, lkStep] at ih; refine Ev.up ?_; simp only [rf_Look.l1, if_pos (show (p : Int) ≤ (st.length : Int) by omega), wr (show -9223372036854775808 ≤ -off ∧ -off ≤ 9223372036854775807 by omega)]
  have h2 := Look_l2 st wg off l.length R (fun p => lkS (toSt st) (toWg wg) p l) hst hm (fun p => lkS_len _ _ _ _) H (lkP (toSt st) (toWg wg) off l p).1 (lkP (toSt st) (toWg wg) off l p).2 p (by omega) (lkP (toSt st) (toWg wg) off l (st.length + 1)) ho (by
   rw [wi p (by omega)]
   by_cases c : ((lkM off (lkS (toSt st) (toWg wg) p l) (401 + 2 * off).toNat : Nat) : Int) < (lkP (toSt st) (toWg wg) off l p).2
   ·rw [if_pos c] at ih
    simp only [if_pos c]; exact ih
   ·rw [if_neg c] at ih
    simp only [if_neg c]
    exact ih) (401 + 2 * off).toNat 0 (by omega)
  simpa [lkM] using h2
theorem Look_l0 (hok : RdOk (toSt st) (toWg wg)) (hst : st.length ≤ 500) (hl : wg.length ≤ 1000) (off : Int) (l : List Int) (hm : l.length ≤ 1000) (r : Int × Int)
  (h : Ev (fun k => rf_Look.l1 k off (allL (st.length + 1) l.length fun i q => fuB (toSt st) (toWg wg) (rd l i) (st.length - q) q) (-1) (l.length : Int) 0 st wg) r) : ∀ (d i : Nat), i + d = l.length →
  Ev (fun k => rf_Look.l0 k l off (allL (st.length + 1) i fun i q => fuB (toSt st) (toWg wg) (rd l i) (st.length - q) q) (i : Int) st wg) r
 | 0, i, hd => by
  obtain rfl : i = l.length := by omega
  refine Ev.up ?_; simp only [rf_Look.l0, if_neg (Int.lt_irrefl _)]; exact h
 | d + 1, i, hd => by
  have ih := Look_l0 hok hst hl off l hm r h d (i + 1) (by omega); rw [← allL_succ] at ih; refine Ev.up ?_; simp only [rf_Look.l0, if_pos (show (i : Int) < (l.length : Int) by omega), if_pos (show (0 : Int) ≤ (i : Int) by omega)]; refine Ev.bind (Sets_f st wg (rd l i) hok hl hst) ?_; simp only [allL_len, if_pos (show i < 5864062014805 by omega), wi i (by omega)]; exact ih
theorem Look_f (hok : RdOk (toSt st) (toWg wg)) (hst : st.length ≤ 500) (hl : wg.length ≤ 1000) (off : Int) (ho : 0 ≤ off ∧ off ≤ 20) : Ev (fun k => rf_Look.f k st wg (whereL (toSt st) (toWg wg)) off) (lkP (toSt st) (toWg wg) off (whereL (toSt st) (toWg wg)) (st.length + 1)) := by
 have hwl := whereL_len (toSt st) (toWg wg); rw [toSt_len] at hwl
 have H : ∀ i, i < (whereL (toSt st) (toWg wg)).length → ∀ p, p ≤ st.length → fullS (rdS (lkS (toSt st) (toWg wg) p (whereL (toSt st) (toWg wg))) i) ∧ ∀ w : Nat, w ≤ 400 → (fuB (toSt st) (toWg wg) (rd (whereL (toSt st) (toWg wg)) (i : Int)) (st.length - p) p w = true ↔ inS (rdS (lkS (toSt st) (toWg wg) p (whereL (toSt st) (toWg wg))) i) (w : Int)) := by
  intro i hi p hp; obtain ⟨s, e, hs, ht⟩ := where_mem (List.getElem_mem hi)
  have er : rd (whereL (toSt st) (toWg wg)) (i : Int) = (s : Int) := by rw [rdI _ i hi]; exact e
  rw [lkS_rd _ _ _ _ _ hi, er, Int.toNat_natCast, thL, if_pos ht]; have h1 := ((th_ok hs).1 ht).2 p (by rw [toSt_len]; exact hp); have h2 := rd5_ok hok hs p; have hin := th_in hok hs ht p (by rw [toSt_len]; exact hp); rw [toSt_len] at hin; refine ⟨?_, hin⟩
  unfold okS at h2
  unfold fullS
  omega
 have h1 := Look_l1 hst off ho (whereL (toSt st) (toWg wg)) (by omega) _ H (st.length + 1) 0 (by omega); exact Look_l0 hok hst hl off _ (by omega) _ h1 (whereL (toSt st) (toWg wg)).length 0 (by omega)
end
theorem WoolLooks_ev (st : List S41) (wg : List S80) (a1 : Int) : Ev (fun k => lw_WoolLooks.f k st wg a1) true := by
 unfold lw_WoolLooks.f
 simp only [long_f, Option.bind_some]
 by_cases hlong : (st.length : Int) > 10 ∨ (wg.length : Int) > 12
 ·simp only [hlong, decide_true, if_true, known_f, Option.bind_some]
  exact Ev.now _
 ·simp only [hlong, decide_false, Bool.false_eq_true, if_false]
  simp only [Copy_f st wg (by omega) (by omega), Option.bind_some, wool_Look.f]; refine Ev.bind (Same_f st wg (by omega) (by omega)) ?_; simp only [if_true]; refine Ev.bind (Check_f st wg (by omega) (by omega)) ?_
  have bad : ∀ (e : Int) (x : List Int), ¬ e = 0 → lkE (toSt st) (toWg wg) a1 = e → Ev (fun k => lw_WoolLooks.j2 k a1 (lkA (toSt st) (toWg wg) a1).1 (lkA (toSt st) (toWg wg) a1).2 (lkE (toSt st) (toWg wg) a1) e x st wg) true := by
   intro e x he h1
   have h2 : lkA (toSt st) (toWg wg) a1 = (0, 0) := by rw [lkA, h1, if_neg he]
   refine Ev.up ?_; simp only [lw_WoolLooks.j2, if_neg he, h1, h2, if_true, known_f, Option.bind_some]; exact Ev.now _
  by_cases he : roadE (toSt st) (toWg wg) = 0
  ·have hrk := road_ok he
   have hok := hrk.1; have hlen := hrk.2; rw [toSt_len] at hlen; simp only [he, if_true, In_f, Option.bind_some]; refine Ev.up ?_
   cases hin : inB 0 20 [a1]
   ·have h1 : lkE (toSt st) (toWg wg) a1 = 3 := by simp [lkE, he, hin]
    simp only [lw_WoolLooks.j0, Bool.not_false, if_true]; refine Ev.up ?_; simp only [lw_WoolLooks.j1, if_neg (show ¬ (3 : Int) = 0 by omega)]; exact bad 3 _ (by omega) h1
   ·have hin2 := (inB_one _ _ _).1 hin
    simp only [lw_WoolLooks.j0, Bool.not_true, Bool.false_eq_true, if_false]; refine Ev.up ?_; simp only [lw_WoolLooks.j1, if_true]; refine Ev.bind (Stolen_f (by omega) (by omega)) ?_
    by_cases ho : owE (toSt st) (toWg wg) = 0
    ·have hol : owL (toSt st) (toWg wg) = whereL (toSt st) (toWg wg) := by rw [owL, if_pos ho]
     have hL := Look_f hok (by omega) (by omega) a1 hin2
     have h0 : lkE (toSt st) (toWg wg) a1 = if (lkP (toSt st) (toWg wg) a1 (owL (toSt st) (toWg wg)) ((toSt st).length + 1)).1 < 0 then 7 else 0 := by simp [lkE, he, hin, ho]
     refine Ev.up ?_; simp only [lw_WoolLooks.j2, ho, if_true]; rw [hol]; refine Ev.bind hL ?_; rw [hol, toSt_len] at h0
     by_cases hp : (lkP (toSt st) (toWg wg) a1 (whereL (toSt st) (toWg wg)) (st.length + 1)).1 < 0
     ·rw [if_pos hp] at h0
      have h2 : lkA (toSt st) (toWg wg) a1 = (0, 0) := by rw [lkA, h0]; rfl
      simp only [if_neg (show ¬ (lkP (toSt st) (toWg wg) a1 (whereL (toSt st) (toWg wg)) (st.length + 1)).1 ≥ 0 by omega), h0, h2, if_true, known_f, Option.bind_some]; exact Ev.now _
     ·rw [if_neg hp] at h0
      have h2 : lkA (toSt st) (toWg wg) a1 = lkP (toSt st) (toWg wg) a1 (whereL (toSt st) (toWg wg)) (st.length + 1) := by rw [lkA, h0, hol, toSt_len]; rfl
      simp only [if_pos (show (lkP (toSt st) (toWg wg) a1 (whereL (toSt st) (toWg wg)) (st.length + 1)).1 ≥ 0 by omega), h0, h2, if_true, known_f, Option.bind_some]; exact Ev.now _
    ·exact bad _ _ ho (by simp [lkE, he, hin, ho])
  ·simp only [if_neg he]
   refine Ev.up ?_; simp only [lw_WoolLooks.j0, Bool.false_eq_true, if_false]; refine Ev.up ?_; simp only [lw_WoolLooks.j1, if_neg he]; exact bad _ _ he (by simp [lkE, he])
theorem WoolLooks_pure (l0_0 : List (S41)) (l0_1 : List (S80)) (a1 : Int) : ∃ k, lw_WoolLooks.f k l0_0 l0_1 a1 = some true := (WoolLooks_ev l0_0 l0_1 a1).rounds
end Go.Proofs.YtemingmeidmjkaaDoor.Q
namespace Go.Proofs.YtemingmeidmjkaaDoor
open Go.RowKit Go.ChangeShapes Go.Shelf Go.Proofs.YtemingmeidmjkaaDoorW.PrintWords
set_option linter.unusedVariables false
set_option maxRecDepth 100000
theorem glNamed : Tryd.prog.globalNamed "walkmill/wool.all" = some 0 := by kernel_rfl
theorem glType : (Tryd.prog.globals[0]?).map (·.type) = some 100 := by kernel_rfl
theorem cells3 : Tryd.prog.cellsOf 3 = 1 := by kernel_rfl
theorem cellsSome : Tryd.prog.cellsOf 100 = 2 := by kernel_rfl
theorem gl_of_laid {W : World} (h : laidMetH Tryd.prog [("walkmill/wool.all", Rows.laid_walkmill_wool_all)] W) : GL W := by
 have h' : laidMet Tryd.prog [("walkmill/wool.all", Rows.laid_walkmill_wool_all)] W := h; clear h; have h := h'; obtain ⟨ps, ⟨g, t, cs, fuel, p, q, e1, e2, e3, e4, _, _⟩, _⟩ := h; obtain rfl := Option.some.inj (glNamed.symm.trans e1); obtain rfl := Option.some.inj (glType.symm.trans e2); obtain ⟨xs, n, _, hx, hl, hlen, hf⟩ := DataW.trod_struct Tryd.underlying100 e4
 have hcell := fun i => World.var?_cell glNamed e3 i
 have hl2 : cs.toList.length = 2 := by rw [hl]; exact cellsSome
 match xs, hlen with
 | [y0, y1], _ =>
  have f0 := hf 0 _ rfl; have f1 := hf 1 _ rfl; simp only [List.getElem?_cons_zero, List.getElem?_cons_succ] at f0 f1; obtain ⟨a, ha, rfl, _⟩ := DataW.trod_int Tryd.underlying3 f0; obtain ⟨b, hb, rfl, _⟩ := DataW.trod_int Tryd.underlying3 f1; simp only [List.map_cons, List.map_nil, Rows.laid_walkmill_wool_all, Prod.mk.injEq, DataW.agg.injEq, List.cons.injEq, DataW.lit.injEq, Lit.int.injEq, true_and, and_true] at hx; obtain ⟨⟨rfl, rfl⟩, _⟩ := hx
  have hcs : cs = #[.int .i64 0, .int .i64 400] := by
   apply Array.toList_inj.1
   match hc : cs.toList, hl2 with
   | [u, v], _ =>
    rw [hc] at ha hb
    simp [cells3] at ha hb
    rw [ha, hb]
  refine ⟨rfl, by decide, fun _ => ⟨_, rfl, fun j x hj => ?_⟩⟩
  match j, hj with
  | 0, hj =>
   simp only [List.getElem?_cons_zero, Option.some.injEq] at hj; subst hj; refine ⟨[.int .i64 0, .int .i64 400], rfl, kSp_mk _ ⟨0, 400⟩, fun i u hi => ?_⟩; have h9 := hcell i; rw [hcs] at h9; rw [add_plain]; simp only [Nat.zero_mul, Nat.zero_add] at *; rw [h9]
   simpa using hi
def lay0 (w : World) : World := { w with heap := w.heap.modify 0 fun o => match o with
  | .cells _ t frozen => .cells #[.int .i64 0, .int .i64 400] t frozen
  | o => o }
theorem lay0_met (os : Os) (args : Array Value) : laidMetH Tryd.prog [("walkmill/wool.all", Rows.laid_walkmill_wool_all)] ((lay0 (World.holding Tryd.prog os ⟨#[], #[], []⟩)).forCall (fun _ _ => 0) ⟨#[], args, []⟩).memory := by
 show laidMet Tryd.prog [("walkmill/wool.all", Rows.laid_walkmill_wool_all)] _
 exact laidMet_of_run' 8 sqF sqF
end Go.Proofs.YtemingmeidmjkaaDoor
