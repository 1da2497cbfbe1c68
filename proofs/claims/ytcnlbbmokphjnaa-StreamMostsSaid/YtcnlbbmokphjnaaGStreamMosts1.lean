/- Functions printed by the kit's printer over these walks, and the plain law. No condition. -/
import Derived.Test.YtcnlbbmokphjnaaGStreamMosts0
import Derived.Test.YtcnlbbmokphjnaaM1
import Derived.Test.YtcnlbbmokphjnaaWApart
import Derived.Test.YtcnlbbmokphjnaaWAt
import Derived.Test.YtcnlbbmokphjnaaWGuard
import Derived.Test.YtcnlbbmokphjnaaWLast
import Derived.Test.YtcnlbbmokphjnaaWMore
import Derived.Test.YtcnlbbmokphjnaaWTab
import Derived.Test.YtcnlbbmokphjnaaWWords
set_option linter.unusedVariables false
set_option linter.unusedSimpArgs false
namespace Go.Proofs.Ytcnlbbmokphjnaa.Q
open Go.RowKit Go.Proofs.YtcnlbbmokphjnaaW.PrintWords Go.Proofs.YtcnlbbmokphjnaaW.PrintLast Go.Proofs.YtcnlbbmokphjnaaW.PrintMore
attribute [local go_sem] max2_int min2_int max_two min_two max_three min_three max_four min_four   -- for this text's walks alone
set_option linter.unusedVariables false
set_option linter.unusedSimpArgs false
def rf_Levels.l0 : Nat → List Int → List Int → List Int → List (S23) → Int → Option ((List (S23)))
  | 0, _, _, _, _, _ => none
  | k + 1, x2, x9, x10, x11, x12 => if x12 < (x2.length : Int) then (if 0 ≤ x12 then (if x12 < (x9.length : Int) then (if x12 < (x10.length : Int) then (if x11.length < 8796093022208 then (rf_Levels.l0 k x2 x9 x10 (x11 ++ [(⟨rd x9 x12, rd x10 x12⟩ : S23)]) (wrap64 (x12 + 1))) else (none)) else (none)) else (none)) else (none)) else (some x11)
def rf_Levels.f (k : Nat) (a0_0 : Int) (a0_1 : Int) (a0_2 : Int) (a0_3 : Int) (a0_4 : Int) (a0_5 : Int) (a0_6 : Int) (l1 : List (S23)) (l2 : List Int) : Option ((List (S23))) := (rf_Truth.f k a0_0 a0_1 a0_2 a0_3 a0_4 a0_5 a0_6 l1 false).bind fun bt187 => ((rf_Pond.f k a0_0 a0_1 a0_2 a0_3 a0_4 a0_5 a0_6 bt187.1 bt187.2 l2).bind fun t191 => ((rf_Truth.f k a0_0 a0_1 a0_2 a0_3 a0_4 a0_5 a0_6 l1 true).bind fun bt194 => ((rf_Pond.f k a0_0 a0_1 a0_2 a0_3 a0_4 a0_5 a0_6 bt194.1 bt194.2 l2).bind fun t198 => (rf_Levels.l0 k l2 t191 t198 (([] : List (S23))) 0))))
def rf_Levels.T8 : Bool × List (List Nat × List Nat) := (true, [([], []), ([], []), ([], []), ([1, 2], [1, 2]), ([3], [3]), ([], []), ([], []), ([5, 6], [5, 6]), ([7], [7]), ([4, 8], [4, 8]), ([9], [9]), ([0, 10], [0, 10]), ([11, 11, 0, 1, 2, 3, 4, 5, 6, 7, 8, 9, 10, 11], [0, 11])])
def rf_Levels.B8 : List Nat := [0, 0, 0, 6, 14, 0, 0, 96, 224, 510, 1022, 2047, 4095]
theorem rf_Levels.tab8 : rtab .any (opsOf Try.f26 8) = rf_Levels.T8 := by kernel_rfl
theorem rf_Levels.bits8 : waitsOk rf_Levels.T8.2 rf_Levels.B8 = true := by kernel_rfl
set_option maxHeartbeats 8000000 in
set_option maxRecDepth 100000 in
theorem rf_Levels.calls (k : Nat) (a0_0 : Int) (a0_1 : Int) (a0_2 : Int) (a0_3 : Int) (a0_4 : Int) (a0_5 : Int) (a0_6 : Int) (A1 : Option Addr) (c1 : Nat) (l1 : List (S23)) (A2 : Option Addr) (c2 : Nat) (l2 : List Int) (r : List (S23)) (w : World) (hr1 : Kd.C k23 w A1 l1.length l1) (hc1 : l1.length ≤ c1) (hr2 : Kd.C (Kd.int .i64) w A2 l2.length l2) (hc2 : l2.length ≤ c2) (h : rf_Levels.f k a0_0 a0_1 a0_2 a0_3 a0_4 a0_5 a0_6 l1 l2 = some r) :
    Calls Try.prog 26 #[.agg #[.int .i64 a0_0, .int .i64 a0_1, .int .i64 a0_2, .int .i64 a0_3, .int .i64 a0_4, .int .i64 a0_5, .int .i64 a0_6], .slice A1 l1.length c1, .slice A2 l2.length c2] w fun e w' => ∃ v0_ : Value, e = .returned (v0_) ∧ Kd.R k23 23 w' w.heap.size (fun _ => True) v0_ r ∧ Below w.heap.size w w' := by
  have hu25 := Try.underlying25
  have hu23 := Try.underlying23
  have HR1 := Aside0.mk hr1
  have HC1 := Aside0.mk hc1
  clear hr1 hc1
  have HR2 := Aside0.mk hr2
  have HC2 := Aside0.mk hc2
  clear hr2 hc2
  have HB := Aside0.mk (Below.refl w.heap.size w)
  have H : ((rf_Truth.f k a0_0 a0_1 a0_2 a0_3 a0_4 a0_5 a0_6 l1 false).bind fun bt187 => ((rf_Pond.f k a0_0 a0_1 a0_2 a0_3 a0_4 a0_5 a0_6 bt187.1 bt187.2 l2).bind fun t191 => ((rf_Truth.f k a0_0 a0_1 a0_2 a0_3 a0_4 a0_5 a0_6 l1 true).bind fun bt194 => ((rf_Pond.f k a0_0 a0_1 a0_2 a0_3 a0_4 a0_5 a0_6 bt194.1 bt194.2 l2).bind fun t198 => (rf_Levels.l0 k l2 t191 t198 (([] : List (S23))) 0))))) = some r := h
  clear h
  replace H := Option.bind_eq_some_iff.mp H
  obtain ⟨⟨t187, t188⟩, A40, H⟩ := H
  replace H : ((rf_Pond.f k a0_0 a0_1 a0_2 a0_3 a0_4 a0_5 a0_6 t187 t188 l2).bind fun t191 => ((rf_Truth.f k a0_0 a0_1 a0_2 a0_3 a0_4 a0_5 a0_6 l1 true).bind fun bt194 => ((rf_Pond.f k a0_0 a0_1 a0_2 a0_3 a0_4 a0_5 a0_6 bt194.1 bt194.2 l2).bind fun t198 => (rf_Levels.l0 k l2 t191 t198 (([] : List (S23))) 0)))) = some r := H
  have A4 := Aside0.mk A40
  clear A40
  replace H := Option.bind_eq_some_iff.mp H
  obtain ⟨t191, A50, H⟩ := H
  replace H : ((rf_Truth.f k a0_0 a0_1 a0_2 a0_3 a0_4 a0_5 a0_6 l1 true).bind fun bt194 => ((rf_Pond.f k a0_0 a0_1 a0_2 a0_3 a0_4 a0_5 a0_6 bt194.1 bt194.2 l2).bind fun t198 => (rf_Levels.l0 k l2 t191 t198 (([] : List (S23))) 0))) = some r := H
  have A5 := Aside0.mk A50
  clear A50
  replace H := Option.bind_eq_some_iff.mp H
  obtain ⟨⟨t194, t195⟩, A60, H⟩ := H
  replace H : ((rf_Pond.f k a0_0 a0_1 a0_2 a0_3 a0_4 a0_5 a0_6 t194 t195 l2).bind fun t198 => (rf_Levels.l0 k l2 t191 t198 (([] : List (S23))) 0)) = some r := H
  have A6 := Aside0.mk A60
  clear A60
  replace H := Option.bind_eq_some_iff.mp H
  obtain ⟨t198, A70, H⟩ := H
  replace H : (rf_Levels.l0 k l2 t191 t198 (([] : List (S23))) 0) = some r := H
  have A7 := Aside0.mk A70
  clear A70
  obtain ⟨y201, hy201⟩ : ∃ y_ : List (S23), y_ = (([] : List (S23))) := ⟨_, rfl⟩
  replace H : (rf_Levels.l0 k l2 t191 t198 y201 0) = some r := by first | (rw [hy201]; with_reducible exact H) | (have H2_ := (Option.bind_some _ _).symm.trans H; rw [hy201]; with_reducible exact H2_) | (have H2_ := (Option.bind_some _ _).symm.trans H; with_reducible exact H2_) | with_reducible exact H | (rw [hy201]; exact H) | exact H
  have Ny201 := Aside0.mk hy201
  clear hy201
  have H' := Aside0.mk H
  clear H
  go_enter Try.func26, Try.ntmps26
  go_wp2_with (first | ((with_reducible refine gate_dst (N := 3) rfl ?_); refine box_event ?hg (N := 3) ?hd (cs := #[.int .i64 a0_0, .int .i64 a0_1, .int .i64 a0_2, .int .i64 a0_3, .int .i64 a0_4, .int .i64 a0_5, .int .i64 a0_6]) (t := 25) ?hr ?_; (case hd => rfl); (case hg => rfl); (case hr => first | (go_simp; done) | (go_simp; rfl)); intro gb186 hg w8 hbox hb; have n0_ := Aside0.mk (below_step (by repeat (first | (with_reducible first | exact HB.out | apply below_alloc | apply pw_below_drewN | apply below_drew1) | exact HB.out)) hb); have n1_ := Aside0.mk (hbox); have n2_ := Aside0.mk ((by rw [hg]; exact (below_size (by repeat (first | (with_reducible first | exact HB.out | apply below_alloc | apply pw_below_drewN | apply below_drew1) | exact HB.out))) : w.heap.size ≤ gb186)); have n3_ := Aside0.mk ((by rw [hg]; exact (below_size (by repeat (first | (with_reducible first | exact HB.out | apply below_alloc | apply pw_below_drewN | apply below_drew1) | exact HB.out))) : w.heap.size ≤ gb186)); clear HB; have HB := n0_; have BK186 := n1_; have GW186 := n2_; have GE186 := n3_; clear n0_ n1_ n2_ n3_; clear hb hbox hg; have hcz9_0 : w8.cell? ⟨gb186, 0, none⟩ = some (.int .i64 a0_0) := (blk_cell BK186.out 0).trans rfl; have hcz9_1 : w8.cell? ⟨gb186, 1, none⟩ = some (.int .i64 a0_1) := (blk_cell BK186.out 1).trans rfl; have hcz9_2 : w8.cell? ⟨gb186, 2, none⟩ = some (.int .i64 a0_2) := (blk_cell BK186.out 2).trans rfl; have hcz9_3 : w8.cell? ⟨gb186, 3, none⟩ = some (.int .i64 a0_3) := (blk_cell BK186.out 3).trans rfl; have hcz9_4 : w8.cell? ⟨gb186, 4, none⟩ = some (.int .i64 a0_4) := (blk_cell BK186.out 4).trans rfl; have hcz9_5 : w8.cell? ⟨gb186, 5, none⟩ = some (.int .i64 a0_5) := (blk_cell BK186.out 5).trans rfl; have hcz9_6 : w8.cell? ⟨gb186, 6, none⟩ = some (.int .i64 a0_6) := (blk_cell BK186.out 6).trans rfl; have hfz9_0 := blk_frozen BK186.out 0; have hfz9_1 := blk_frozen BK186.out 1; have hfz9_2 := blk_frozen BK186.out 2; have hfz9_3 := blk_frozen BK186.out 3; have hfz9_4 := blk_frozen BK186.out 4; have hfz9_5 := blk_frozen BK186.out 5; have hfz9_6 := blk_frozen BK186.out 6) | ((with_reducible refine gate_callee (f := 68) rfl ?_); refine goesL_ (some 16) rfl rfl Try.func68 (by kernel_rfl) rfl #[.agg #[.int .i64 a0_0, .int .i64 a0_1, .int .i64 a0_2, .int .i64 a0_3, .int .i64 a0_4, .int .i64 a0_5, .int .i64 a0_6], .slice A1 l1.length c1, .bool false] rfl (by (try simp only [List.map_toArray, List.map_cons, List.map_nil]); first | done | rfl | (simp only [List.length_drop, List.length_take]; rfl)) ?_; (with_reducible refine (rf_Truth.calls k a0_0 a0_1 a0_2 a0_3 a0_4 a0_5 a0_6 _ _ l1 false t187 t188 _ ?side1 ?side2 A4.out).mono ?_); (case side1 => repeat (first | exact (Kd.C_below HR1.out HB.out) | (with_reducible refine Kd.C_alloc ?_ _) | (with_reducible refine Kd.C_drewN ?_ _) | (with_reducible refine Kd.C_drew ?_))); (case side2 => exact HC1.out); rintro e w10 ⟨v189, rfl, ho0, hb⟩; refine ⟨_, rfl, ?_⟩; have n0_ := Aside0.mk (Kd.R_lower ho0 (below_size (by repeat (first | (with_reducible first | exact HB.out | apply below_alloc | apply pw_below_drewN | apply below_drew1 | refine below_set ?_ GE186.out) | exact HB.out)))); have n1_ := Aside0.mk (blk_below (g := gb186) (o := .cells #[.int .i64 a0_0, .int .i64 a0_1, .int .i64 a0_2, .int .i64 a0_3, .int .i64 a0_4, .int .i64 a0_5, .int .i64 a0_6] 25 (0, 0)) (by (with_reducible repeat (first | refine blk_drewN ?_ _ | refine blk_drew ?_ | refine blk_alloc ?_ _)); exact BK186.out) hb); have n2_ := Aside0.mk (below_step (by repeat (first | (with_reducible first | exact HB.out | apply below_alloc | apply pw_below_drewN | apply below_drew1 | refine below_set ?_ GE186.out) | exact HB.out)) hb); clear BK186; clear HB; have HO190 := n0_; have BK186 := n1_; have HB := n2_; clear n0_ n1_ n2_; (try clear hb); (try clear hb2); (try clear hk); (try clear hi); (try clear ho0); have hcz11_0 : w10.cell? ⟨gb186, 0, none⟩ = some (.int .i64 a0_0) := (blk_cell BK186.out 0).trans rfl; have hcz11_1 : w10.cell? ⟨gb186, 1, none⟩ = some (.int .i64 a0_1) := (blk_cell BK186.out 1).trans rfl; have hcz11_2 : w10.cell? ⟨gb186, 2, none⟩ = some (.int .i64 a0_2) := (blk_cell BK186.out 2).trans rfl; have hcz11_3 : w10.cell? ⟨gb186, 3, none⟩ = some (.int .i64 a0_3) := (blk_cell BK186.out 3).trans rfl; have hcz11_4 : w10.cell? ⟨gb186, 4, none⟩ = some (.int .i64 a0_4) := (blk_cell BK186.out 4).trans rfl; have hcz11_5 : w10.cell? ⟨gb186, 5, none⟩ = some (.int .i64 a0_5) := (blk_cell BK186.out 5).trans rfl; have hcz11_6 : w10.cell? ⟨gb186, 6, none⟩ = some (.int .i64 a0_6) := (blk_cell BK186.out 6).trans rfl; have hfz11_0 := blk_frozen BK186.out 0; have hfz11_1 := blk_frozen BK186.out 1; have hfz11_2 := blk_frozen BK186.out 2; have hfz11_3 := blk_frozen BK186.out 3; have hfz11_4 := blk_frozen BK186.out 4; have hfz11_5 := blk_frozen BK186.out 5; have hfz11_6 := blk_frozen BK186.out 6; obtain ⟨Ao12, co12, eo12⟩ := Kd.R_slice HO190.out; subst eo12) | ((with_reducible refine gate_callee (f := 70) rfl ?_); refine goesL_ (some 23) rfl rfl Try.func70 (by kernel_rfl) rfl #[.agg #[.int .i64 a0_0, .int .i64 a0_1, .int .i64 a0_2, .int .i64 a0_3, .int .i64 a0_4, .int .i64 a0_5, .int .i64 a0_6], .int .i64 t187, .slice Ao12 t188.length co12, .slice A2 l2.length c2] rfl (by (try simp only [List.map_toArray, List.map_cons, List.map_nil]); first | done | rfl | (simp only [List.length_drop, List.length_take]; rfl)) ?_; (with_reducible refine (rf_Pond.calls k a0_0 a0_1 a0_2 a0_3 a0_4 a0_5 a0_6 t187 _ _ t188 _ _ l2 t191 _ ?side1 ?side2 ?side3 ?side4 A5.out).mono ?_); (case side1 => repeat (first | exact (Kd.R_reads' HO190.out).2.2 | (with_reducible refine Kd.C_alloc ?_ _) | (with_reducible refine Kd.C_drewN ?_ _) | (with_reducible refine Kd.C_drew ?_))); (case side2 => exact (Kd.R_reads' HO190.out).2.1); (case side3 => repeat (first | exact (Kd.C_below HR2.out HB.out) | (with_reducible refine Kd.C_alloc ?_ _) | (with_reducible refine Kd.C_drewN ?_ _) | (with_reducible refine Kd.C_drew ?_))); (case side4 => exact HC2.out); rintro e w13 ⟨v192, rfl, ho0, hb⟩; refine ⟨_, rfl, ?_⟩; have n0_ := Aside0.mk (Kd.R_elder' (by (with_reducible repeat (first | apply Kd.R_alloc | apply Kd.R_drewN | apply Kd.R_drew)); exact HO190.out) (Kd.R_base ho0) hb); have n1_ := Aside0.mk (Kd.R_lower (Kd.R_new' ho0 (Kd.R_lt (by (with_reducible repeat (first | apply Kd.R_alloc | apply Kd.R_drewN | apply Kd.R_drew)); exact HO190.out))) (below_size (by repeat (first | (with_reducible first | exact HB.out | apply below_alloc | apply pw_below_drewN | apply below_drew1 | refine below_set ?_ GE186.out) | exact HB.out)))); have n2_ := Aside0.mk (blk_below (g := gb186) (o := .cells #[.int .i64 a0_0, .int .i64 a0_1, .int .i64 a0_2, .int .i64 a0_3, .int .i64 a0_4, .int .i64 a0_5, .int .i64 a0_6] 25 (0, 0)) (by (with_reducible repeat (first | refine blk_drewN ?_ _ | refine blk_drew ?_ | refine blk_alloc ?_ _)); exact BK186.out) hb); have n3_ := Aside0.mk (below_step (by repeat (first | (with_reducible first | exact HB.out | apply below_alloc | apply pw_below_drewN | apply below_drew1 | refine below_set ?_ GE186.out) | exact HB.out)) hb); clear HO190; clear BK186; clear HB; have HO190 := n0_; have HO193 := n1_; have BK186 := n2_; have HB := n3_; clear n0_ n1_ n2_ n3_; (try clear hb); (try clear hb2); (try clear hk); (try clear hi); (try clear ho0); have hcz14_0 : w13.cell? ⟨gb186, 0, none⟩ = some (.int .i64 a0_0) := (blk_cell BK186.out 0).trans rfl; have hcz14_1 : w13.cell? ⟨gb186, 1, none⟩ = some (.int .i64 a0_1) := (blk_cell BK186.out 1).trans rfl; have hcz14_2 : w13.cell? ⟨gb186, 2, none⟩ = some (.int .i64 a0_2) := (blk_cell BK186.out 2).trans rfl; have hcz14_3 : w13.cell? ⟨gb186, 3, none⟩ = some (.int .i64 a0_3) := (blk_cell BK186.out 3).trans rfl; have hcz14_4 : w13.cell? ⟨gb186, 4, none⟩ = some (.int .i64 a0_4) := (blk_cell BK186.out 4).trans rfl; have hcz14_5 : w13.cell? ⟨gb186, 5, none⟩ = some (.int .i64 a0_5) := (blk_cell BK186.out 5).trans rfl; have hcz14_6 : w13.cell? ⟨gb186, 6, none⟩ = some (.int .i64 a0_6) := (blk_cell BK186.out 6).trans rfl; have hfz14_0 := blk_frozen BK186.out 0; have hfz14_1 := blk_frozen BK186.out 1; have hfz14_2 := blk_frozen BK186.out 2; have hfz14_3 := blk_frozen BK186.out 3; have hfz14_4 := blk_frozen BK186.out 4; have hfz14_5 := blk_frozen BK186.out 5; have hfz14_6 := blk_frozen BK186.out 6) | ((with_reducible refine gate_callee (f := 68) rfl ?_); refine goesL_ (some 27) rfl rfl Try.func68 (by kernel_rfl) rfl #[.agg #[.int .i64 a0_0, .int .i64 a0_1, .int .i64 a0_2, .int .i64 a0_3, .int .i64 a0_4, .int .i64 a0_5, .int .i64 a0_6], .slice A1 l1.length c1, .bool true] rfl (by (try simp only [List.map_toArray, List.map_cons, List.map_nil]); first | done | rfl | (simp only [List.length_drop, List.length_take]; rfl)) ?_; (with_reducible refine (rf_Truth.calls k a0_0 a0_1 a0_2 a0_3 a0_4 a0_5 a0_6 _ _ l1 true t194 t195 _ ?side1 ?side2 A6.out).mono ?_); (case side1 => repeat (first | exact (Kd.C_below HR1.out HB.out) | (with_reducible refine Kd.C_alloc ?_ _) | (with_reducible refine Kd.C_drewN ?_ _) | (with_reducible refine Kd.C_drew ?_))); (case side2 => exact HC1.out); rintro e w15 ⟨v196, rfl, ho0, hb⟩; refine ⟨_, rfl, ?_⟩; have n0_ := Aside0.mk (Kd.R_elder' (by (with_reducible repeat (first | apply Kd.R_alloc | apply Kd.R_drewN | apply Kd.R_drew)); exact HO190.out) (Kd.R_base ho0) hb); have n1_ := Aside0.mk (Kd.R_elder' (by (with_reducible repeat (first | apply Kd.R_alloc | apply Kd.R_drewN | apply Kd.R_drew)); exact HO193.out) (Kd.R_base ho0) hb); have n2_ := Aside0.mk (Kd.R_lower (Kd.R_new' (Kd.R_new' ho0 (Kd.R_lt (by (with_reducible repeat (first | apply Kd.R_alloc | apply Kd.R_drewN | apply Kd.R_drew)); exact HO190.out))) (Kd.R_lt (by (with_reducible repeat (first | apply Kd.R_alloc | apply Kd.R_drewN | apply Kd.R_drew)); exact HO193.out))) (below_size (by repeat (first | (with_reducible first | exact HB.out | apply below_alloc | apply pw_below_drewN | apply below_drew1 | refine below_set ?_ GE186.out) | exact HB.out)))); have n3_ := Aside0.mk (blk_below (g := gb186) (o := .cells #[.int .i64 a0_0, .int .i64 a0_1, .int .i64 a0_2, .int .i64 a0_3, .int .i64 a0_4, .int .i64 a0_5, .int .i64 a0_6] 25 (0, 0)) (by (with_reducible repeat (first | refine blk_drewN ?_ _ | refine blk_drew ?_ | refine blk_alloc ?_ _)); exact BK186.out) hb); have n4_ := Aside0.mk (below_step (by repeat (first | (with_reducible first | exact HB.out | apply below_alloc | apply pw_below_drewN | apply below_drew1 | refine below_set ?_ GE186.out) | exact HB.out)) hb); clear HO190; clear HO193; clear BK186; clear HB; have HO190 := n0_; have HO193 := n1_; have HO197 := n2_; have BK186 := n3_; have HB := n4_; clear n0_ n1_ n2_ n3_ n4_; (try clear hb); (try clear hb2); (try clear hk); (try clear hi); (try clear ho0); have hcz16_0 : w15.cell? ⟨gb186, 0, none⟩ = some (.int .i64 a0_0) := (blk_cell BK186.out 0).trans rfl; have hcz16_1 : w15.cell? ⟨gb186, 1, none⟩ = some (.int .i64 a0_1) := (blk_cell BK186.out 1).trans rfl; have hcz16_2 : w15.cell? ⟨gb186, 2, none⟩ = some (.int .i64 a0_2) := (blk_cell BK186.out 2).trans rfl; have hcz16_3 : w15.cell? ⟨gb186, 3, none⟩ = some (.int .i64 a0_3) := (blk_cell BK186.out 3).trans rfl; have hcz16_4 : w15.cell? ⟨gb186, 4, none⟩ = some (.int .i64 a0_4) := (blk_cell BK186.out 4).trans rfl; have hcz16_5 : w15.cell? ⟨gb186, 5, none⟩ = some (.int .i64 a0_5) := (blk_cell BK186.out 5).trans rfl; have hcz16_6 : w15.cell? ⟨gb186, 6, none⟩ = some (.int .i64 a0_6) := (blk_cell BK186.out 6).trans rfl; have hfz16_0 := blk_frozen BK186.out 0; have hfz16_1 := blk_frozen BK186.out 1; have hfz16_2 := blk_frozen BK186.out 2; have hfz16_3 := blk_frozen BK186.out 3; have hfz16_4 := blk_frozen BK186.out 4; have hfz16_5 := blk_frozen BK186.out 5; have hfz16_6 := blk_frozen BK186.out 6; obtain ⟨Ao17, co17, eo17⟩ := Kd.R_slice HO197.out; subst eo17) | ((with_reducible refine gate_callee (f := 70) rfl ?_); refine goesL_ (some 34) rfl rfl Try.func70 (by kernel_rfl) rfl #[.agg #[.int .i64 a0_0, .int .i64 a0_1, .int .i64 a0_2, .int .i64 a0_3, .int .i64 a0_4, .int .i64 a0_5, .int .i64 a0_6], .int .i64 t194, .slice Ao17 t195.length co17, .slice A2 l2.length c2] rfl (by (try simp only [List.map_toArray, List.map_cons, List.map_nil]); first | done | rfl | (simp only [List.length_drop, List.length_take]; rfl)) ?_; (with_reducible refine (rf_Pond.calls k a0_0 a0_1 a0_2 a0_3 a0_4 a0_5 a0_6 t194 _ _ t195 _ _ l2 t198 _ ?side1 ?side2 ?side3 ?side4 A7.out).mono ?_); (case side1 => repeat (first | exact (Kd.R_reads' HO197.out).2.2 | (with_reducible refine Kd.C_alloc ?_ _) | (with_reducible refine Kd.C_drewN ?_ _) | (with_reducible refine Kd.C_drew ?_))); (case side2 => exact (Kd.R_reads' HO197.out).2.1); (case side3 => repeat (first | exact (Kd.C_below HR2.out HB.out) | (with_reducible refine Kd.C_alloc ?_ _) | (with_reducible refine Kd.C_drewN ?_ _) | (with_reducible refine Kd.C_drew ?_))); (case side4 => exact HC2.out); rintro e w18 ⟨v199, rfl, ho0, hb⟩; refine ⟨_, rfl, ?_⟩; have n0_ := Aside0.mk (Kd.R_elder' (by (with_reducible repeat (first | apply Kd.R_alloc | apply Kd.R_drewN | apply Kd.R_drew)); exact HO190.out) (Kd.R_base ho0) hb); have n1_ := Aside0.mk (Kd.R_elder' (by (with_reducible repeat (first | apply Kd.R_alloc | apply Kd.R_drewN | apply Kd.R_drew)); exact HO193.out) (Kd.R_base ho0) hb); have n2_ := Aside0.mk (Kd.R_elder' (by (with_reducible repeat (first | apply Kd.R_alloc | apply Kd.R_drewN | apply Kd.R_drew)); exact HO197.out) (Kd.R_base ho0) hb); have n3_ := Aside0.mk (Kd.R_lower (Kd.R_new' (Kd.R_new' (Kd.R_new' ho0 (Kd.R_lt (by (with_reducible repeat (first | apply Kd.R_alloc | apply Kd.R_drewN | apply Kd.R_drew)); exact HO190.out))) (Kd.R_lt (by (with_reducible repeat (first | apply Kd.R_alloc | apply Kd.R_drewN | apply Kd.R_drew)); exact HO193.out))) (Kd.R_lt (by (with_reducible repeat (first | apply Kd.R_alloc | apply Kd.R_drewN | apply Kd.R_drew)); exact HO197.out))) (below_size (by repeat (first | (with_reducible first | exact HB.out | apply below_alloc | apply pw_below_drewN | apply below_drew1 | refine below_set ?_ GE186.out) | exact HB.out)))); have n4_ := Aside0.mk (blk_below (g := gb186) (o := .cells #[.int .i64 a0_0, .int .i64 a0_1, .int .i64 a0_2, .int .i64 a0_3, .int .i64 a0_4, .int .i64 a0_5, .int .i64 a0_6] 25 (0, 0)) (by (with_reducible repeat (first | refine blk_drewN ?_ _ | refine blk_drew ?_ | refine blk_alloc ?_ _)); exact BK186.out) hb); have n5_ := Aside0.mk (below_step (by repeat (first | (with_reducible first | exact HB.out | apply below_alloc | apply pw_below_drewN | apply below_drew1 | refine below_set ?_ GE186.out) | exact HB.out)) hb); clear HO190; clear HO193; clear HO197; clear BK186; clear HB; have HO190 := n0_; have HO193 := n1_; have HO197 := n2_; have HO200 := n3_; have BK186 := n4_; have HB := n5_; clear n0_ n1_ n2_ n3_ n4_ n5_; (try clear hb); (try clear hb2); (try clear hk); (try clear hi); (try clear ho0)) | ((with_reducible refine gate_dst (N := 35) rfl ?_); refine Kd.R_lit k23 _ 23 ?hg (N := 35) ?hd (xs := ([] : List (S23))) (inner := []) (ok := fun _ => True) (okp := fun _ => True) ?hr ?hp (fun _ hk => hk) trivial (Below.refl _ _) (Nat.le_refl _) (by simp) ?_; (case hd => rfl); (case hg => rfl); (case hr => first | (go_simp; done) | (go_simp; rfl)); (case hp => exact (Reps.none _ _)); intro v202 w19 ho20 hb hg_ hnew_; clear hg_ hnew_; (first | rw [← Ny201.out] at ho20 | (simp only [Int.reduceToNat] at ho20; rw [← Ny201.out] at ho20)); have n0_ := Aside0.mk (Kd.R_below (by (with_reducible repeat (first | apply Kd.R_alloc | apply Kd.R_drewN | apply Kd.R_drew)); exact HO190.out) hb); have n1_ := Aside0.mk (Kd.R_below (by (with_reducible repeat (first | apply Kd.R_alloc | apply Kd.R_drewN | apply Kd.R_drew)); exact HO193.out) hb); have n2_ := Aside0.mk (Kd.R_below (by (with_reducible repeat (first | apply Kd.R_alloc | apply Kd.R_drewN | apply Kd.R_drew)); exact HO197.out) hb); have n3_ := Aside0.mk (Kd.R_below (by (with_reducible repeat (first | apply Kd.R_alloc | apply Kd.R_drewN | apply Kd.R_drew)); exact HO200.out) hb); have n4_ := Aside0.mk (Kd.R_lower ho20 (below_size (by repeat (first | (with_reducible first | exact HB.out | apply below_alloc | apply pw_below_drewN | apply below_drew1 | refine below_set ?_ GE186.out) | exact HB.out)))); have n5_ := Aside0.mk (blk_below (g := gb186) (o := .cells #[.int .i64 a0_0, .int .i64 a0_1, .int .i64 a0_2, .int .i64 a0_3, .int .i64 a0_4, .int .i64 a0_5, .int .i64 a0_6] 25 (0, 0)) (by (with_reducible repeat (first | refine blk_drewN ?_ _ | refine blk_drew ?_ | refine blk_alloc ?_ _)); exact BK186.out) hb); have n6_ := Aside0.mk (below_step (by repeat (first | (with_reducible first | exact HB.out | apply below_alloc | apply pw_below_drewN | apply below_drew1 | refine below_set ?_ GE186.out) | exact HB.out)) hb); clear HO190; clear HO193; clear HO197; clear HO200; clear BK186; clear HB; have HO190 := n0_; have HO193 := n1_; have HO197 := n2_; have HO200 := n3_; have HO203 := n4_; have BK186 := n5_; have HB := n6_; clear n0_ n1_ n2_ n3_ n4_ n5_ n6_; clear hb ho20))
  go_loopg [11, 12] k (fun kq v11 v12 w' => ∃ (x11_1 : List (S23)) (x12_1 : Int), v12 = .int .i64 x12_1 ∧ Aside0 (rf_Levels.l0 kq l2 t191 t198 x11_1 x12_1 = some r) ∧ Aside0 (kq ≤ k) ∧ Aside0 (Kd.R (Kd.int .i64) 3 w' w.heap.size (fun k_ => some k_ ≠ (v199 : Value).ownBlock) v192 t191) ∧ Aside0 (Kd.R (Kd.int .i64) 3 w' w.heap.size (fun k_ => some k_ ≠ (v192 : Value).ownBlock) v199 t198) ∧ Aside0 (Kd.R k23 23 w' w.heap.size (fun _ => True) v11 x11_1) ∧ Aside0 (w'.heap[gb186]? = some (.cells #[.int .i64 a0_0, .int .i64 a0_1, .int .i64 a0_2, .int .i64 a0_3, .int .i64 a0_4, .int .i64 a0_5, .int .i64 a0_6] 25 (0, 0))) ∧ Aside0 (Below w.heap.size w w'))
  case atStart => exact ⟨(y201), (0), (by first | rfl | (simp; done) | (simp [*]; done)), H', ⟨Nat.le_refl _⟩, ⟨by (with_reducible repeat (first | apply Kd.R_alloc | apply Kd.R_drewN | apply Kd.R_drew)); exact Kd.R_mono HO193.out (fun _ hk => hk.2)⟩, ⟨by (with_reducible repeat (first | apply Kd.R_alloc | apply Kd.R_drewN | apply Kd.R_drew)); exact Kd.R_mono HO200.out (fun _ hk => hk.1.2)⟩, ⟨by (with_reducible repeat (first | apply Kd.R_alloc | apply Kd.R_drewN | apply Kd.R_drew)); exact HO203.out⟩, ⟨by (with_reducible repeat (first | refine blk_drewN ?_ _ | refine blk_drew ?_ | refine blk_alloc ?_ _)); exact BK186.out⟩, ⟨by repeat (first | (with_reducible first | exact HB.out | apply below_alloc | apply pw_below_drewN | apply below_drew1 | refine below_set ?_ GE186.out) | exact HB.out)⟩⟩
  case round =>
    clear H'
    try clear c1
    try clear c2
    try clear p2
    try clear c6
    try clear c7
    try clear hcz11_0
    try clear hcz11_1
    try clear hcz11_2
    try clear hcz11_3
    try clear hcz11_4
    try clear hcz11_5
    try clear hcz11_6
    try clear hcz14_0
    try clear hcz14_1
    try clear hcz14_2
    try clear hcz14_3
    try clear hcz14_4
    try clear hcz14_5
    try clear hcz14_6
    try clear hcz16_0
    try clear hcz16_1
    try clear hcz16_2
    try clear hcz16_3
    try clear hcz16_4
    try clear hcz16_5
    try clear hcz16_6
    try clear hcz9_0
    try clear hcz9_1
    try clear hcz9_2
    try clear hcz9_3
    try clear hcz9_4
    try clear hcz9_5
    try clear hcz9_6
    try clear hfz11_0
    try clear hfz11_1
    try clear hfz11_2
    try clear hfz11_3
    try clear hfz11_4
    try clear hfz11_5
    try clear hfz11_6
    try clear hfz14_0
    try clear hfz14_1
    try clear hfz14_2
    try clear hfz14_3
    try clear hfz14_4
    try clear hfz14_5
    try clear hfz14_6
    try clear hfz16_0
    try clear hfz16_1
    try clear hfz16_2
    try clear hfz16_3
    try clear hfz16_4
    try clear hfz16_5
    try clear hfz16_6
    try clear hfz9_0
    try clear hfz9_1
    try clear hfz9_2
    try clear hfz9_3
    try clear hfz9_4
    try clear hfz9_5
    try clear hfz9_6
    obtain ⟨x11_1, x12_1, rfl, HA, HK1, HO_9, HO_10, HO_11, BK186, HB⟩ := hrel
    cases gk with
    | zero => exact absurd HA.out (by simp [rf_Levels.l0])
    | succ k1 =>
      have H := HA.out
      clear HA
      simp only [rf_Levels.l0] at H
      by_cases c21 : x12_1 < (l2.length : Int)
      · rw [if_pos c21] at H
        have c21b0 : decide (x12_1 < (l2.length : Int)) = true := decide_eq_true c21
        clear c21
        by_cases c22 : 0 ≤ x12_1
        · rw [if_pos c22] at H
          have c22b0 : decide (0 ≤ x12_1) = true := decide_eq_true c22
          clear c22
          by_cases c23 : x12_1 < (t191.length : Int)
          · rw [if_pos c23] at H
            have c23b0 : decide (x12_1 < (t191.length : Int)) = true := decide_eq_true c23
            clear c23
            by_cases c24 : x12_1 < (t198.length : Int)
            · rw [if_pos c24] at H
              have c24b0 : decide (x12_1 < (t198.length : Int)) = true := decide_eq_true c24
              clear c24
              by_cases c25 : x11_1.length < 8796093022208
              · rw [if_pos c25] at H
                have LMc25 := Aside0.mk c25
                clear c25
                obtain ⟨y206, hy206⟩ : ∃ y_ : List (S23), y_ = (x11_1 ++ [(⟨rd t191 x12_1, rd t198 x12_1⟩ : S23)]) := ⟨_, rfl⟩
                replace H : (rf_Levels.l0 k1 l2 t191 t198 y206 (wrap64 (x12_1 + 1))) = some r := by first | (rw [hy206]; with_reducible exact H) | (have H2_ := (Option.bind_some _ _).symm.trans H; rw [hy206]; with_reducible exact H2_) | (have H2_ := (Option.bind_some _ _).symm.trans H; with_reducible exact H2_) | with_reducible exact H | (rw [hy206]; exact H) | exact H
                have Ny206 := Aside0.mk hy206
                clear hy206
                have H' := Aside0.mk H
                clear H
                try go_wp2
                have n0_ := Aside0.mk (Kd.R_drew HO_9.out)
                have n1_ := Aside0.mk (Kd.R_drew HO_10.out)
                have n2_ := Aside0.mk (Kd.R_drew HO_11.out)
                have n3_ := Aside0.mk (blk_drew BK186.out)
                have n4_ := Aside0.mk (below_drew1 HB.out)
                clear HO_9
                clear HO_10
                clear HO_11
                clear BK186
                clear HB
                have HO_9 := n0_
                have HO_10 := n1_
                have HO_11 := n2_
                have BK186 := n3_
                have HB := n4_
                clear n0_ n1_ n2_ n3_ n4_
                obtain ⟨Ao27, co27, eo27⟩ := Kd.R_slice HO_9.out
                (first | subst eo27 | (injection eo27 with f1_ f2_ f3_; have f4_ := f1_.symm; have f5_ := f3_.symm; clear f1_ f2_ f3_; subst f4_; subst f5_))
                have p204 : 0 ≤ (x12_1 : Int) := of_decide_eq_true (by first | (with_reducible assumption) | assumption)
                have q204 : x12_1 < (t191.length : Int) := of_decide_eq_true (by first | (with_reducible assumption) | assumption)
                obtain ⟨ad204, e204, hx204_0⟩ := Kd.at_int (Kd.R_reads' HO_9.out).2.2 x12_1 p204 q204
                cases e204
                replace p204 := eq_true p204
                replace q204 := eq_true q204
                obtain ⟨Ao28, co28, eo28⟩ := Kd.R_slice HO_10.out
                (first | subst eo28 | (injection eo28 with f1_ f2_ f3_; have f4_ := f1_.symm; have f5_ := f3_.symm; clear f1_ f2_ f3_; subst f4_; subst f5_))
                have p205 : 0 ≤ (x12_1 : Int) := of_decide_eq_true (by first | (with_reducible assumption) | assumption)
                have q205 : x12_1 < (t198.length : Int) := of_decide_eq_true (by first | (with_reducible assumption) | assumption)
                obtain ⟨ad205, e205, hx205_0⟩ := Kd.at_int (Kd.R_reads' HO_10.out).2.2 x12_1 p205 q205
                cases e205
                replace p205 := eq_true p205
                replace q205 := eq_true q205
                refine start_ (n := 13) (S := fun w' => w'.cell? (ad204.add (x12_1).toNat) = some (.int .i64 (rd t191 x12_1)) ∧ w'.cell? (ad205.add (x12_1).toNat) = some (.int .i64 (rd t198 x12_1))) (ds := [10, 11]) #[false, false, false, false, false, false, false, false, false, false, false, false, false] (by kernel_rfl) rfl rfl ⟨hx204_0, hx205_0⟩ (fun hHeld => ?_); refine with_tabW rf_Levels.tab8 rf_Levels.bits8 (fun HT_ HW_ => ?_)
                generalize wr.drew = w26 at HO_9 HO_10 HO_11 BK186 HB hx204_0 hx205_0 hHeld ⊢
                refine pure_ (i := 0) (N := some 42) (v := ?_) (a' := ?_) #[true, false, false, false, false, false, false, false, false, false, false, false, false] rfl rfl (any_of HT_.out (by kernel_rfl)) (fun _ _ _ h => h) (Or.inl ⟨by rfl, ?_⟩) ?_ ?_
                rotate_left
                · intro w'
                  go_simp
                  with_reducible rfl
                rotate_left
                · simp only [Act.put, List.setIfInBounds_toArray, List.set_cons_zero, List.set_cons_succ, i64_w, i32_w]
                  rfl
                refine pure_ (i := 1) (N := some 43) (v := ?_) (a' := ?_) #[true, true, false, false, false, false, false, false, false, false, false, false, false] rfl rfl (any_of HT_.out (by kernel_rfl)) (fun _ _ _ h => h) (Or.inl ⟨by rfl, ?_⟩) ?_ ?_
                rotate_left
                · intro w'
                  go_simp
                  with_reducible rfl
                rotate_left
                · simp only [Act.put, List.setIfInBounds_toArray, List.set_cons_zero, List.set_cons_succ, i64_w, i32_w]
                  rfl
                refine pure_ (i := 2) (N := some 44) (v := ?_) (a' := ?_) #[true, true, true, false, false, false, false, false, false, false, false, false, false] rfl rfl (any_of HT_.out (by kernel_rfl)) (fun _ _ _ h => h) (Or.inl ⟨by rfl, ?_⟩) ?_ ?_
                rotate_left
                · intro w'
                  go_simp
                  with_reducible rfl
                rotate_left
                · simp only [Act.put, List.setIfInBounds_toArray, List.set_cons_zero, List.set_cons_succ, i64_w, i32_w]
                  rfl
                refine pure_ (i := 3) (N := some 45) (v := ?_) (a' := ?_) #[true, true, true, true, false, false, false, false, false, false, false, false, false] rfl rfl (any_of HT_.out (by kernel_rfl)) (fun _ _ _ h => h) (Or.inl ⟨by rfl, ?_⟩) ?_ ?_
                rotate_left
                · intro w'
                  go_simp
                  with_reducible rfl
                rotate_left
                · simp only [Act.put, List.setIfInBounds_toArray, List.set_cons_zero, List.set_cons_succ, i64_w, i32_w]
                  rfl
                refine pure_ (i := 5) (N := some 47) (v := ?_) (a' := ?_) #[true, true, true, true, false, true, false, false, false, false, false, false, false] rfl rfl (any_of HT_.out (by kernel_rfl)) (fun _ _ _ h => h) (Or.inl ⟨by rfl, ?_⟩) ?_ ?_
                rotate_left
                · intro w'
                  go_simp
                  with_reducible rfl
                rotate_left
                · simp only [Act.put, List.setIfInBounds_toArray, List.set_cons_zero, List.set_cons_succ, i64_w, i32_w]
                  rfl
                refine pure_ (i := 6) (N := some 48) (v := ?_) (a' := ?_) #[true, true, true, true, false, true, true, false, false, false, false, false, false] rfl rfl (any_of HT_.out (by kernel_rfl)) (fun _ _ _ h => h) (Or.inl ⟨by rfl, ?_⟩) ?_ ?_
                rotate_left
                · intro w'
                  go_simp
                  with_reducible rfl
                rotate_left
                · simp only [Act.put, List.setIfInBounds_toArray, List.set_cons_zero, List.set_cons_succ, i64_w, i32_w]
                  rfl
                refine pure_ (i := 7) (N := some 49) (v := ?_) (a' := ?_) #[true, true, true, true, false, true, true, true, false, false, false, false, false] rfl rfl (any_of HT_.out (by kernel_rfl)) (fun _ _ _ h => h) (Or.inl ⟨by rfl, ?_⟩) ?_ ?_
                rotate_left
                · intro w'
                  go_simp
                  with_reducible rfl
                rotate_left
                · simp only [Act.put, List.setIfInBounds_toArray, List.set_cons_zero, List.set_cons_succ, i64_w, i32_w]
                  rfl
                refine take_ (i := 4) (N := some 46) (v := ?_) (a' := ?_) #[true, true, true, true, true, true, true, true, false, false, false, false, false] rfl rfl (take_ofW HT_.out HW_.out (by kernel_rfl)) (fun _ _ _ h => h) (Or.inl ⟨by rfl, ?_⟩) hHeld ?_ ?_
                rotate_left
                · rintro w' ⟨s0, s1⟩
                  go_simp
                  with_reducible rfl
                rotate_left
                · simp only [Act.put, List.setIfInBounds_toArray, List.set_cons_zero, List.set_cons_succ, i64_w, i32_w]
                  rfl
                refine take_ (i := 8) (N := some 50) (v := ?_) (a' := ?_) #[true, true, true, true, true, true, true, true, true, false, false, false, false] rfl rfl (take_ofW HT_.out HW_.out (by kernel_rfl)) (fun _ _ _ h => h) (Or.inl ⟨by rfl, ?_⟩) hHeld ?_ ?_
                rotate_left
                · rintro w' ⟨s0, s1⟩
                  go_simp
                  with_reducible rfl
                rotate_left
                · simp only [Act.put, List.setIfInBounds_toArray, List.set_cons_zero, List.set_cons_succ, i64_w, i32_w]
                  rfl
                refine pure_ (i := 9) (N := some 51) (v := ?_) (a' := ?_) #[true, true, true, true, true, true, true, true, true, true, false, false, false] rfl rfl (any_of HT_.out (by kernel_rfl)) (fun _ _ _ h => h) (Or.inl ⟨by rfl, ?_⟩) ?_ ?_
                rotate_left
                · intro w'
                  go_simp
                  with_reducible rfl
                rotate_left
                · simp only [Act.put, List.setIfInBounds_toArray, List.set_cons_zero, List.set_cons_succ, i64_w, i32_w]
                  rfl
                refine last_ (i := 10) (N := some 52) #[true, true, true, true, true, true, true, true, true, true, true, false, false] rfl rfl (one_of HT_.out (by kernel_rfl)) (by decide) (fun K hK => ?_)
                refine value_ (w1 := ?_) (v := ?_) (by rfl) rfl ?_ ?_
                rotate_left 2
                · go_simp
                  constructor
                  · rfl
                  · rfl
                refine hK.out _ _ ?_
                clear hK K
                refine norm_ (a' := ?_) ?_ ?_
                rotate_left
                · show Act.put _ (some 52) _ = _
                  simp only [Act.put, List.setIfInBounds_toArray, List.set_cons_zero, List.set_cons_succ, i64_w, i32_w]
                  rfl
                refine last_ (i := 11) (N := some 53) #[true, true, true, true, true, true, true, true, true, true, true, true, false] rfl rfl (one_of HT_.out (by kernel_rfl)) (by decide) (fun K hK => ?_)
                refine Kd.R_append_step k23 (w0 := w) w.heap.size (by rfl) (.tmp 42) (.tmp 52) 26 23 (.agg #[(.int .i64 0), (.int .i64 0)]) 16 rfl Try.underlying26 info23 rfl (by decide) (by omega) u11 x11_1 (⟨rd t191 x12_1, rd t198 x12_1⟩ : S23) [.int .i64 (rd t191 x12_1), .int .i64 (rd t198 x12_1)] (fun _ => True) (fun _ => False) rfl rfl ?aP (fun _ hk => hk.elim) ?aF ?aO ?aB ?aS ?aL ?_
                (case aP => exact k23_mkM _ _ _ (⟨rd t191 x12_1, rd t198 x12_1⟩ : S23))
                (case aB => exact (by repeat (first | (with_reducible first | exact HB.out | apply below_alloc | apply pw_below_drewN | apply below_drew1 | refine below_set ?_ GE186.out) | exact HB.out)))
                (case aF => exact (fun _ _ => trivial))
                (case aO => exact (by (with_reducible repeat (first | apply Kd.R_alloc | apply Kd.R_drewN | apply Kd.R_drew)); exact HO_11.out))
                (case aS => exact (below_size (by repeat (first | (with_reducible first | exact HB.out | apply below_alloc | apply pw_below_drewN | apply below_drew1 | refine below_set ?_ GE186.out) | exact HB.out))))
                (case aL => have := LMc25.out; omega)
                intro v207 w29 ho hb hg hat
                rw [← Ny206.out] at ho
                have n0_ := Aside0.mk (Kd.R_over' (by (with_reducible repeat (first | apply Kd.R_alloc | apply Kd.R_drewN | apply Kd.R_drew)); exact HO_9.out) (Kd.R_typed (by (with_reducible repeat (first | apply Kd.R_alloc | apply Kd.R_drewN | apply Kd.R_drew)); exact HO_11.out)) (by decide) hg)
                have n1_ := Aside0.mk (Kd.R_over' (by (with_reducible repeat (first | apply Kd.R_alloc | apply Kd.R_drewN | apply Kd.R_drew)); exact HO_10.out) (Kd.R_typed (by (with_reducible repeat (first | apply Kd.R_alloc | apply Kd.R_drewN | apply Kd.R_drew)); exact HO_11.out)) (by decide) hg)
                have n2_ := Aside0.mk (blk_grown (g := gb186) (o := .cells #[.int .i64 a0_0, .int .i64 a0_1, .int .i64 a0_2, .int .i64 a0_3, .int .i64 a0_4, .int .i64 a0_5, .int .i64 a0_6] 25 (0, 0)) (by (with_reducible repeat (first | refine blk_drewN ?_ _ | refine blk_drew ?_ | refine blk_alloc ?_ _)); exact BK186.out) hg (Kd.R_ne HO_11.out BK186.out (by decide)))
                have n3_ := Aside0.mk (hb)
                have n4_ := Aside0.mk (ho)
                clear HO_9
                clear HO_10
                clear BK186
                clear HB
                clear HO_11
                have HO_9 := n0_
                have HO_10 := n1_
                have BK186 := n2_
                have HB := n3_
                have HO208 := n4_
                clear n0_ n1_ n2_ n3_ n4_
                clear ho hb hg hat
                refine hK.out _ _ ?_
                clear hK K
                refine norm_ (a' := ?_) ?_ ?_
                rotate_left
                · show Act.put _ (some 53) _ = _
                  simp only [Act.put, List.setIfInBounds_toArray, List.set_cons_zero, List.set_cons_succ, i64_w, i32_w]
                  rfl
                refine pure_ (i := 12) (N := some 11) (v := ?_) (a' := ?_) #[true, true, true, true, true, true, true, true, true, true, true, true, true] rfl rfl (any_of HT_.out (by kernel_rfl)) (fun _ _ _ h => h) (Or.inl ⟨by rfl, ?_⟩) ?_ ?_
                rotate_left
                · intro w'
                  go_simp
                  with_reducible rfl
                rotate_left
                · simp only [Act.put, List.setIfInBounds_toArray, List.set_cons_zero, List.set_cons_succ, i64_w, i32_w]
                  rfl
                refine done_ (done_of HT_.out (by kernel_rfl)) ?_
                try go_wp2
                go_roundg k1
                case measure => have := HK1.out; omega
                case rel => exact ⟨(y206), (wrap64 (x12_1 + 1)), (by first | rfl | (simp; done) | (simp [*]; done)), H', ⟨by have := HK1.out; omega⟩, ⟨by (with_reducible repeat (first | apply Kd.R_alloc | apply Kd.R_drewN | apply Kd.R_drew)); exact HO_9.out⟩, ⟨by (with_reducible repeat (first | apply Kd.R_alloc | apply Kd.R_drewN | apply Kd.R_drew)); exact HO_10.out⟩, ⟨by (with_reducible repeat (first | apply Kd.R_alloc | apply Kd.R_drewN | apply Kd.R_drew)); exact HO208.out⟩, ⟨by (with_reducible repeat (first | refine blk_drewN ?_ _ | refine blk_drew ?_ | refine blk_alloc ?_ _)); exact BK186.out⟩, ⟨by repeat (first | (with_reducible first | exact HB.out | apply below_alloc | apply pw_below_drewN | apply below_drew1 | refine below_set ?_ GE186.out) | exact HB.out)⟩⟩
              · rw [if_neg c25] at H
                exact absurd H (by simp)
            · rw [if_neg c24] at H
              exact absurd H (by simp)
          · rw [if_neg c23] at H
            exact absurd H (by simp)
        · rw [if_neg c22] at H
          exact absurd H (by simp)
      · rw [if_neg c21] at H
        have c21b0 : decide (x12_1 < (l2.length : Int)) = false := decide_eq_false c21
        clear c21
        obtain rfl := Option.some.inj H
        go_wp2
        go_ret
        exact ⟨_, by first | rfl | (simp [errW_none, errW_some] <;> rfl) | (simp [*, errW_none, errW_some] <;> rfl), by (with_reducible repeat (first | apply Kd.R_alloc | apply Kd.R_drewN | apply Kd.R_drew)); exact HO_11.out, by repeat (first | (with_reducible first | exact HB.out | apply below_alloc | apply pw_below_drewN | apply below_drew1 | refine below_set ?_ GE186.out) | exact HB.out)⟩
end Go.Proofs.Ytcnlbbmokphjnaa.Q
namespace Go.Proofs.Ytcnlbbmokphjnaa.Q
open Go.RowKit Go.Proofs.YtcnlbbmokphjnaaW.PrintWords
set_option linter.unusedVariables false
set_option linter.unusedSimpArgs false
def endG (most : Bool) : Sp → Int := if most then Sp.hi else Sp.lo
theorem Truth_l0 (l : List S23) (hl : l.length ≤ 1000) (most : Bool) (now : Int) : ∀ (d i : Nat) (out : List Int), i + d = l.length → out.length = i → Ev (fun k => rf_Truth.l0 k l most now out (i : Int)) (now, out ++ ((toSp l).drop i).map (endG most))
  | 0, i, out, h, ho => by
    refine Ev.up ?_
    simp only [rf_Truth.l0, if_neg (show ¬ (i : Int) < (l.length : Int) by omega)]
    rw [List.drop_eq_nil_of_le (by rw [toSp_len]; omega)]
    simpa using Ev.now (now, out)
  | d + 1, i, out, h, ho => by
    refine Ev.up ?_
    simp only [rf_Truth.l0, if_pos (show (i : Int) < (l.length : Int) by omega), if_pos (show (0 : Int) ≤ (i : Int) by omega), if_pos (show out.length < 17592186044416 by omega), wi i (by omega), rd23 l i (by omega)]
    rw [toSp_drop l i (by omega), List.map_cons]
    cases most
    · have := Truth_l0 l hl false now d (i + 1) (out ++ [l[i].f0]) (by omega) (by simp [ho])
      simpa [endG] using this
    · have := Truth_l0 l hl true now d (i + 1) (out ++ [l[i].f1]) (by omega) (by simp [ho])
      simpa [endG] using this
theorem Truth_f (a0 a1 a2 a3 a4 a5 a6 : Int) (l : List S23) (hl : l.length ≤ 1000) (most : Bool) : Ev (fun k => rf_Truth.f k a0 a1 a2 a3 a4 a5 a6 l most) (endG most ⟨a5, a6⟩, (toSp l).map (endG most)) := by
  simp only [rf_Truth.f, Option.bind_some]
  cases most
  · refine Ev.up ?_
    have := Truth_l0 l hl false a5 l.length 0 [] (by omega) rfl
    simpa [rf_Truth.j0, endG] using this
  · refine Ev.up ?_
    have := Truth_l0 l hl true a6 l.length 0 [] (by omega) rfl
    simpa [rf_Truth.j0, endG] using this
def pondL (m : Mill) : Int → List Int → List Int → List Int
  | now, c :: cs, p :: ps => (min m.ho (now + c) - p * m.T) :: if min m.ho (now + c) - p * m.T < 0 then [] else pondL m (min m.ho (now + c) - p * m.T) cs ps
  | _, _, _ => []
structure FineC (m : Mill) (came plan : List Int) : Prop where
  ho : 0 ≤ m.ho ∧ m.ho ≤ 500
  T : 0 ≤ m.T ∧ m.T ≤ 100
  flow : ∀ c ∈ came, 0 ≤ c ∧ c ≤ 2000
  pl : ∀ k ∈ plan, 0 ≤ k ∧ k ≤ 10
  len : plan.length ≤ came.length
  long : came.length ≤ 1000
theorem FineC.step {m came plan} (h : FineC m came plan) (now : Int) (hn : 0 ≤ now ∧ now ≤ 2000) (i : Nat) (hi : i < plan.length) :
    wrap64 (mn m.ho (wrap64 (now + rd came i)) - wrap64 (rd plan i * m.T)) = min m.ho (now + rd came i) - rd plan i * m.T ∧ (0 ≤ min m.ho (now + rd came i) - rd plan i * m.T → min m.ho (now + rd came i) - rd plan i * m.T ≤ 2000) := by
  have h1 := h.flow (rd came i) (by rw [rdI came i (by have := h.len; omega)]; exact List.getElem_mem _)
  have h2 := h.pl (rd plan i) (by rw [rdI plan i hi]; exact List.getElem_mem _)
  have hT := h.T
  have hho := h.ho
  have h3 : 0 ≤ rd plan i * m.T := Int.mul_nonneg h2.1 hT.1
  have h4 : rd plan i * m.T ≤ 10 * 100 := Int.mul_le_mul h2.2 hT.2 hT.1 (by omega)
  rw [wr (x := now + rd came i) (by omega), wr (x := rd plan i * m.T) (by omega)]
  have e : mn m.ho (now + rd came i) = min m.ho (now + rd came i) := by unfold mn; omega
  rw [e, wr (by omega)]
  exact ⟨rfl, fun _ => by omega⟩
theorem Pond_l0 (a0 a1 a2 a3 a4 a5 a6 : Int) (came plan : List Int) (hf : FineC ⟨a0, a1, a2, a3, a4, a5, a6⟩ came plan) : ∀ (d i : Nat) (now : Int) (out : List Int), i + d = plan.length → out.length = i → 0 ≤ now ∧ now ≤ 2000 →
    Ev (fun k => rf_Pond.l0 k now came plan out (i : Int) a0 a1 a2 a3 a4 a5 a6) (out ++ pondL ⟨a0, a1, a2, a3, a4, a5, a6⟩ now (came.drop i) (plan.drop i))
  | 0, i, now, out, h, ho, hn => by
    refine Ev.up ?_
    simp only [rf_Pond.l0, if_neg (show ¬ (i : Int) < (plan.length : Int) by omega)]
    have e2 : plan.drop i = [] := List.drop_eq_nil_of_le (by omega)
    have e : pondL ⟨a0, a1, a2, a3, a4, a5, a6⟩ now (came.drop i) [] = [] := by cases came.drop i <;> rfl
    rw [e2, e, List.append_nil]
    exact Ev.now out
  | d + 1, i, now, out, h, ho, hn => by
    refine Ev.up ?_
    have hl := hf.len
    have hlong := hf.long
    obtain ⟨hs, hb⟩ := hf.step now hn i (by omega)
    simp only [rf_Pond.l0, if_pos (show (i : Int) < (plan.length : Int) by omega), if_pos (show (0 : Int) ≤ (i : Int) by omega), if_pos (show (i : Int) < (came.length : Int) by omega), if_pos (show out.length < 17592186044416 by omega), wi i (by omega), Option.bind_some]
    simp only at hs hb
    simp only [hs]
    rw [List.drop_eq_getElem_cons (show i < came.length by omega), List.drop_eq_getElem_cons (show i < plan.length by omega)]
    simp only [pondL]
    rw [← rdI came i (by omega), ← rdI plan i (by omega)]
    by_cases hlt : min a4 (now + rd came i) - rd plan i * a1 < 0
    · simp only [if_pos hlt]
      exact Ev.now _
    · simp only [if_neg hlt]
      have := Pond_l0 a0 a1 a2 a3 a4 a5 a6 came plan hf d (i + 1) (min a4 (now + rd came i) - rd plan i * a1) (out ++ [min a4 (now + rd came i) - rd plan i * a1]) (by omega) (by simp [ho]) ⟨by omega, hb (by omega)⟩
      simpa using this
theorem Pond_f (a0 a1 a2 a3 a4 a5 a6 now : Int) (came plan : List Int) (hf : FineC ⟨a0, a1, a2, a3, a4, a5, a6⟩ came plan) (hn : 0 ≤ now ∧ now ≤ 2000) : Ev (fun k => rf_Pond.f k a0 a1 a2 a3 a4 a5 a6 now came plan) (pondL ⟨a0, a1, a2, a3, a4, a5, a6⟩ now came plan) := by
  simpa [rf_Pond.f] using Pond_l0 a0 a1 a2 a3 a4 a5 a6 came plan hf plan.length 0 now [] (by omega) rfl hn
def dryP (m : Mill) : Int → List Int → List Int → Int
  | now, c :: cs, p :: ps => if min m.ho (now + c) - p * m.T < 0 then 0 else (if dryP m (min m.ho (now + c) - p * m.T) cs ps < 0 then -1 else dryP m (min m.ho (now + c) - p * m.T) cs ps + 1)
  | _, _, _ => -1
def lastNeg (t : List Int) : Int := if 0 < t.length ∧ rd t ((t.length : Int) - 1) < 0 then (t.length : Int) - 1 else -1
theorem lastNeg_cons (x : Int) (t : List Int) (ht : t ≠ []) : lastNeg (x :: t) = if lastNeg t < 0 then -1 else lastNeg t + 1 := by
  have hp : 0 < t.length := List.length_pos_iff.2 ht
  have e : rd (x :: t) (((x :: t).length : Int) - 1) = rd t ((t.length : Int) - 1) := by
    rw [show (((x :: t).length : Int) - 1) = (((t.length - 1) + 1 : Nat) : Int) by simp; omega, show ((t.length : Int) - 1) = ((t.length - 1 : Nat) : Int) by omega]
    simp [rd]
  unfold lastNeg
  rw [e]
  simp only [List.length_cons]
  by_cases h : rd t ((t.length : Int) - 1) < 0
  · simp only [h, hp, and_self, and_true, Nat.succ_pos, if_true]
    rw [if_neg (by omega)]
    omega
  · simp only [h, and_false, if_false]
    rw [if_pos (by omega)]
theorem pondL_ne (m : Mill) (now c p : Int) (cs ps : List Int) : pondL m now (c :: cs) (p :: ps) ≠ [] := by simp [pondL]
theorem lastNeg_pond (m : Mill) : ∀ (ps cs : List Int) (now : Int), ps.length ≤ cs.length → lastNeg (pondL m now cs ps) = dryP m now cs ps
  | [], cs, now, _ => by cases cs <;> simp [pondL, dryP, lastNeg]
  | p :: ps, [], now, h => by simp at h
  | p :: ps, c :: cs, now, h => by
    simp only [pondL, dryP]
    by_cases hlt : min m.ho (now + c) - p * m.T < 0
    · rw [if_pos hlt, if_pos hlt]
      simp [lastNeg, rd, hlt]
    · rw [if_neg hlt, if_neg hlt]
      have ih := lastNeg_pond m ps cs (min m.ho (now + c) - p * m.T) (by simpa using h)
      by_cases hn : pondL m (min m.ho (now + c) - p * m.T) cs ps = []
      · rw [hn] at ih ⊢
        rw [← ih]
        simp [lastNeg, rd]
        omega
      · rw [lastNeg_cons _ _ hn, ih]
theorem Dry_f (a0 a1 a2 a3 a4 a5 a6 now : Int) (came plan : List Int) (hf : FineC ⟨a0, a1, a2, a3, a4, a5, a6⟩ came plan) (hn : 0 ≤ now ∧ now ≤ 2000) : Ev (fun k => rf_Dry.f k a0 a1 a2 a3 a4 a5 a6 now came plan) (dryP ⟨a0, a1, a2, a3, a4, a5, a6⟩ now came plan) := by
  rw [← lastNeg_pond _ _ _ _ hf.len]
  have hlen : ∀ (ps cs : List Int) (now : Int), (pondL ⟨a0, a1, a2, a3, a4, a5, a6⟩ now cs ps).length ≤ ps.length := by
    intro ps
    induction ps with
    | nil => intro cs now; cases cs <;> simp [pondL]
    | cons p ps ih =>
      intro cs now
      cases cs with
      | nil => simp [pondL]
      | cons c cs =>
        simp only [pondL]
        split
        · simp
        · have := ih cs (min a4 (now + c) - p * a1)
          simp only [List.length_cons]
          omega
  have hl := hlen plan came now
  have h1 := hf.len
  have h2 := hf.long
  refine Ev.bind (Pond_f a0 a1 a2 a3 a4 a5 a6 now came plan hf hn) ?_
  generalize pondL ⟨a0, a1, a2, a3, a4, a5, a6⟩ now came plan = t at hl
  by_cases h0 : 0 < t.length
  · simp only [if_pos (show (t.length : Int) > 0 by omega), wr (x := (t.length : Int) - 1) (by omega), if_pos (show (0 : Int) ≤ (t.length : Int) - 1 by omega), if_pos (show (t.length : Int) - 1 < (t.length : Int) by omega)]
    by_cases hneg : rd t ((t.length : Int) - 1) < 0
    · simp only [if_pos hneg]
      rw [lastNeg, if_pos ⟨h0, hneg⟩]
      exact Ev.now _
    · simp only [if_neg hneg]
      rw [lastNeg, if_neg (fun h => hneg h.2)]
      exact Ev.now _
  · simp only [if_neg (show ¬ (t.length : Int) > 0 by omega)]
    rw [lastNeg, if_neg (fun h => h0 h.1)]
    exact Ev.now _
theorem dryF_cons (t : Tide) (ts : List Tide) : dryF (t :: ts) = if t.left < 0 then (t.hour : Int) else dryF ts := by
  unfold dryF
  rw [List.find?_cons]
  by_cases h : t.left < 0
  · simp [h]
  · simp [h]
theorem dryF_pond (m : Mill) (g : Sp → Int) (l : List Sp) : ∀ (p : List Int) (water : Int) (h : Nat), h + p.length ≤ l.length → dryF (tidesL m g l water p h) = if dryP m water ((l.drop h).map g) p < 0 then -1 else dryP m water ((l.drop h).map g) p + h
  | [], water, h, hl => by
    have e : dryP m water ((l.drop h).map g) [] = -1 := by cases (l.drop h).map g <;> rfl
    rw [e]
    rfl
  | k :: ks, water, h, hl => by
    rw [List.length_cons] at hl
    rw [List.drop_eq_getElem_cons (show h < l.length by omega), List.map_cons]
    simp only [tidesL, dryP, dryF_cons]
    have e : leftA m g l water h k = min m.ho (water + g l[h]) - k * m.T := by rw [leftA, fullA, rdS_nat l h (by omega)]
    rw [e]
    by_cases hlt : min m.ho (water + g l[h]) - k * m.T < 0
    · simp only [hlt, if_true]
      simp
    · simp only [hlt, if_false]
      rw [dryF_pond m g l ks _ (h + 1) (by omega)]
      by_cases h3 : dryP m (min m.ho (water + g l[h]) - k * m.T) ((l.drop (h + 1)).map g) ks < 0
      · rw [if_pos h3, if_pos h3, if_pos (by omega)]
      · rw [if_neg h3, if_neg h3, if_neg (by omega)]
        omega
theorem dryP_lo (m : Mill) : ∀ (ps cs : List Int) (now : Int), -1 ≤ dryP m now cs ps
  | [], cs, now => by cases cs <;> simp [dryP]
  | p :: ps, [], now => by simp [dryP]
  | p :: ps, c :: cs, now => by
    simp only [dryP]
    have := dryP_lo m ps cs (min m.ho (now + c) - p * m.T)
    split
    · omega
    · split <;> omega
theorem dryS_pond (m : Mill) (g : Sp → Int) (l : List Sp) (p : List Int) (hl : p.length ≤ l.length) : dryS m g l p = dryP m (g ⟨m.nl, m.nh⟩) (l.map g) p := by
  have h := dryF_pond m g l p (g ⟨m.nl, m.nh⟩) 0 (by omega)
  have h2 := dryP_lo m p (l.map g) (g ⟨m.nl, m.nh⟩)
  rw [List.drop_zero] at h
  unfold dryS
  rw [h]
  split <;> omega
theorem FineC.ofFine {m g l plan} (h : Fine m g l plan) (hl : l.length ≤ 1000) : FineC m (l.map g) plan :=
  ⟨h.ho, h.T, fun c hc => by obtain ⟨s, hs, rfl⟩ := List.mem_map.1 hc; exact h.flow s hs, h.pl, by rw [List.length_map]; exact h.len, by rw [List.length_map]; exact hl⟩
theorem Goes_f (a0 a1 a2 a3 a4 a5 a6 : Int) (l : List S23) (plan : List Int) (hl : l.length ≤ 1000) (h0 : Fine ⟨a0, a1, a2, a3, a4, a5, a6⟩ Sp.lo (toSp l) plan) (h1 : Fine ⟨a0, a1, a2, a3, a4, a5, a6⟩ Sp.hi (toSp l) plan) :
    Ev (fun k => rf_Goes.f k a0 a1 a2 a3 a4 a5 a6 l plan) (dryS ⟨a0, a1, a2, a3, a4, a5, a6⟩ Sp.lo (toSp l) plan, decide (0 ≤ dryS ⟨a0, a1, a2, a3, a4, a5, a6⟩ Sp.lo (toSp l) plan) && (dryS ⟨a0, a1, a2, a3, a4, a5, a6⟩ Sp.hi (toSp l) plan == dryS ⟨a0, a1, a2, a3, a4, a5, a6⟩ Sp.lo (toSp l) plan)) := by
  unfold rf_Goes.f
  have hln : (toSp l).length ≤ 1000 := by rw [toSp_len]; exact hl
  refine Ev.bind (Truth_f a0 a1 a2 a3 a4 a5 a6 l hl false) ?_
  refine Ev.bind (a := dryS ⟨a0, a1, a2, a3, a4, a5, a6⟩ Sp.lo (toSp l) plan) ?_ ?_
  · rw [dryS_pond _ _ _ _ h0.len]
    exact Dry_f a0 a1 a2 a3 a4 a5 a6 a5 _ plan (FineC.ofFine h0 hln) h0.now
  · refine Ev.bind (Truth_f a0 a1 a2 a3 a4 a5 a6 l hl true) ?_
    by_cases hp : 0 ≤ dryS ⟨a0, a1, a2, a3, a4, a5, a6⟩ Sp.lo (toSp l) plan
    · simp only [if_pos (show dryS ⟨a0, a1, a2, a3, a4, a5, a6⟩ Sp.lo (toSp l) plan ≥ 0 from hp), decide_eq_true hp, Bool.true_and]
      refine Ev.bind (a := dryS ⟨a0, a1, a2, a3, a4, a5, a6⟩ Sp.hi (toSp l) plan) ?_ (Ev.now _)
      rw [dryS_pond _ _ _ _ h1.len]
      exact Dry_f a0 a1 a2 a3 a4 a5 a6 a6 _ plan (FineC.ofFine h1 hln) h1.now
    · simp only [if_neg (show ¬ dryS ⟨a0, a1, a2, a3, a4, a5, a6⟩ Sp.lo (toSp l) plan ≥ 0 from hp), decide_eq_false hp, Bool.false_and]
      exact Ev.now _
theorem pondL_tides (m : Mill) (g : Sp → Int) (l : List Sp) : ∀ (p : List Int) (water : Int) (h : Nat), h + p.length ≤ l.length → pondL m water ((l.drop h).map g) p = (tidesL m g l water p h).map (·.left)
  | [], water, h, hl => by cases (l.drop h).map g <;> rfl
  | k :: ks, water, h, hl => by
    rw [List.length_cons] at hl
    rw [List.drop_eq_getElem_cons (show h < l.length by omega), List.map_cons]
    have e : leftA m g l water h k = min m.ho (water + g l[h]) - k * m.T := by rw [leftA, fullA, rdS_nat l h (by omega)]
    simp only [tidesL, pondL, List.map_cons]
    rw [e]
    by_cases hlt : min m.ho (water + g l[h]) - k * m.T < 0
    · rw [if_pos hlt, if_pos hlt]; rfl
    · rw [if_neg hlt, if_neg hlt, pondL_tides m g l ks _ (h + 1) (by omega)]
theorem Levels_l0 (p a b : List Int) (hl : p.length ≤ 1000) (ha : p.length ≤ a.length) (hb : p.length ≤ b.length) : ∀ (d i : Nat) (out : List S23), i + d = p.length → out.length = i → Ev (fun k => rf_Levels.l0 k p a b out (i : Int)) (out ++ ((List.range p.length).drop i).map (fun h => ⟨a.getD h 0, b.getD h 0⟩))
  | 0, i, out, h, ho => by
    refine Ev.up ?_
    simp only [rf_Levels.l0, if_neg (show ¬ (i : Int) < (p.length : Int) by omega)]
    rw [List.drop_eq_nil_of_le (by simp; omega)]
    simpa using Ev.now out
  | d + 1, i, out, h, ho => by
    refine Ev.up ?_
    simp only [rf_Levels.l0, if_pos (show (i : Int) < (p.length : Int) by omega), if_pos (show (0 : Int) ≤ (i : Int) by omega), if_pos (show (i : Int) < (a.length : Int) by omega), if_pos (show (i : Int) < (b.length : Int) by omega), if_pos (show out.length < 8796093022208 by omega), wi i (by omega)]
    rw [List.drop_eq_getElem_cons (show i < (List.range p.length).length by simp; omega), List.map_cons]
    have := Levels_l0 p a b hl ha hb d (i + 1) (out ++ [⟨rd a i, rd b i⟩]) (by omega) (by simp [ho])
    simpa [rd] using this
theorem Levels_f (a0 a1 a2 a3 a4 a5 a6 : Int) (l : List S23) (plan : List Int) (hl : l.length ≤ 1000) (h0 : Fine ⟨a0, a1, a2, a3, a4, a5, a6⟩ Sp.lo (toSp l) plan) (h1 : Fine ⟨a0, a1, a2, a3, a4, a5, a6⟩ Sp.hi (toSp l) plan)
    (hlo : dryS ⟨a0, a1, a2, a3, a4, a5, a6⟩ Sp.lo (toSp l) plan = -1) (hle : ∀ s ∈ toSp l, s.lo ≤ s.hi) (hnow : a5 ≤ a6) :
    Ev (fun k => rf_Levels.f k a0 a1 a2 a3 a4 a5 a6 l plan) (ofSp (levelsL ⟨a0, a1, a2, a3, a4, a5, a6⟩ (toSp l) plan)) := by
  unfold rf_Levels.f
  have hln : (toSp l).length ≤ 1000 := by rw [toSp_len]; exact hl
  have hpl : plan.length ≤ 1000 := by have := h0.len; omega
  have hn := dryS_none _ _ _ _ hlo
  have hn2 := more_water ⟨a0, a1, a2, a3, a4, a5, a6⟩ (toSp l) (by
    intro j
    by_cases hj : j < (toSp l).length
    · rw [rdS_nat _ j hj]; exact hle _ (List.getElem_mem _)
    · simp [rdS, List.getD_eq_getElem?_getD, List.getElem?_eq_none (Nat.le_of_not_lt hj), z_Sp]) plan a5 a6 0 hnow hn
  have hf1 := tidesL_full _ Sp.lo (toSp l) plan _ 0 hn
  have hf2 := tidesL_full _ Sp.hi (toSp l) plan _ 0 hn2
  have e0 := pondL_tides ⟨a0, a1, a2, a3, a4, a5, a6⟩ Sp.lo (toSp l) plan a5 0 (by have := h0.len; omega)
  have e1 := pondL_tides ⟨a0, a1, a2, a3, a4, a5, a6⟩ Sp.hi (toSp l) plan a6 0 (by have := h1.len; omega)
  rw [List.drop_zero] at e0 e1
  refine Ev.bind (Truth_f a0 a1 a2 a3 a4 a5 a6 l hl false) ?_
  refine Ev.bind (Pond_f a0 a1 a2 a3 a4 a5 a6 a5 _ plan (FineC.ofFine h0 hln) h0.now) ?_
  refine Ev.bind (Truth_f a0 a1 a2 a3 a4 a5 a6 l hl true) ?_
  refine Ev.bind (Pond_f a0 a1 a2 a3 a4 a5 a6 a6 _ plan (FineC.ofFine h1 hln) h1.now) ?_
  simp only [show endG false = Sp.lo from rfl, show endG true = Sp.hi from rfl, e0, e1]
  have hL := Levels_l0 plan ((tidesL ⟨a0, a1, a2, a3, a4, a5, a6⟩ Sp.lo (toSp l) a5 plan 0).map (·.left)) ((tidesL ⟨a0, a1, a2, a3, a4, a5, a6⟩ Sp.hi (toSp l) a6 plan 0).map (·.left)) hpl (by rw [List.length_map]; exact Nat.le_of_eq hf1.symm) (by rw [List.length_map]; exact Nat.le_of_eq hf2.symm) plan.length 0 [] (by omega) rfl
  rw [List.drop_zero, List.nil_append] at hL
  have e : ofSp (levelsL ⟨a0, a1, a2, a3, a4, a5, a6⟩ (toSp l) plan) = (List.range plan.length).map (fun h => (⟨((tidesL ⟨a0, a1, a2, a3, a4, a5, a6⟩ Sp.lo (toSp l) a5 plan 0).map (·.left)).getD h 0, ((tidesL ⟨a0, a1, a2, a3, a4, a5, a6⟩ Sp.hi (toSp l) a6 plan 0).map (·.left)).getD h 0⟩ : S23)) := by
    simp only [ofSp, levelsL, List.map_map]
    rfl
  rw [e]
  exact hL
end Go.Proofs.Ytcnlbbmokphjnaa.Q
namespace Go.Proofs.Ytcnlbbmokphjnaa.Q
open Go.RowKit Go.Proofs.YtcnlbbmokphjnaaW.PrintWords Go.Proofs.YtcnlbbmokphjnaaW.PrintLast Go.Proofs.YtcnlbbmokphjnaaW.PrintMore
attribute [local go_sem] max2_int min2_int max_two min_two max_three min_three max_four min_four   -- for this text's walks alone
set_option linter.unusedVariables false
set_option linter.unusedSimpArgs false
mutual
def rf_Tables.l0 : Nat → List (S23) → List (List Int) → Int → Int → Int → Int → Int → Int → Int → Int → Option ((List (List Int)))
  | 0, _, _, _, _, _, _, _, _, _, _ => none
  | k + 1, x1, x5, x6, x102000, x102001, x102002, x102003, x102004, x102005, x102006 => if x6 ≥ 0 then (if 0 ≤ (wrap64 (x102004 + 1)) then (if (wrap64 (x102004 + 1) : Int).toNat ≤ 35184372088832 then (if 0 ≤ x6 then (if x6 < (x5.length : Int) then (rf_Tables.l1 k x1 (x5.set (x6 : Int).toNat (List.replicate (wrap64 (x102004 + 1) : Int).toNat 0)) x6 0 x102000 x102001 x102002 x102003 x102004 x102005 x102006) else (none)) else (none)) else (none)) else (none)) else (some x5)
def rf_Tables.l1 : Nat → List (S23) → List (List Int) → Int → Int → Int → Int → Int → Int → Int → Int → Int → Option ((List (List Int)))
  | 0, _, _, _, _, _, _, _, _, _, _, _ => none
  | k + 1, x1, x5, x6, x7, x102000, x102001, x102002, x102003, x102004, x102005, x102006 => if x7 ≤ x102004 then (rf_Tables.j2 k x1 x5 x6 x7 (decide (x6 < (x1.length : Int))) x102000 x102001 x102002 x102003 x102004 x102005 x102006) else (rf_Tables.j2 k x1 x5 x6 x7 false x102000 x102001 x102002 x102003 x102004 x102005 x102006)
def rf_Tables.j2 : Nat → List (S23) → List (List Int) → Int → Int → Bool → Int → Int → Int → Int → Int → Int → Int → Option ((List (List Int)))
  | 0, _, _, _, _, _, _, _, _, _, _, _, _ => none
  | k + 1, x1, x5, x6, x7, x37, x102000, x102001, x102002, x102003, x102004, x102005, x102006 => if x37 = true then (rf_Tables.l2 k x1 x5 x6 x7 0 0 x102000 x102001 x102002 x102003 x102004 x102005 x102006) else (rf_Tables.l0 k x1 x5 (wrap64 (x6 - 1)) x102000 x102001 x102002 x102003 x102004 x102005 x102006)
def rf_Tables.l2 : Nat → List (S23) → List (List Int) → Int → Int → Int → Int → Int → Int → Int → Int → Int → Int → Int → Option ((List (List Int)))
  | 0, _, _, _, _, _, _, _, _, _, _, _, _, _ => none
  | k + 1, x1, x5, x6, x7, x8, x9, x102000, x102001, x102002, x102003, x102004, x102005, x102006 => if x9 ≤ x102000 then (if 0 ≤ x6 then (if x6 < (x1.length : Int) then (if (wrap64 ((mn x102004 (wrap64 (x7 + ((rd_T23 x1 x6).f0)))) - (wrap64 (x9 * x102001)))) ≥ 0 then (if 0 ≤ (wrap64 (x6 + 1)) then (if (wrap64 (x6 + 1)) < (x5.length : Int) then (if 0 ≤ (wrap64 ((mn x102004 (wrap64 (x7 + ((rd_T23 x1 x6).f0)))) - (wrap64 (x9 * x102001)))) then (if (wrap64 ((mn x102004 (wrap64 (x7 + ((rd_T23 x1 x6).f0)))) - (wrap64 (x9 * x102001)))) < ((rd_L1 x5 (wrap64 (x6 + 1))).length : Int) then (rf_Tables.l2 k x1 x5 x6 x7 (mx x8 (wrap64 (x9 + (rd (rd_L1 x5 (wrap64 (x6 + 1))) (wrap64 ((mn x102004 (wrap64 (x7 + ((rd_T23 x1 x6).f0)))) - (wrap64 (x9 * x102001)))))))) (wrap64 (x9 + 1)) x102000 x102001 x102002 x102003 x102004 x102005 x102006) else (none)) else (none)) else (none)) else (none)) else (rf_Tables.l2 k x1 x5 x6 x7 x8 (wrap64 (x9 + 1)) x102000 x102001 x102002 x102003 x102004 x102005 x102006)) else (none)) else (none)) else (if 0 ≤ x6 then (if x6 < (x5.length : Int) then (if 0 ≤ x7 then (if x7 < ((rd_L1 x5 x6).length : Int) then (rf_Tables.l1 k x1 (x5.set (x6 : Int).toNat ((rd_L1 x5 x6).set (x7 : Int).toNat x8)) x6 (wrap64 (x7 + 1)) x102000 x102001 x102002 x102003 x102004 x102005 x102006) else (none)) else (none)) else (none)) else (none))
end
def rf_Tables.f (k : Nat) (a0_0 : Int) (a0_1 : Int) (a0_2 : Int) (a0_3 : Int) (a0_4 : Int) (a0_5 : Int) (a0_6 : Int) (l1 : List (S23)) : Option ((List (List Int))) := if 0 ≤ (wrap64 ((l1.length : Int) + 1)) then (if (wrap64 ((l1.length : Int) + 1) : Int).toNat ≤ 11728124029610 then (rf_Tables.l0 k l1 (List.replicate (wrap64 ((l1.length : Int) + 1) : Int).toNat []) (l1.length : Int) a0_0 a0_1 a0_2 a0_3 a0_4 a0_5 a0_6) else (none)) else (none)
set_option maxHeartbeats 8000000 in
set_option maxRecDepth 100000 in
theorem rf_Tables.calls (k : Nat) (a0_0 : Int) (a0_1 : Int) (a0_2 : Int) (a0_3 : Int) (a0_4 : Int) (a0_5 : Int) (a0_6 : Int) (A1 : Option Addr) (c1 : Nat) (l1 : List (S23)) (r : List (List Int)) (w : World) (hr1 : Kd.C k23 w A1 l1.length l1) (hc1 : l1.length ≤ c1) (h : rf_Tables.f k a0_0 a0_1 a0_2 a0_3 a0_4 a0_5 a0_6 l1 = some r) :
    Calls Try.prog 77 #[.agg #[.int .i64 a0_0, .int .i64 a0_1, .int .i64 a0_2, .int .i64 a0_3, .int .i64 a0_4, .int .i64 a0_5, .int .i64 a0_6], .slice A1 l1.length c1] w fun e w' => ∃ v0_ : Value, e = .returned (v0_) ∧ Kd.S (Kd.slice 3 (Kd.int .i64)) 27 w' w.heap.size (fun _ => True) v0_ r ∧ Below w.heap.size w w' := by
  have hu25 := Try.underlying25
  have HR1 := Aside0.mk hr1
  have HC1 := Aside0.mk hc1
  clear hr1 hc1
  have HB := Aside0.mk (Below.refl w.heap.size w)
  have H : (if 0 ≤ (wrap64 ((l1.length : Int) + 1)) then (if (wrap64 ((l1.length : Int) + 1) : Int).toNat ≤ 11728124029610 then (rf_Tables.l0 k l1 (List.replicate (wrap64 ((l1.length : Int) + 1) : Int).toNat []) (l1.length : Int) a0_0 a0_1 a0_2 a0_3 a0_4 a0_5 a0_6) else (none)) else (none)) = some r := h
  clear h
  obtain ⟨ji3, hji3⟩ : ∃ j_ : Int, (wrap64 ((l1.length : Int) + 1)) = j_ := ⟨_, rfl⟩
  replace H : (if 0 ≤ (ji3) then (if (ji3 : Int).toNat ≤ 11728124029610 then (rf_Tables.l0 k l1 (List.replicate (ji3 : Int).toNat []) (l1.length : Int) a0_0 a0_1 a0_2 a0_3 a0_4 a0_5 a0_6) else (none)) else (none)) = some r := by first | (rw [hji3] at H; exact H) | (simp only [hji3] at H ⊢; exact H)
  have hji3w : (IntKind.i64.wrap ((l1.length : Int) + 1)) = ji3 := (i64_w _).trans hji3
  by_cases c4 : 0 ≤ (ji3)
  · rw [if_pos c4] at H
    have c4b0 := eq_true c4
    have c4b1 : decide (0 ≤ (ji3)) = true := decide_eq_true c4
    clear c4
    by_cases c5 : (ji3 : Int).toNat ≤ 11728124029610
    · rw [if_pos c5] at H
      have c5b0 := eq_true c5
      have c5b1 : decide ((ji3 : Int).toNat ≤ 11728124029610) = true := decide_eq_true c5
      clear c5
      obtain ⟨y102, hy102⟩ : ∃ y_ : List (List Int), y_ = (List.replicate (ji3 : Int).toNat []) := ⟨_, rfl⟩
      replace H : (rf_Tables.l0 k l1 y102 (l1.length : Int) a0_0 a0_1 a0_2 a0_3 a0_4 a0_5 a0_6) = some r := by first | (rw [hy102]; with_reducible exact H) | (have H2_ := (Option.bind_some _ _).symm.trans H; rw [hy102]; with_reducible exact H2_) | (have H2_ := (Option.bind_some _ _).symm.trans H; with_reducible exact H2_) | with_reducible exact H | (rw [hy102]; exact H) | exact H
      have Ny102 := Aside0.mk hy102
      clear hy102
      have H' := Aside0.mk H
      clear H
      go_enter Try.func77, Try.ntmps77
      go_wp2_with (first | ((with_reducible refine gate_dst (N := 2) rfl ?_); (try (refine gate_guard (by rfl) ?_; dsimp only)); refine box_event ?hg (N := 2) ?hd (cs := #[.int .i64 a0_0, .int .i64 a0_1, .int .i64 a0_2, .int .i64 a0_3, .int .i64 a0_4, .int .i64 a0_5, .int .i64 a0_6]) (t := 25) ?hr ?_; (case hd => rfl); (case hg => rfl); (case hr => first | (go_simp; done) | (go_simp; rfl)); intro gb101 hg w6 hbox hb; have n0_ := Aside0.mk (below_step (by repeat (first | (with_reducible first | exact HB.out | apply below_alloc | apply pw_below_drewN | apply below_drew1) | exact HB.out)) hb); have n1_ := Aside0.mk (hbox); have n2_ := Aside0.mk ((by rw [hg]; exact (below_size (by repeat (first | (with_reducible first | exact HB.out | apply below_alloc | apply pw_below_drewN | apply below_drew1) | exact HB.out))) : w.heap.size ≤ gb101)); have n3_ := Aside0.mk ((by rw [hg]; exact (below_size (by repeat (first | (with_reducible first | exact HB.out | apply below_alloc | apply pw_below_drewN | apply below_drew1) | exact HB.out))) : w.heap.size ≤ gb101)); clear HB; have HB := n0_; have BK101 := n1_; have GW101 := n2_; have GE101 := n3_; clear n0_ n1_ n2_ n3_; clear hb hbox hg) | ((with_reducible refine gate_dst (N := 14) rfl ?_); (try (refine gate_guard (by rfl) ?_; dsimp only)); refine Kd.S_make (Kd.slice 3 (Kd.int .i64)) _ 27 rfl (N := 14) rfl 121 _ _ rfl ji3 rfl rfl Try.underlying121 (.slice none 0 0) 24 info27 rfl (by decide) (by omega) [] (ok := fun _ => True) (okp := fun _ => True) ⟨_, rfl, Kd.R_nil _ _ _ _ _⟩ (fun _ hk => hk) trivial (of_decide_eq_true (by first | (with_reducible assumption) | assumption)) (Nat.le_trans (Nat.mul_le_mul_right _ (of_decide_eq_true (by first | (with_reducible assumption) | assumption) : ji3.toNat ≤ 11728124029610)) (by omega)) (Below.refl _ _) (Nat.le_refl _) ?_; intro v103 w7 ho8 hb hg_ hnew_; clear hg_ hnew_; (first | rw [← Ny102.out] at ho8 | (simp only [Int.reduceToNat] at ho8; rw [← Ny102.out] at ho8)); have n0_ := Aside0.mk (Kd.S_lower ho8 (below_size (by repeat (first | (with_reducible first | exact HB.out | apply below_alloc | apply pw_below_drewN | apply below_drew1 | refine below_set ?_ GE101.out) | exact HB.out)))); have n1_ := Aside0.mk (blk_below (g := gb101) (o := .cells #[.int .i64 a0_0, .int .i64 a0_1, .int .i64 a0_2, .int .i64 a0_3, .int .i64 a0_4, .int .i64 a0_5, .int .i64 a0_6] 25 (0, 0)) (by (with_reducible repeat (first | refine blk_drewN ?_ _ | refine blk_drew ?_ | refine blk_alloc ?_ _)); exact BK101.out) hb); have n2_ := Aside0.mk (below_step (by repeat (first | (with_reducible first | exact HB.out | apply below_alloc | apply pw_below_drewN | apply below_drew1 | refine below_set ?_ GE101.out) | exact HB.out)) hb); clear BK101; clear HB; have HO104 := n0_; have BK101 := n1_; have HB := n2_; clear n0_ n1_ n2_; clear hb ho8))
      repeat (go_quiet (first | ((with_reducible refine gate_dst (N := 2) rfl ?_); (try (refine gate_guard (by rfl) ?_; dsimp only)); refine box_event ?hg (N := 2) ?hd (cs := #[.int .i64 a0_0, .int .i64 a0_1, .int .i64 a0_2, .int .i64 a0_3, .int .i64 a0_4, .int .i64 a0_5, .int .i64 a0_6]) (t := 25) ?hr ?_; (case hd => rfl); (case hg => rfl); (case hr => first | (go_simp; done) | (go_simp; rfl)); intro gb101 hg w6 hbox hb; have n0_ := Aside0.mk (below_step (by repeat (first | (with_reducible first | exact HB.out | apply below_alloc | apply pw_below_drewN | apply below_drew1) | exact HB.out)) hb); have n1_ := Aside0.mk (hbox); have n2_ := Aside0.mk ((by rw [hg]; exact (below_size (by repeat (first | (with_reducible first | exact HB.out | apply below_alloc | apply pw_below_drewN | apply below_drew1) | exact HB.out))) : w.heap.size ≤ gb101)); have n3_ := Aside0.mk ((by rw [hg]; exact (below_size (by repeat (first | (with_reducible first | exact HB.out | apply below_alloc | apply pw_below_drewN | apply below_drew1) | exact HB.out))) : w.heap.size ≤ gb101)); clear HB; have HB := n0_; have BK101 := n1_; have GW101 := n2_; have GE101 := n3_; clear n0_ n1_ n2_ n3_; clear hb hbox hg) | ((with_reducible refine gate_dst (N := 14) rfl ?_); (try (refine gate_guard (by rfl) ?_; dsimp only)); refine Kd.S_make (Kd.slice 3 (Kd.int .i64)) _ 27 rfl (N := 14) rfl 121 _ _ rfl ji3 rfl rfl Try.underlying121 (.slice none 0 0) 24 info27 rfl (by decide) (by omega) [] (ok := fun _ => True) (okp := fun _ => True) ⟨_, rfl, Kd.R_nil _ _ _ _ _⟩ (fun _ hk => hk) trivial (of_decide_eq_true (by first | (with_reducible assumption) | assumption)) (Nat.le_trans (Nat.mul_le_mul_right _ (of_decide_eq_true (by first | (with_reducible assumption) | assumption) : ji3.toNat ≤ 11728124029610)) (by omega)) (Below.refl _ _) (Nat.le_refl _) ?_; intro v103 w7 ho8 hb hg_ hnew_; clear hg_ hnew_; (first | rw [← Ny102.out] at ho8 | (simp only [Int.reduceToNat] at ho8; rw [← Ny102.out] at ho8)); have n0_ := Aside0.mk (Kd.S_lower ho8 (below_size (by repeat (first | (with_reducible first | exact HB.out | apply below_alloc | apply pw_below_drewN | apply below_drew1 | refine below_set ?_ GE101.out) | exact HB.out)))); have n1_ := Aside0.mk (blk_below (g := gb101) (o := .cells #[.int .i64 a0_0, .int .i64 a0_1, .int .i64 a0_2, .int .i64 a0_3, .int .i64 a0_4, .int .i64 a0_5, .int .i64 a0_6] 25 (0, 0)) (by (with_reducible repeat (first | refine blk_drewN ?_ _ | refine blk_drew ?_ | refine blk_alloc ?_ _)); exact BK101.out) hb); have n2_ := Aside0.mk (below_step (by repeat (first | (with_reducible first | exact HB.out | apply below_alloc | apply pw_below_drewN | apply below_drew1 | refine below_set ?_ GE101.out) | exact HB.out)) hb); clear BK101; clear HB; have HO104 := n0_; have BK101 := n1_; have HB := n2_; clear n0_ n1_ n2_; clear hb ho8)); try go_wp2_with (first | ((with_reducible refine gate_dst (N := 2) rfl ?_); (try (refine gate_guard (by rfl) ?_; dsimp only)); refine box_event ?hg (N := 2) ?hd (cs := #[.int .i64 a0_0, .int .i64 a0_1, .int .i64 a0_2, .int .i64 a0_3, .int .i64 a0_4, .int .i64 a0_5, .int .i64 a0_6]) (t := 25) ?hr ?_; (case hd => rfl); (case hg => rfl); (case hr => first | (go_simp; done) | (go_simp; rfl)); intro gb101 hg w6 hbox hb; have n0_ := Aside0.mk (below_step (by repeat (first | (with_reducible first | exact HB.out | apply below_alloc | apply pw_below_drewN | apply below_drew1) | exact HB.out)) hb); have n1_ := Aside0.mk (hbox); have n2_ := Aside0.mk ((by rw [hg]; exact (below_size (by repeat (first | (with_reducible first | exact HB.out | apply below_alloc | apply pw_below_drewN | apply below_drew1) | exact HB.out))) : w.heap.size ≤ gb101)); have n3_ := Aside0.mk ((by rw [hg]; exact (below_size (by repeat (first | (with_reducible first | exact HB.out | apply below_alloc | apply pw_below_drewN | apply below_drew1) | exact HB.out))) : w.heap.size ≤ gb101)); clear HB; have HB := n0_; have BK101 := n1_; have GW101 := n2_; have GE101 := n3_; clear n0_ n1_ n2_ n3_; clear hb hbox hg) | ((with_reducible refine gate_dst (N := 14) rfl ?_); (try (refine gate_guard (by rfl) ?_; dsimp only)); refine Kd.S_make (Kd.slice 3 (Kd.int .i64)) _ 27 rfl (N := 14) rfl 121 _ _ rfl ji3 rfl rfl Try.underlying121 (.slice none 0 0) 24 info27 rfl (by decide) (by omega) [] (ok := fun _ => True) (okp := fun _ => True) ⟨_, rfl, Kd.R_nil _ _ _ _ _⟩ (fun _ hk => hk) trivial (of_decide_eq_true (by first | (with_reducible assumption) | assumption)) (Nat.le_trans (Nat.mul_le_mul_right _ (of_decide_eq_true (by first | (with_reducible assumption) | assumption) : ji3.toNat ≤ 11728124029610)) (by omega)) (Below.refl _ _) (Nat.le_refl _) ?_; intro v103 w7 ho8 hb hg_ hnew_; clear hg_ hnew_; (first | rw [← Ny102.out] at ho8 | (simp only [Int.reduceToNat] at ho8; rw [← Ny102.out] at ho8)); have n0_ := Aside0.mk (Kd.S_lower ho8 (below_size (by repeat (first | (with_reducible first | exact HB.out | apply below_alloc | apply pw_below_drewN | apply below_drew1 | refine below_set ?_ GE101.out) | exact HB.out)))); have n1_ := Aside0.mk (blk_below (g := gb101) (o := .cells #[.int .i64 a0_0, .int .i64 a0_1, .int .i64 a0_2, .int .i64 a0_3, .int .i64 a0_4, .int .i64 a0_5, .int .i64 a0_6] 25 (0, 0)) (by (with_reducible repeat (first | refine blk_drewN ?_ _ | refine blk_drew ?_ | refine blk_alloc ?_ _)); exact BK101.out) hb); have n2_ := Aside0.mk (below_step (by repeat (first | (with_reducible first | exact HB.out | apply below_alloc | apply pw_below_drewN | apply below_drew1 | refine below_set ?_ GE101.out) | exact HB.out)) hb); clear BK101; clear HB; have HO104 := n0_; have BK101 := n1_; have HB := n2_; clear n0_ n1_ n2_; clear hb ho8)))
      go_loopg [6] k (fun kq v6 w' => ∃ (x5_1 : List (List Int)) (x6_1 : Int), v6 = .int .i64 x6_1 ∧ Aside0 (rf_Tables.l0 kq l1 x5_1 x6_1 a0_0 a0_1 a0_2 a0_3 a0_4 a0_5 a0_6 = some r) ∧ Aside0 (kq ≤ k) ∧ Aside0 (Kd.S (Kd.slice 3 (Kd.int .i64)) 27 w' w.heap.size (fun _ => True) v103 x5_1) ∧ Aside0 (w'.heap[gb101]? = some (.cells #[.int .i64 a0_0, .int .i64 a0_1, .int .i64 a0_2, .int .i64 a0_3, .int .i64 a0_4, .int .i64 a0_5, .int .i64 a0_6] 25 (0, 0))) ∧ Aside0 (Below w.heap.size w w'))
      case atStart => exact ⟨(y102), ((l1.length : Int)), (by first | rfl | (simp; done) | (simp [*]; done)), H', ⟨Nat.le_refl _⟩, ⟨by (with_reducible repeat (first | apply Kd.S_alloc | apply Kd.S_drewN | apply Kd.S_drew)); exact HO104.out⟩, ⟨by (with_reducible repeat (first | refine blk_drewN ?_ _ | refine blk_drew ?_ | refine blk_alloc ?_ _)); exact BK101.out⟩, ⟨by repeat (first | (with_reducible first | exact HB.out | apply below_alloc | apply pw_below_drewN | apply below_drew1 | refine below_set ?_ GE101.out) | exact HB.out)⟩⟩
      case round =>
        clear H'
        try clear c1
        try clear p2
        try clear c4
        try clear c4b0
        try clear c4b1
        try clear c5
        try clear c5b0
        try clear c5b1
        try clear p6
        try clear c7
        obtain ⟨x5_1, x6_1, rfl, HA, HK1, HO_5, BK101, HB⟩ := hrel
        cases gk with
        | zero => exact absurd HA.out (by simp [rf_Tables.l0])
        | succ k1 =>
          have H := HA.out
          clear HA
          simp only [rf_Tables.l0] at H
          by_cases c9 : x6_1 ≥ 0
          · rw [if_pos c9] at H
            have c9b0 : decide (0 ≤ x6_1) = true := decide_eq_true c9
            clear c9
            obtain ⟨ji10, hji10⟩ : ∃ j_ : Int, (wrap64 (a0_4 + 1)) = j_ := ⟨_, rfl⟩
            replace H : (if 0 ≤ (ji10) then (if (ji10 : Int).toNat ≤ 35184372088832 then (if 0 ≤ x6_1 then (if x6_1 < (x5_1.length : Int) then (rf_Tables.l1 k1 l1 (x5_1.set (x6_1 : Int).toNat (List.replicate (ji10 : Int).toNat 0)) x6_1 0 a0_0 a0_1 a0_2 a0_3 a0_4 a0_5 a0_6) else (none)) else (none)) else (none)) else (none)) = some r := by first | (rw [hji10] at H; exact H) | (simp only [hji10] at H ⊢; exact H)
            have hji10w : (IntKind.i64.wrap (a0_4 + 1)) = ji10 := (i64_w _).trans hji10
            by_cases c11 : 0 ≤ (ji10)
            · rw [if_pos c11] at H
              have c11b0 := eq_true c11
              have c11b1 : decide (0 ≤ (ji10)) = true := decide_eq_true c11
              clear c11
              by_cases c12 : (ji10 : Int).toNat ≤ 35184372088832
              · rw [if_pos c12] at H
                have c12b0 := eq_true c12
                have c12b1 : decide ((ji10 : Int).toNat ≤ 35184372088832) = true := decide_eq_true c12
                clear c12
                obtain ⟨y105, hy105⟩ : ∃ y_ : List Int, y_ = (List.replicate (ji10 : Int).toNat 0) := ⟨_, rfl⟩
                replace H : (if 0 ≤ x6_1 then (if x6_1 < (x5_1.length : Int) then (rf_Tables.l1 k1 l1 (x5_1.set (x6_1 : Int).toNat y105) x6_1 0 a0_0 a0_1 a0_2 a0_3 a0_4 a0_5 a0_6) else (none)) else (none)) = some r := by first | (rw [hy105]; with_reducible exact H) | (have H2_ := (Option.bind_some _ _).symm.trans H; rw [hy105]; with_reducible exact H2_) | (have H2_ := (Option.bind_some _ _).symm.trans H; with_reducible exact H2_) | with_reducible exact H | (rw [hy105]; exact H) | exact H
                have Ny105 := Aside0.mk hy105
                clear hy105
                by_cases c13 : 0 ≤ x6_1
                · rw [if_pos c13] at H
                  have c13b0 : decide (0 ≤ x6_1) = true := decide_eq_true c13
                  clear c13
                  by_cases c14 : x6_1 < (x5_1.length : Int)
                  · rw [if_pos c14] at H
                    have c14b0 : decide (x6_1 < (x5_1.length : Int)) = true := decide_eq_true c14
                    clear c14
                    obtain ⟨y108, hy108⟩ : ∃ y_ : List (List Int), y_ = (x5_1.set (x6_1 : Int).toNat y105) := ⟨_, rfl⟩
                    replace H : (rf_Tables.l1 k1 l1 y108 x6_1 0 a0_0 a0_1 a0_2 a0_3 a0_4 a0_5 a0_6) = some r := by first | (rw [hy108]; with_reducible exact H) | (have H2_ := (Option.bind_some _ _).symm.trans H; rw [hy108]; with_reducible exact H2_) | (have H2_ := (Option.bind_some _ _).symm.trans H; with_reducible exact H2_) | with_reducible exact H | (rw [hy108]; exact H) | exact H
                    have Ny108 := Aside0.mk hy108
                    clear hy108
                    have H' := Aside0.mk H
                    clear H
                    have hcz16_0 : wr.cell? ⟨gb101, 0, none⟩ = some (.int .i64 a0_0) := (blk_cell BK101.out 0).trans rfl
                    have hcz16_1 : wr.cell? ⟨gb101, 1, none⟩ = some (.int .i64 a0_1) := (blk_cell BK101.out 1).trans rfl
                    have hcz16_2 : wr.cell? ⟨gb101, 2, none⟩ = some (.int .i64 a0_2) := (blk_cell BK101.out 2).trans rfl
                    have hcz16_3 : wr.cell? ⟨gb101, 3, none⟩ = some (.int .i64 a0_3) := (blk_cell BK101.out 3).trans rfl
                    have hcz16_4 : wr.cell? ⟨gb101, 4, none⟩ = some (.int .i64 a0_4) := (blk_cell BK101.out 4).trans rfl
                    have hcz16_5 : wr.cell? ⟨gb101, 5, none⟩ = some (.int .i64 a0_5) := (blk_cell BK101.out 5).trans rfl
                    have hcz16_6 : wr.cell? ⟨gb101, 6, none⟩ = some (.int .i64 a0_6) := (blk_cell BK101.out 6).trans rfl
                    have hfz16_0 := blk_frozen BK101.out 0
                    have hfz16_1 := blk_frozen BK101.out 1
                    have hfz16_2 := blk_frozen BK101.out 2
                    have hfz16_3 := blk_frozen BK101.out 3
                    have hfz16_4 := blk_frozen BK101.out 4
                    have hfz16_5 := blk_frozen BK101.out 5
                    have hfz16_6 := blk_frozen BK101.out 6
                    go_wp2_with (first | ((with_reducible refine gate_dst (N := 26) rfl ?_); (try (refine gate_guard (by rfl) ?_; dsimp only)); refine Kd.R_make (Kd.int .i64) _ 3 rfl (N := 26) rfl 27 _ _ rfl ji10 rfl rfl Try.underlying27 (.int .i64 0) 8 info3 rfl (by decide) (by omega) 0 (ok := fun _ => True) (okp := fun _ => True) rfl (fun _ hk => hk) trivial (of_decide_eq_true (by first | (with_reducible assumption) | assumption)) (Nat.le_trans (Nat.mul_le_mul_right _ (of_decide_eq_true (by first | (with_reducible assumption) | assumption) : ji10.toNat ≤ 35184372088832)) (by omega)) (Below.refl _ _) (Nat.le_refl _) ?_; intro v106 w17 ho18 hb hg_ hnew_; clear hg_ hnew_; (first | rw [← Ny105.out] at ho18 | (simp only [Int.reduceToNat] at ho18; rw [← Ny105.out] at ho18)); have n0_ := Aside0.mk (Kd.S_elder' (by (with_reducible repeat (first | apply Kd.S_alloc | apply Kd.S_drewN | apply Kd.S_drew)); exact HO_5.out) (Kd.R_base ho18) hb); have n1_ := Aside0.mk (Kd.R_lower ho18 (below_size (by repeat (first | (with_reducible first | exact HB.out | apply below_alloc | apply pw_below_drewN | apply below_drew1 | refine below_set ?_ GE101.out) | exact HB.out)))); have n2_ := Aside0.mk (blk_below (g := gb101) (o := .cells #[.int .i64 a0_0, .int .i64 a0_1, .int .i64 a0_2, .int .i64 a0_3, .int .i64 a0_4, .int .i64 a0_5, .int .i64 a0_6] 25 (0, 0)) (by (with_reducible repeat (first | refine blk_drewN ?_ _ | refine blk_drew ?_ | refine blk_alloc ?_ _)); exact BK101.out) hb); have n3_ := Aside0.mk (below_step (by repeat (first | (with_reducible first | exact HB.out | apply below_alloc | apply pw_below_drewN | apply below_drew1 | refine below_set ?_ GE101.out) | exact HB.out)) hb); clear HO_5; clear BK101; clear HB; have HO_5 := n0_; have HO107 := n1_; have BK101 := n2_; have HB := n3_; clear n0_ n1_ n2_ n3_; clear hb ho18; have p15 : 0 ≤ (x6_1 : Int) := of_decide_eq_true (by first | (with_reducible assumption) | assumption); have q15 : (x6_1 : Int) < ((x5_1.length : Int) : Int) := of_decide_eq_true (by first | (with_reducible assumption) | assumption); obtain ⟨go15, co15, eo15, gb15, gl15, cl15, HG15⟩ := Kd.S_form HO_5.out (by omega); (first | cases eo15 | (injection eo15 with ea_ en_ ec_; (first | subst ea_ | (injection ea_ with ea_; subst ea_)); subst ec_; clear en_)); have GB15 := Aside0.mk gb15; have GG15 := Aside0.mk HG15; clear gb15 gl15 HG15; obtain ⟨_, ce15, hcl15, hM15, hcc15, hfr15, _, _⟩ := Kd.S_elem HO_5.out [] (x6_1 : Int) p15 q15; obtain ⟨ve15_0, rfl, ge15_0⟩ := hM15; have hx15_0 := hcc15 0 _ rfl; have hf15_0 := hfr15 0; (try simp only [show ((Kd.slice 3 (Kd.int .i64))).sz = 1 from rfl, Nat.mul_one, Nat.add_zero] at hx15_0); (try simp only [show ((Kd.slice 3 (Kd.int .i64))).sz = 1 from rfl, Nat.mul_one, Nat.add_zero] at hf15_0); clear hcl15 hcc15 hfr15; (try clear hM15); replace p15 := eq_true p15; replace q15 := eq_true q15; have n_ := Aside0.mk (Kd.S_mono (ok' := (fun k_ => some k_ ≠ (v106 : Value).ownBlock)) HO_5.out (fun k_ hk => hk.2)); clear HO_5; have HO_5 := n_; clear n_; have HX19 := Aside0.mk (show Kd.S (Kd.slice 3 (Kd.int .i64)) 27 w17 w.heap.size (fun k_ => ((fun _ => True)) k_ ∧ ¬ ((fun k_ => some k_ = (v106 : Value).ownBlock)) k_) (.slice (some ⟨go15, 0, none⟩) x5_1.length co15) x5_1 from (by (with_reducible repeat (first | apply Kd.S_alloc | apply Kd.S_drewN | apply Kd.S_drew)); exact Kd.S_mono HO_5.out (fun k_ hk => ⟨trivial, fun e_ => hk e_⟩))); obtain ⟨oki19, ce19, hcl19, hM19, hcc19, hfr19, hoki19, hH19⟩ := Kd.S_elem HX19.out [] (x6_1 : Int) (of_decide_eq_true (by first | (with_reducible assumption) | assumption)) (by have h_ : (x6_1 : Int) < ((x5_1.length : Int) : Int) := of_decide_eq_true (by first | (with_reducible assumption) | assumption); first | exact h_ | (have e_ := (Kd.S_reads' HO_5.out).1; omega) | simpa using h_); obtain ⟨ve19_0, rfl, ge19_0⟩ := hM19; have HP19 := Kd.S_seg hH19 (of_decide_eq_true (by first | (with_reducible assumption) | assumption)) (by have h_ : (x6_1 : Int) < ((x5_1.length : Int) : Int) := of_decide_eq_true (by first | (with_reducible assumption) | assumption); first | exact h_ | (have e_ := (Kd.S_reads' HO_5.out).1; omega) | simpa using h_) (seg := [v106]) (j := 0) (show 1 ≤ 1 from by decide) (x' := y105) (Kd.M_row (Kd.R_mono (Kd.R_tight rfl (Kd.R_mono (ok' := fun k_ => ((fun _ => True)) k_ ∧ k_ ≠ go15) (Kd.R_apart' (HO107.out) (Kd.S_typed HO_5.out) (by decide)) (fun k_ hk => ⟨trivial, fun e_ => (hk.2) (by rw [e_]; rfl)⟩))) (fun _ h_ => Or.inr (h_)))) (fun _ hk => hk) (fun k_ hk_ => ((Kd.R_mono (ok' := fun k_ => ((fun _ => True)) k_ ∧ k_ ≠ go15) (Kd.R_apart' (HO107.out) (Kd.S_typed HO_5.out) (by decide)) (fun k_ hk => ⟨trivial, fun e_ => (hk.2) (by rw [e_]; rfl)⟩))).1 k_ hk_.symm); have hx19_0 := hcc19 0 _ rfl; (try simp only [show ((Kd.slice 3 (Kd.int .i64))).sz = 1 from rfl, Nat.mul_one, Nat.add_zero] at hx19_0); have hf19_0 := hfr19 0; (try simp only [show ((Kd.slice 3 (Kd.int .i64))).sz = 1 from rfl, Nat.mul_one, Nat.add_zero] at hf19_0); clear hcl19 hcc19 hfr19 hoki19 hH19; (try clear hM19); (try simp only [show ((Kd.slice 3 (Kd.int .i64))).sz = 1 from rfl, Nat.mul_one, Nat.add_zero] at HP19)) | ((with_reducible refine gate_store (t := 27) (p := 27) rfl ?_); (try (rw [drewN_self w17]; generalize hq_ : World.drewN w17 _ = w17; have n0_ := Aside0.mk (Kd.S_at hq_ HO_5.out); have n1_ := Aside0.mk (blk_at hq_ BK101.out); have n2_ := Aside0.mk (below_at hq_ HB.out); clear hq_ HO_5 BK101 HB; have HO_5 := n0_; have BK101 := n1_; have HB := n2_; clear n0_ n1_ n2_; (try (have n_ := Aside0.mk (Kd.S_mono (ok' := (fun k_ => some k_ ≠ (v106 : Value).ownBlock)) HO_5.out (fun k_ hk => hk.2)); clear HO_5; have HO_5 := n_; clear n_)); (try (have HX19 := Aside0.mk (show Kd.S (Kd.slice 3 (Kd.int .i64)) 27 w17 w.heap.size (fun k_ => ((fun _ => True)) k_ ∧ ¬ ((fun k_ => some k_ = (v106 : Value).ownBlock)) k_) (.slice (some ⟨go15, 0, none⟩) x5_1.length co15) x5_1 from (by (with_reducible repeat (first | apply Kd.S_alloc | apply Kd.S_drewN | apply Kd.S_drew)); exact Kd.S_mono HO_5.out (fun k_ hk => ⟨trivial, fun e_ => hk e_⟩))))); (try (obtain ⟨oki19, ce19, hcl19, hM19, hcc19, hfr19, hoki19, hH19⟩ := Kd.S_elem HX19.out [] (x6_1 : Int) (of_decide_eq_true (by first | (with_reducible assumption) | assumption)) (by have h_ : (x6_1 : Int) < ((x5_1.length : Int) : Int) := of_decide_eq_true (by first | (with_reducible assumption) | assumption); first | exact h_ | (have e_ := (Kd.S_reads' HO_5.out).1; omega) | simpa using h_))); (try (obtain ⟨ve19_0, rfl, ge19_0⟩ := hM19)); (try (have HP19 := Kd.S_seg hH19 (of_decide_eq_true (by first | (with_reducible assumption) | assumption)) (by have h_ : (x6_1 : Int) < ((x5_1.length : Int) : Int) := of_decide_eq_true (by first | (with_reducible assumption) | assumption); first | exact h_ | (have e_ := (Kd.S_reads' HO_5.out).1; omega) | simpa using h_) (seg := [v106]) (j := 0) (show 1 ≤ 1 from by decide) (x' := y105) (Kd.M_row (Kd.R_mono (Kd.R_tight rfl (Kd.R_mono (ok' := fun k_ => ((fun _ => True)) k_ ∧ k_ ≠ go15) (Kd.R_apart' (HO107.out) (Kd.S_typed HO_5.out) (by decide)) (fun k_ hk => ⟨trivial, fun e_ => (hk.2) (by rw [e_]; rfl)⟩))) (fun _ h_ => Or.inr (h_)))) (fun _ hk => hk) (fun k_ hk_ => ((Kd.R_mono (ok' := fun k_ => ((fun _ => True)) k_ ∧ k_ ≠ go15) (Kd.R_apart' (HO107.out) (Kd.S_typed HO_5.out) (by decide)) (fun k_ hk => ⟨trivial, fun e_ => (hk.2) (by rw [e_]; rfl)⟩))).1 k_ hk_.symm))); (try (have hx19_0 := hcc19 0 _ rfl)); (try (try simp only [show ((Kd.slice 3 (Kd.int .i64))).sz = 1 from rfl, Nat.mul_one, Nat.add_zero] at hx19_0)); (try (have hf19_0 := hfr19 0)); (try (try simp only [show ((Kd.slice 3 (Kd.int .i64))).sz = 1 from rfl, Nat.mul_one, Nat.add_zero] at hf19_0)); (try (clear hcl19 hcc19 hfr19 hoki19 hH19; (try clear hM19))); (try (try simp only [show ((Kd.slice 3 (Kd.int .i64))).sz = 1 from rfl, Nat.mul_one, Nat.add_zero] at HP19)))); refine store_event (t := 27) (p := 27) (v := ?vo_w20) (w1 := (w17.setCell ⟨go15, (x6_1 : Int).toNat, none⟩ (v106))) ?hg ?ho ?hn ?hr ?_; (case ho => rfl); (case hg => rfl); (case hn => rfl); (case hr => first | (go_simp; done) | (go_simp; rfl) | (obtain ⟨A_, c_, hv_⟩ := Kd.R_slice (Aside0.out (by assumption : Aside0 (Kd.R _ _ _ _ _ v106 _))); rw [hv_]; go_simp; done)); intro w20 hw; have hg : w17.grownBy w20 (some go15) := (by rw [hw]; exact HP19.2); have hp_ : Kd.S (Kd.slice 3 (Kd.int .i64)) 27 w20 w.heap.size (fun _ => True) (.slice (some ⟨go15, 0, none⟩) x5_1.length co15) y108 := (by rw [hw, Ny108.out]; exact HP19.1); clear HP19; have n0_ := Aside0.mk (hp_); have n1_ := Aside0.mk (blk_grown (g := gb101) (o := .cells #[.int .i64 a0_0, .int .i64 a0_1, .int .i64 a0_2, .int .i64 a0_3, .int .i64 a0_4, .int .i64 a0_5, .int .i64 a0_6] 25 (0, 0)) (by (with_reducible repeat (first | refine blk_drewN ?_ _ | refine blk_drew ?_ | refine blk_alloc ?_ _)); exact BK101.out) hg (Kd.S_ne HO_5.out BK101.out (by decide))); have n2_ := Aside0.mk ((by rw [hw]; exact below_set (HB.out) GB15.out : Below w.heap.size w w20)); clear HO_5; clear BK101; clear HB; clear HO107; have HO_5 := n0_; have BK101 := n1_; have HB := n2_; clear n0_ n1_ n2_; clear hg hw hp_))
                    repeat (go_quiet (first | ((with_reducible refine gate_dst (N := 26) rfl ?_); (try (refine gate_guard (by rfl) ?_; dsimp only)); refine Kd.R_make (Kd.int .i64) _ 3 rfl (N := 26) rfl 27 _ _ rfl ji10 rfl rfl Try.underlying27 (.int .i64 0) 8 info3 rfl (by decide) (by omega) 0 (ok := fun _ => True) (okp := fun _ => True) rfl (fun _ hk => hk) trivial (of_decide_eq_true (by first | (with_reducible assumption) | assumption)) (Nat.le_trans (Nat.mul_le_mul_right _ (of_decide_eq_true (by first | (with_reducible assumption) | assumption) : ji10.toNat ≤ 35184372088832)) (by omega)) (Below.refl _ _) (Nat.le_refl _) ?_; intro v106 w17 ho18 hb hg_ hnew_; clear hg_ hnew_; (first | rw [← Ny105.out] at ho18 | (simp only [Int.reduceToNat] at ho18; rw [← Ny105.out] at ho18)); have n0_ := Aside0.mk (Kd.S_elder' (by (with_reducible repeat (first | apply Kd.S_alloc | apply Kd.S_drewN | apply Kd.S_drew)); exact HO_5.out) (Kd.R_base ho18) hb); have n1_ := Aside0.mk (Kd.R_lower ho18 (below_size (by repeat (first | (with_reducible first | exact HB.out | apply below_alloc | apply pw_below_drewN | apply below_drew1 | refine below_set ?_ GE101.out) | exact HB.out)))); have n2_ := Aside0.mk (blk_below (g := gb101) (o := .cells #[.int .i64 a0_0, .int .i64 a0_1, .int .i64 a0_2, .int .i64 a0_3, .int .i64 a0_4, .int .i64 a0_5, .int .i64 a0_6] 25 (0, 0)) (by (with_reducible repeat (first | refine blk_drewN ?_ _ | refine blk_drew ?_ | refine blk_alloc ?_ _)); exact BK101.out) hb); have n3_ := Aside0.mk (below_step (by repeat (first | (with_reducible first | exact HB.out | apply below_alloc | apply pw_below_drewN | apply below_drew1 | refine below_set ?_ GE101.out) | exact HB.out)) hb); clear HO_5; clear BK101; clear HB; have HO_5 := n0_; have HO107 := n1_; have BK101 := n2_; have HB := n3_; clear n0_ n1_ n2_ n3_; clear hb ho18; have p15 : 0 ≤ (x6_1 : Int) := of_decide_eq_true (by first | (with_reducible assumption) | assumption); have q15 : (x6_1 : Int) < ((x5_1.length : Int) : Int) := of_decide_eq_true (by first | (with_reducible assumption) | assumption); obtain ⟨go15, co15, eo15, gb15, gl15, cl15, HG15⟩ := Kd.S_form HO_5.out (by omega); (first | cases eo15 | (injection eo15 with ea_ en_ ec_; (first | subst ea_ | (injection ea_ with ea_; subst ea_)); subst ec_; clear en_)); have GB15 := Aside0.mk gb15; have GG15 := Aside0.mk HG15; clear gb15 gl15 HG15; obtain ⟨_, ce15, hcl15, hM15, hcc15, hfr15, _, _⟩ := Kd.S_elem HO_5.out [] (x6_1 : Int) p15 q15; obtain ⟨ve15_0, rfl, ge15_0⟩ := hM15; have hx15_0 := hcc15 0 _ rfl; have hf15_0 := hfr15 0; (try simp only [show ((Kd.slice 3 (Kd.int .i64))).sz = 1 from rfl, Nat.mul_one, Nat.add_zero] at hx15_0); (try simp only [show ((Kd.slice 3 (Kd.int .i64))).sz = 1 from rfl, Nat.mul_one, Nat.add_zero] at hf15_0); clear hcl15 hcc15 hfr15; (try clear hM15); replace p15 := eq_true p15; replace q15 := eq_true q15; have n_ := Aside0.mk (Kd.S_mono (ok' := (fun k_ => some k_ ≠ (v106 : Value).ownBlock)) HO_5.out (fun k_ hk => hk.2)); clear HO_5; have HO_5 := n_; clear n_; have HX19 := Aside0.mk (show Kd.S (Kd.slice 3 (Kd.int .i64)) 27 w17 w.heap.size (fun k_ => ((fun _ => True)) k_ ∧ ¬ ((fun k_ => some k_ = (v106 : Value).ownBlock)) k_) (.slice (some ⟨go15, 0, none⟩) x5_1.length co15) x5_1 from (by (with_reducible repeat (first | apply Kd.S_alloc | apply Kd.S_drewN | apply Kd.S_drew)); exact Kd.S_mono HO_5.out (fun k_ hk => ⟨trivial, fun e_ => hk e_⟩))); obtain ⟨oki19, ce19, hcl19, hM19, hcc19, hfr19, hoki19, hH19⟩ := Kd.S_elem HX19.out [] (x6_1 : Int) (of_decide_eq_true (by first | (with_reducible assumption) | assumption)) (by have h_ : (x6_1 : Int) < ((x5_1.length : Int) : Int) := of_decide_eq_true (by first | (with_reducible assumption) | assumption); first | exact h_ | (have e_ := (Kd.S_reads' HO_5.out).1; omega) | simpa using h_); obtain ⟨ve19_0, rfl, ge19_0⟩ := hM19; have HP19 := Kd.S_seg hH19 (of_decide_eq_true (by first | (with_reducible assumption) | assumption)) (by have h_ : (x6_1 : Int) < ((x5_1.length : Int) : Int) := of_decide_eq_true (by first | (with_reducible assumption) | assumption); first | exact h_ | (have e_ := (Kd.S_reads' HO_5.out).1; omega) | simpa using h_) (seg := [v106]) (j := 0) (show 1 ≤ 1 from by decide) (x' := y105) (Kd.M_row (Kd.R_mono (Kd.R_tight rfl (Kd.R_mono (ok' := fun k_ => ((fun _ => True)) k_ ∧ k_ ≠ go15) (Kd.R_apart' (HO107.out) (Kd.S_typed HO_5.out) (by decide)) (fun k_ hk => ⟨trivial, fun e_ => (hk.2) (by rw [e_]; rfl)⟩))) (fun _ h_ => Or.inr (h_)))) (fun _ hk => hk) (fun k_ hk_ => ((Kd.R_mono (ok' := fun k_ => ((fun _ => True)) k_ ∧ k_ ≠ go15) (Kd.R_apart' (HO107.out) (Kd.S_typed HO_5.out) (by decide)) (fun k_ hk => ⟨trivial, fun e_ => (hk.2) (by rw [e_]; rfl)⟩))).1 k_ hk_.symm); have hx19_0 := hcc19 0 _ rfl; (try simp only [show ((Kd.slice 3 (Kd.int .i64))).sz = 1 from rfl, Nat.mul_one, Nat.add_zero] at hx19_0); have hf19_0 := hfr19 0; (try simp only [show ((Kd.slice 3 (Kd.int .i64))).sz = 1 from rfl, Nat.mul_one, Nat.add_zero] at hf19_0); clear hcl19 hcc19 hfr19 hoki19 hH19; (try clear hM19); (try simp only [show ((Kd.slice 3 (Kd.int .i64))).sz = 1 from rfl, Nat.mul_one, Nat.add_zero] at HP19)) | ((with_reducible refine gate_store (t := 27) (p := 27) rfl ?_); (try (rw [drewN_self w17]; generalize hq_ : World.drewN w17 _ = w17; have n0_ := Aside0.mk (Kd.S_at hq_ HO_5.out); have n1_ := Aside0.mk (blk_at hq_ BK101.out); have n2_ := Aside0.mk (below_at hq_ HB.out); clear hq_ HO_5 BK101 HB; have HO_5 := n0_; have BK101 := n1_; have HB := n2_; clear n0_ n1_ n2_; (try (have n_ := Aside0.mk (Kd.S_mono (ok' := (fun k_ => some k_ ≠ (v106 : Value).ownBlock)) HO_5.out (fun k_ hk => hk.2)); clear HO_5; have HO_5 := n_; clear n_)); (try (have HX19 := Aside0.mk (show Kd.S (Kd.slice 3 (Kd.int .i64)) 27 w17 w.heap.size (fun k_ => ((fun _ => True)) k_ ∧ ¬ ((fun k_ => some k_ = (v106 : Value).ownBlock)) k_) (.slice (some ⟨go15, 0, none⟩) x5_1.length co15) x5_1 from (by (with_reducible repeat (first | apply Kd.S_alloc | apply Kd.S_drewN | apply Kd.S_drew)); exact Kd.S_mono HO_5.out (fun k_ hk => ⟨trivial, fun e_ => hk e_⟩))))); (try (obtain ⟨oki19, ce19, hcl19, hM19, hcc19, hfr19, hoki19, hH19⟩ := Kd.S_elem HX19.out [] (x6_1 : Int) (of_decide_eq_true (by first | (with_reducible assumption) | assumption)) (by have h_ : (x6_1 : Int) < ((x5_1.length : Int) : Int) := of_decide_eq_true (by first | (with_reducible assumption) | assumption); first | exact h_ | (have e_ := (Kd.S_reads' HO_5.out).1; omega) | simpa using h_))); (try (obtain ⟨ve19_0, rfl, ge19_0⟩ := hM19)); (try (have HP19 := Kd.S_seg hH19 (of_decide_eq_true (by first | (with_reducible assumption) | assumption)) (by have h_ : (x6_1 : Int) < ((x5_1.length : Int) : Int) := of_decide_eq_true (by first | (with_reducible assumption) | assumption); first | exact h_ | (have e_ := (Kd.S_reads' HO_5.out).1; omega) | simpa using h_) (seg := [v106]) (j := 0) (show 1 ≤ 1 from by decide) (x' := y105) (Kd.M_row (Kd.R_mono (Kd.R_tight rfl (Kd.R_mono (ok' := fun k_ => ((fun _ => True)) k_ ∧ k_ ≠ go15) (Kd.R_apart' (HO107.out) (Kd.S_typed HO_5.out) (by decide)) (fun k_ hk => ⟨trivial, fun e_ => (hk.2) (by rw [e_]; rfl)⟩))) (fun _ h_ => Or.inr (h_)))) (fun _ hk => hk) (fun k_ hk_ => ((Kd.R_mono (ok' := fun k_ => ((fun _ => True)) k_ ∧ k_ ≠ go15) (Kd.R_apart' (HO107.out) (Kd.S_typed HO_5.out) (by decide)) (fun k_ hk => ⟨trivial, fun e_ => (hk.2) (by rw [e_]; rfl)⟩))).1 k_ hk_.symm))); (try (have hx19_0 := hcc19 0 _ rfl)); (try (try simp only [show ((Kd.slice 3 (Kd.int .i64))).sz = 1 from rfl, Nat.mul_one, Nat.add_zero] at hx19_0)); (try (have hf19_0 := hfr19 0)); (try (try simp only [show ((Kd.slice 3 (Kd.int .i64))).sz = 1 from rfl, Nat.mul_one, Nat.add_zero] at hf19_0)); (try (clear hcl19 hcc19 hfr19 hoki19 hH19; (try clear hM19))); (try (try simp only [show ((Kd.slice 3 (Kd.int .i64))).sz = 1 from rfl, Nat.mul_one, Nat.add_zero] at HP19)))); refine store_event (t := 27) (p := 27) (v := ?vo_w20) (w1 := (w17.setCell ⟨go15, (x6_1 : Int).toNat, none⟩ (v106))) ?hg ?ho ?hn ?hr ?_; (case ho => rfl); (case hg => rfl); (case hn => rfl); (case hr => first | (go_simp; done) | (go_simp; rfl) | (obtain ⟨A_, c_, hv_⟩ := Kd.R_slice (Aside0.out (by assumption : Aside0 (Kd.R _ _ _ _ _ v106 _))); rw [hv_]; go_simp; done)); intro w20 hw; have hg : w17.grownBy w20 (some go15) := (by rw [hw]; exact HP19.2); have hp_ : Kd.S (Kd.slice 3 (Kd.int .i64)) 27 w20 w.heap.size (fun _ => True) (.slice (some ⟨go15, 0, none⟩) x5_1.length co15) y108 := (by rw [hw, Ny108.out]; exact HP19.1); clear HP19; have n0_ := Aside0.mk (hp_); have n1_ := Aside0.mk (blk_grown (g := gb101) (o := .cells #[.int .i64 a0_0, .int .i64 a0_1, .int .i64 a0_2, .int .i64 a0_3, .int .i64 a0_4, .int .i64 a0_5, .int .i64 a0_6] 25 (0, 0)) (by (with_reducible repeat (first | refine blk_drewN ?_ _ | refine blk_drew ?_ | refine blk_alloc ?_ _)); exact BK101.out) hg (Kd.S_ne HO_5.out BK101.out (by decide))); have n2_ := Aside0.mk ((by rw [hw]; exact below_set (HB.out) GB15.out : Below w.heap.size w w20)); clear HO_5; clear BK101; clear HB; clear HO107; have HO_5 := n0_; have BK101 := n1_; have HB := n2_; clear n0_ n1_ n2_; clear hg hw hp_)); try go_wp2_with (first | ((with_reducible refine gate_dst (N := 26) rfl ?_); (try (refine gate_guard (by rfl) ?_; dsimp only)); refine Kd.R_make (Kd.int .i64) _ 3 rfl (N := 26) rfl 27 _ _ rfl ji10 rfl rfl Try.underlying27 (.int .i64 0) 8 info3 rfl (by decide) (by omega) 0 (ok := fun _ => True) (okp := fun _ => True) rfl (fun _ hk => hk) trivial (of_decide_eq_true (by first | (with_reducible assumption) | assumption)) (Nat.le_trans (Nat.mul_le_mul_right _ (of_decide_eq_true (by first | (with_reducible assumption) | assumption) : ji10.toNat ≤ 35184372088832)) (by omega)) (Below.refl _ _) (Nat.le_refl _) ?_; intro v106 w17 ho18 hb hg_ hnew_; clear hg_ hnew_; (first | rw [← Ny105.out] at ho18 | (simp only [Int.reduceToNat] at ho18; rw [← Ny105.out] at ho18)); have n0_ := Aside0.mk (Kd.S_elder' (by (with_reducible repeat (first | apply Kd.S_alloc | apply Kd.S_drewN | apply Kd.S_drew)); exact HO_5.out) (Kd.R_base ho18) hb); have n1_ := Aside0.mk (Kd.R_lower ho18 (below_size (by repeat (first | (with_reducible first | exact HB.out | apply below_alloc | apply pw_below_drewN | apply below_drew1 | refine below_set ?_ GE101.out) | exact HB.out)))); have n2_ := Aside0.mk (blk_below (g := gb101) (o := .cells #[.int .i64 a0_0, .int .i64 a0_1, .int .i64 a0_2, .int .i64 a0_3, .int .i64 a0_4, .int .i64 a0_5, .int .i64 a0_6] 25 (0, 0)) (by (with_reducible repeat (first | refine blk_drewN ?_ _ | refine blk_drew ?_ | refine blk_alloc ?_ _)); exact BK101.out) hb); have n3_ := Aside0.mk (below_step (by repeat (first | (with_reducible first | exact HB.out | apply below_alloc | apply pw_below_drewN | apply below_drew1 | refine below_set ?_ GE101.out) | exact HB.out)) hb); clear HO_5; clear BK101; clear HB; have HO_5 := n0_; have HO107 := n1_; have BK101 := n2_; have HB := n3_; clear n0_ n1_ n2_ n3_; clear hb ho18; have p15 : 0 ≤ (x6_1 : Int) := of_decide_eq_true (by first | (with_reducible assumption) | assumption); have q15 : (x6_1 : Int) < ((x5_1.length : Int) : Int) := of_decide_eq_true (by first | (with_reducible assumption) | assumption); obtain ⟨go15, co15, eo15, gb15, gl15, cl15, HG15⟩ := Kd.S_form HO_5.out (by omega); (first | cases eo15 | (injection eo15 with ea_ en_ ec_; (first | subst ea_ | (injection ea_ with ea_; subst ea_)); subst ec_; clear en_)); have GB15 := Aside0.mk gb15; have GG15 := Aside0.mk HG15; clear gb15 gl15 HG15; obtain ⟨_, ce15, hcl15, hM15, hcc15, hfr15, _, _⟩ := Kd.S_elem HO_5.out [] (x6_1 : Int) p15 q15; obtain ⟨ve15_0, rfl, ge15_0⟩ := hM15; have hx15_0 := hcc15 0 _ rfl; have hf15_0 := hfr15 0; (try simp only [show ((Kd.slice 3 (Kd.int .i64))).sz = 1 from rfl, Nat.mul_one, Nat.add_zero] at hx15_0); (try simp only [show ((Kd.slice 3 (Kd.int .i64))).sz = 1 from rfl, Nat.mul_one, Nat.add_zero] at hf15_0); clear hcl15 hcc15 hfr15; (try clear hM15); replace p15 := eq_true p15; replace q15 := eq_true q15; have n_ := Aside0.mk (Kd.S_mono (ok' := (fun k_ => some k_ ≠ (v106 : Value).ownBlock)) HO_5.out (fun k_ hk => hk.2)); clear HO_5; have HO_5 := n_; clear n_; have HX19 := Aside0.mk (show Kd.S (Kd.slice 3 (Kd.int .i64)) 27 w17 w.heap.size (fun k_ => ((fun _ => True)) k_ ∧ ¬ ((fun k_ => some k_ = (v106 : Value).ownBlock)) k_) (.slice (some ⟨go15, 0, none⟩) x5_1.length co15) x5_1 from (by (with_reducible repeat (first | apply Kd.S_alloc | apply Kd.S_drewN | apply Kd.S_drew)); exact Kd.S_mono HO_5.out (fun k_ hk => ⟨trivial, fun e_ => hk e_⟩))); obtain ⟨oki19, ce19, hcl19, hM19, hcc19, hfr19, hoki19, hH19⟩ := Kd.S_elem HX19.out [] (x6_1 : Int) (of_decide_eq_true (by first | (with_reducible assumption) | assumption)) (by have h_ : (x6_1 : Int) < ((x5_1.length : Int) : Int) := of_decide_eq_true (by first | (with_reducible assumption) | assumption); first | exact h_ | (have e_ := (Kd.S_reads' HO_5.out).1; omega) | simpa using h_); obtain ⟨ve19_0, rfl, ge19_0⟩ := hM19; have HP19 := Kd.S_seg hH19 (of_decide_eq_true (by first | (with_reducible assumption) | assumption)) (by have h_ : (x6_1 : Int) < ((x5_1.length : Int) : Int) := of_decide_eq_true (by first | (with_reducible assumption) | assumption); first | exact h_ | (have e_ := (Kd.S_reads' HO_5.out).1; omega) | simpa using h_) (seg := [v106]) (j := 0) (show 1 ≤ 1 from by decide) (x' := y105) (Kd.M_row (Kd.R_mono (Kd.R_tight rfl (Kd.R_mono (ok' := fun k_ => ((fun _ => True)) k_ ∧ k_ ≠ go15) (Kd.R_apart' (HO107.out) (Kd.S_typed HO_5.out) (by decide)) (fun k_ hk => ⟨trivial, fun e_ => (hk.2) (by rw [e_]; rfl)⟩))) (fun _ h_ => Or.inr (h_)))) (fun _ hk => hk) (fun k_ hk_ => ((Kd.R_mono (ok' := fun k_ => ((fun _ => True)) k_ ∧ k_ ≠ go15) (Kd.R_apart' (HO107.out) (Kd.S_typed HO_5.out) (by decide)) (fun k_ hk => ⟨trivial, fun e_ => (hk.2) (by rw [e_]; rfl)⟩))).1 k_ hk_.symm); have hx19_0 := hcc19 0 _ rfl; (try simp only [show ((Kd.slice 3 (Kd.int .i64))).sz = 1 from rfl, Nat.mul_one, Nat.add_zero] at hx19_0); have hf19_0 := hfr19 0; (try simp only [show ((Kd.slice 3 (Kd.int .i64))).sz = 1 from rfl, Nat.mul_one, Nat.add_zero] at hf19_0); clear hcl19 hcc19 hfr19 hoki19 hH19; (try clear hM19); (try simp only [show ((Kd.slice 3 (Kd.int .i64))).sz = 1 from rfl, Nat.mul_one, Nat.add_zero] at HP19)) | ((with_reducible refine gate_store (t := 27) (p := 27) rfl ?_); (try (rw [drewN_self w17]; generalize hq_ : World.drewN w17 _ = w17; have n0_ := Aside0.mk (Kd.S_at hq_ HO_5.out); have n1_ := Aside0.mk (blk_at hq_ BK101.out); have n2_ := Aside0.mk (below_at hq_ HB.out); clear hq_ HO_5 BK101 HB; have HO_5 := n0_; have BK101 := n1_; have HB := n2_; clear n0_ n1_ n2_; (try (have n_ := Aside0.mk (Kd.S_mono (ok' := (fun k_ => some k_ ≠ (v106 : Value).ownBlock)) HO_5.out (fun k_ hk => hk.2)); clear HO_5; have HO_5 := n_; clear n_)); (try (have HX19 := Aside0.mk (show Kd.S (Kd.slice 3 (Kd.int .i64)) 27 w17 w.heap.size (fun k_ => ((fun _ => True)) k_ ∧ ¬ ((fun k_ => some k_ = (v106 : Value).ownBlock)) k_) (.slice (some ⟨go15, 0, none⟩) x5_1.length co15) x5_1 from (by (with_reducible repeat (first | apply Kd.S_alloc | apply Kd.S_drewN | apply Kd.S_drew)); exact Kd.S_mono HO_5.out (fun k_ hk => ⟨trivial, fun e_ => hk e_⟩))))); (try (obtain ⟨oki19, ce19, hcl19, hM19, hcc19, hfr19, hoki19, hH19⟩ := Kd.S_elem HX19.out [] (x6_1 : Int) (of_decide_eq_true (by first | (with_reducible assumption) | assumption)) (by have h_ : (x6_1 : Int) < ((x5_1.length : Int) : Int) := of_decide_eq_true (by first | (with_reducible assumption) | assumption); first | exact h_ | (have e_ := (Kd.S_reads' HO_5.out).1; omega) | simpa using h_))); (try (obtain ⟨ve19_0, rfl, ge19_0⟩ := hM19)); (try (have HP19 := Kd.S_seg hH19 (of_decide_eq_true (by first | (with_reducible assumption) | assumption)) (by have h_ : (x6_1 : Int) < ((x5_1.length : Int) : Int) := of_decide_eq_true (by first | (with_reducible assumption) | assumption); first | exact h_ | (have e_ := (Kd.S_reads' HO_5.out).1; omega) | simpa using h_) (seg := [v106]) (j := 0) (show 1 ≤ 1 from by decide) (x' := y105) (Kd.M_row (Kd.R_mono (Kd.R_tight rfl (Kd.R_mono (ok' := fun k_ => ((fun _ => True)) k_ ∧ k_ ≠ go15) (Kd.R_apart' (HO107.out) (Kd.S_typed HO_5.out) (by decide)) (fun k_ hk => ⟨trivial, fun e_ => (hk.2) (by rw [e_]; rfl)⟩))) (fun _ h_ => Or.inr (h_)))) (fun _ hk => hk) (fun k_ hk_ => ((Kd.R_mono (ok' := fun k_ => ((fun _ => True)) k_ ∧ k_ ≠ go15) (Kd.R_apart' (HO107.out) (Kd.S_typed HO_5.out) (by decide)) (fun k_ hk => ⟨trivial, fun e_ => (hk.2) (by rw [e_]; rfl)⟩))).1 k_ hk_.symm))); (try (have hx19_0 := hcc19 0 _ rfl)); (try (try simp only [show ((Kd.slice 3 (Kd.int .i64))).sz = 1 from rfl, Nat.mul_one, Nat.add_zero] at hx19_0)); (try (have hf19_0 := hfr19 0)); (try (try simp only [show ((Kd.slice 3 (Kd.int .i64))).sz = 1 from rfl, Nat.mul_one, Nat.add_zero] at hf19_0)); (try (clear hcl19 hcc19 hfr19 hoki19 hH19; (try clear hM19))); (try (try simp only [show ((Kd.slice 3 (Kd.int .i64))).sz = 1 from rfl, Nat.mul_one, Nat.add_zero] at HP19)))); refine store_event (t := 27) (p := 27) (v := ?vo_w20) (w1 := (w17.setCell ⟨go15, (x6_1 : Int).toNat, none⟩ (v106))) ?hg ?ho ?hn ?hr ?_; (case ho => rfl); (case hg => rfl); (case hn => rfl); (case hr => first | (go_simp; done) | (go_simp; rfl) | (obtain ⟨A_, c_, hv_⟩ := Kd.R_slice (Aside0.out (by assumption : Aside0 (Kd.R _ _ _ _ _ v106 _))); rw [hv_]; go_simp; done)); intro w20 hw; have hg : w17.grownBy w20 (some go15) := (by rw [hw]; exact HP19.2); have hp_ : Kd.S (Kd.slice 3 (Kd.int .i64)) 27 w20 w.heap.size (fun _ => True) (.slice (some ⟨go15, 0, none⟩) x5_1.length co15) y108 := (by rw [hw, Ny108.out]; exact HP19.1); clear HP19; have n0_ := Aside0.mk (hp_); have n1_ := Aside0.mk (blk_grown (g := gb101) (o := .cells #[.int .i64 a0_0, .int .i64 a0_1, .int .i64 a0_2, .int .i64 a0_3, .int .i64 a0_4, .int .i64 a0_5, .int .i64 a0_6] 25 (0, 0)) (by (with_reducible repeat (first | refine blk_drewN ?_ _ | refine blk_drew ?_ | refine blk_alloc ?_ _)); exact BK101.out) hg (Kd.S_ne HO_5.out BK101.out (by decide))); have n2_ := Aside0.mk ((by rw [hw]; exact below_set (HB.out) GB15.out : Below w.heap.size w w20)); clear HO_5; clear BK101; clear HB; clear HO107; have HO_5 := n0_; have BK101 := n1_; have HB := n2_; clear n0_ n1_ n2_; clear hg hw hp_)))
                    go_loopg [7] k1 (fun kq v7 w' => ∃ (x5_2 : List (List Int)) (x7_2 : Int), v7 = .int .i64 x7_2 ∧ Aside0 (rf_Tables.l1 kq l1 x5_2 x6_1 x7_2 a0_0 a0_1 a0_2 a0_3 a0_4 a0_5 a0_6 = some r) ∧ Aside0 (kq ≤ k1) ∧ Aside0 (Kd.S (Kd.slice 3 (Kd.int .i64)) 27 w' w.heap.size (fun _ => True) (.slice (some ⟨go15, 0, none⟩) x5_1.length co15) x5_2) ∧ Aside0 (w'.heap[gb101]? = some (.cells #[.int .i64 a0_0, .int .i64 a0_1, .int .i64 a0_2, .int .i64 a0_3, .int .i64 a0_4, .int .i64 a0_5, .int .i64 a0_6] 25 (0, 0))) ∧ Aside0 (Below w.heap.size w w'))
                    case atStart => exact ⟨(y108), (0), (by first | rfl | (simp; done) | (simp [*]; done)), H', ⟨Nat.le_refl _⟩, ⟨by (with_reducible repeat (first | apply Kd.S_alloc | apply Kd.S_drewN | apply Kd.S_drew)); exact HO_5.out⟩, ⟨by (with_reducible repeat (first | refine blk_drewN ?_ _ | refine blk_drew ?_ | refine blk_alloc ?_ _)); exact BK101.out⟩, ⟨by repeat (first | (with_reducible first | exact HB.out | apply below_alloc | apply pw_below_drewN | apply below_drew1 | refine below_set ?_ GE101.out) | exact HB.out)⟩⟩
                    case round =>
                      clear H'
                      try clear c1
                      try clear p1
                      try clear q1
                      try clear hx1
                      try clear p2
                      try clear c4
                      try clear c4b0
                      try clear c4b1
                      try clear c5
                      try clear c5b0
                      try clear c5b1
                      try clear p6
                      try clear c7
                      try clear c9
                      try clear c9b0
                      try clear c11
                      try clear c11b0
                      try clear c11b1
                      try clear c12
                      try clear c12b0
                      try clear c12b1
                      try clear c13
                      try clear c13b0
                      try clear c14
                      try clear c14b0
                      try clear c15
                      try clear p15
                      try clear q15
                      try clear hx15
                      try clear hf15
                      try clear c19
                      try clear hx19
                      try clear hf19
                      try clear hcz16_0
                      try clear hcz16_1
                      try clear hcz16_2
                      try clear hcz16_3
                      try clear hcz16_4
                      try clear hcz16_5
                      try clear hcz16_6
                      try clear hfz16_0
                      try clear hfz16_1
                      try clear hfz16_2
                      try clear hfz16_3
                      try clear hfz16_4
                      try clear hfz16_5
                      try clear hfz16_6
                      try clear hx15_0
                      try clear hx19_0
                      try clear p15
                      try clear p2
                      try clear p6
                      try clear q15
                      obtain ⟨x5_2, x7_2, rfl, HA, HK2, HO_5, BK101, HB⟩ := hrel
                      have hl5_2 := (Kd.S_reads' HO_5.out).1
                      rw [hl5_2] at HO_5
                      (try simp only [hl5_2])
                      (try simp only [hl5_2] at BK101)
                      cases gk with
                      | zero => exact absurd HA.out (by simp [rf_Tables.l1])
                      | succ k2 =>
                        have H := HA.out
                        clear HA
                        simp only [rf_Tables.l1] at H
                        have HC21 := Aside0.mk H
                        clear H
                        go_upto_region 7 with (fail)
                        repeat (go_quiet (fail); go_upto_region 7 with (fail))
                        go_cut [37] (fun v37 wc => ∃ (kq : Nat) (x37_20 : Bool), v37 = .bool x37_20 ∧ Aside0 (rf_Tables.j2 kq l1 x5_2 x6_1 x7_2 x37_20 a0_0 a0_1 a0_2 a0_3 a0_4 a0_5 a0_6 = some r) ∧ Aside0 (kq ≤ k2) ∧ Aside0 (Kd.S (Kd.slice 3 (Kd.int .i64)) 27 wc w.heap.size (fun _ => True) (.slice (some ⟨go15, 0, none⟩) x5_2.length co15) x5_2) ∧ Aside0 (wc.heap[gb101]? = some (.cells #[.int .i64 a0_0, .int .i64 a0_1, .int .i64 a0_2, .int .i64 a0_3, .int .i64 a0_4, .int .i64 a0_5, .int .i64 a0_6] 25 (0, 0))) ∧ Aside0 (Below w.heap.size w wc))
                        case first =>
                          have H := HC21.out
                          clear HC21
                          by_cases c22 : x7_2 ≤ a0_4
                          · rw [if_pos c22] at H
                            have c22b0 : decide (x7_2 ≤ a0_4) = true := decide_eq_true c22
                            clear c22
                            (first | rw [c22b0] | (simp only [i64_w, i32_w]; rw [c22b0]) | skip)
                            have H' := Aside0.mk H
                            clear H
                            have hcz23_0 : wr.cell? ⟨gb101, 0, none⟩ = some (.int .i64 a0_0) := (blk_cell BK101.out 0).trans rfl
                            have hcz23_1 : wr.cell? ⟨gb101, 1, none⟩ = some (.int .i64 a0_1) := (blk_cell BK101.out 1).trans rfl
                            have hcz23_2 : wr.cell? ⟨gb101, 2, none⟩ = some (.int .i64 a0_2) := (blk_cell BK101.out 2).trans rfl
                            have hcz23_3 : wr.cell? ⟨gb101, 3, none⟩ = some (.int .i64 a0_3) := (blk_cell BK101.out 3).trans rfl
                            have hcz23_4 : wr.cell? ⟨gb101, 4, none⟩ = some (.int .i64 a0_4) := (blk_cell BK101.out 4).trans rfl
                            have hcz23_5 : wr.cell? ⟨gb101, 5, none⟩ = some (.int .i64 a0_5) := (blk_cell BK101.out 5).trans rfl
                            have hcz23_6 : wr.cell? ⟨gb101, 6, none⟩ = some (.int .i64 a0_6) := (blk_cell BK101.out 6).trans rfl
                            have hfz23_0 := blk_frozen BK101.out 0
                            have hfz23_1 := blk_frozen BK101.out 1
                            have hfz23_2 := blk_frozen BK101.out 2
                            have hfz23_3 := blk_frozen BK101.out 3
                            have hfz23_4 := blk_frozen BK101.out 4
                            have hfz23_5 := blk_frozen BK101.out 5
                            have hfz23_6 := blk_frozen BK101.out 6
                            go_wp2
                            repeat (go_quiet (fail); try go_wp2)
                            go_meet
                            case rel => exact ⟨_, (decide (x6_1 < (l1.length : Int))), (by first | rfl | (simp; done) | (simp [*]; done)), H', ⟨by have := HK1.out; have := HK2.out; first | omega | exact Nat.le_refl _⟩, ⟨by (try simp only [hl5_2]); (with_reducible repeat (first | apply Kd.S_alloc | apply Kd.S_drewN | apply Kd.S_drew)); exact HO_5.out⟩, ⟨by (try simp only [hl5_2]); (with_reducible repeat (first | refine blk_drewN ?_ _ | refine blk_drew ?_ | refine blk_alloc ?_ _)); exact BK101.out⟩, ⟨by repeat (first | (with_reducible first | exact HB.out | apply below_alloc | apply pw_below_drewN | apply below_drew1 | refine below_set ?_ GE101.out) | exact HB.out)⟩⟩
                          · rw [if_neg c22] at H
                            have c22b0 : decide (x7_2 ≤ a0_4) = false := decide_eq_false c22
                            clear c22
                            (first | rw [c22b0] | (simp only [i64_w, i32_w]; rw [c22b0]) | skip)
                            have H' := Aside0.mk H
                            clear H
                            have hcz24_0 : wr.cell? ⟨gb101, 0, none⟩ = some (.int .i64 a0_0) := (blk_cell BK101.out 0).trans rfl
                            have hcz24_1 : wr.cell? ⟨gb101, 1, none⟩ = some (.int .i64 a0_1) := (blk_cell BK101.out 1).trans rfl
                            have hcz24_2 : wr.cell? ⟨gb101, 2, none⟩ = some (.int .i64 a0_2) := (blk_cell BK101.out 2).trans rfl
                            have hcz24_3 : wr.cell? ⟨gb101, 3, none⟩ = some (.int .i64 a0_3) := (blk_cell BK101.out 3).trans rfl
                            have hcz24_4 : wr.cell? ⟨gb101, 4, none⟩ = some (.int .i64 a0_4) := (blk_cell BK101.out 4).trans rfl
                            have hcz24_5 : wr.cell? ⟨gb101, 5, none⟩ = some (.int .i64 a0_5) := (blk_cell BK101.out 5).trans rfl
                            have hcz24_6 : wr.cell? ⟨gb101, 6, none⟩ = some (.int .i64 a0_6) := (blk_cell BK101.out 6).trans rfl
                            have hfz24_0 := blk_frozen BK101.out 0
                            have hfz24_1 := blk_frozen BK101.out 1
                            have hfz24_2 := blk_frozen BK101.out 2
                            have hfz24_3 := blk_frozen BK101.out 3
                            have hfz24_4 := blk_frozen BK101.out 4
                            have hfz24_5 := blk_frozen BK101.out 5
                            have hfz24_6 := blk_frozen BK101.out 6
                            go_wp2
                            repeat (go_quiet (fail); try go_wp2)
                            go_meet
                            case rel => exact ⟨_, (false), (by first | rfl | (simp; done) | (simp [*]; done)), H', ⟨by have := HK1.out; have := HK2.out; first | omega | exact Nat.le_refl _⟩, ⟨by (try simp only [hl5_2]); (with_reducible repeat (first | apply Kd.S_alloc | apply Kd.S_drewN | apply Kd.S_drew)); exact HO_5.out⟩, ⟨by (try simp only [hl5_2]); (with_reducible repeat (first | refine blk_drewN ?_ _ | refine blk_drew ?_ | refine blk_alloc ?_ _)); exact BK101.out⟩, ⟨by repeat (first | (with_reducible first | exact HB.out | apply below_alloc | apply pw_below_drewN | apply below_drew1 | refine below_set ?_ GE101.out) | exact HB.out)⟩⟩
                        case rest =>
                          clear HC21
                          try clear c1
                          try clear p1
                          try clear q1
                          try clear hx1
                          try clear c2
                          try clear p2
                          try clear c4
                          try clear c4b0
                          try clear c4b1
                          try clear c5
                          try clear c5b0
                          try clear c5b1
                          try clear p6
                          try clear c7
                          try clear c9
                          try clear c9b0
                          try clear c11
                          try clear c11b0
                          try clear c11b1
                          try clear c12
                          try clear c12b0
                          try clear c12b1
                          try clear c13
                          try clear c13b0
                          try clear c14
                          try clear c14b0
                          try clear c15
                          try clear p15
                          try clear q15
                          try clear hx15
                          try clear hf15
                          try clear c19
                          try clear hx19
                          try clear hf19
                          try clear c22
                          try clear c22b0
                          try clear hcz16_0
                          try clear hcz16_1
                          try clear hcz16_2
                          try clear hcz16_3
                          try clear hcz16_4
                          try clear hcz16_5
                          try clear hcz16_6
                          try clear hcz23_0
                          try clear hcz23_1
                          try clear hcz23_2
                          try clear hcz23_3
                          try clear hcz23_4
                          try clear hcz23_5
                          try clear hcz23_6
                          try clear hcz24_0
                          try clear hcz24_1
                          try clear hcz24_2
                          try clear hcz24_3
                          try clear hcz24_4
                          try clear hcz24_5
                          try clear hcz24_6
                          try clear hfz16_0
                          try clear hfz16_1
                          try clear hfz16_2
                          try clear hfz16_3
                          try clear hfz16_4
                          try clear hfz16_5
                          try clear hfz16_6
                          try clear hfz23_0
                          try clear hfz23_1
                          try clear hfz23_2
                          try clear hfz23_3
                          try clear hfz23_4
                          try clear hfz23_5
                          try clear hfz23_6
                          try clear hfz24_0
                          try clear hfz24_1
                          try clear hfz24_2
                          try clear hfz24_3
                          try clear hfz24_4
                          try clear hfz24_5
                          try clear hfz24_6
                          try clear hx15_0
                          try clear hx19_0
                          try clear p1
                          try clear p15
                          try clear p2
                          try clear p6
                          try clear q1
                          try clear q15
                          obtain ⟨kq, x37_20, rfl, HA, HJ20, HO_5, BK101, HB⟩ := hcut
                          cases kq with
                          | zero => exact absurd HA.out (by simp [rf_Tables.j2])
                          | succ kj20 =>
                            have H := HA.out
                            clear HA
                            simp only [rf_Tables.j2] at H
                            by_cases c25 : x37_20 = true
                            · subst c25
                              have H1 : (rf_Tables.l2 kj20 l1 x5_2 x6_1 x7_2 0 0 a0_0 a0_1 a0_2 a0_3 a0_4 a0_5 a0_6) = some r := by rw [if_pos rfl] at H; exact H
                              clear H
                              have H := H1
                              clear H1
                              have H' := Aside0.mk H
                              clear H
                              go_wp2
                              repeat (go_quiet (fail); try go_wp2)
                              go_loopg [8, 9] kj20 (fun kq v8 v9 w' => ∃ (x8_4 : Int) (x9_4 : Int), v8 = .int .i64 x8_4 ∧ v9 = .int .i64 x9_4 ∧ Aside0 (rf_Tables.l2 kq l1 x5_2 x6_1 x7_2 x8_4 x9_4 a0_0 a0_1 a0_2 a0_3 a0_4 a0_5 a0_6 = some r) ∧ Aside0 (kq ≤ kj20) ∧ Aside0 (Kd.S (Kd.slice 3 (Kd.int .i64)) 27 w' w.heap.size (fun _ => True) (.slice (some ⟨go15, 0, none⟩) x5_2.length co15) x5_2) ∧ Aside0 (w'.heap[gb101]? = some (.cells #[.int .i64 a0_0, .int .i64 a0_1, .int .i64 a0_2, .int .i64 a0_3, .int .i64 a0_4, .int .i64 a0_5, .int .i64 a0_6] 25 (0, 0))) ∧ Aside0 (Below w.heap.size w w'))
                              case atStart => exact ⟨(0), (0), (by first | rfl | (simp; done) | (simp [*]; done)), (by first | rfl | (simp; done) | (simp [*]; done)), H', ⟨Nat.le_refl _⟩, ⟨by (try simp only [hl5_2]); (with_reducible repeat (first | apply Kd.S_alloc | apply Kd.S_drewN | apply Kd.S_drew)); exact HO_5.out⟩, ⟨by (try simp only [hl5_2]); (with_reducible repeat (first | refine blk_drewN ?_ _ | refine blk_drew ?_ | refine blk_alloc ?_ _)); exact BK101.out⟩, ⟨by repeat (first | (with_reducible first | exact HB.out | apply below_alloc | apply pw_below_drewN | apply below_drew1 | refine below_set ?_ GE101.out) | exact HB.out)⟩⟩
                              case round =>
                                clear H'
                                try clear c1
                                try clear p1
                                try clear q1
                                try clear hx1
                                try clear c2
                                try clear p2
                                try clear c4
                                try clear c4b0
                                try clear c4b1
                                try clear c5
                                try clear c5b0
                                try clear c5b1
                                try clear p6
                                try clear c7
                                try clear c9
                                try clear c9b0
                                try clear c11
                                try clear c11b0
                                try clear c11b1
                                try clear c12
                                try clear c12b0
                                try clear c12b1
                                try clear c13
                                try clear c13b0
                                try clear c14
                                try clear c14b0
                                try clear c15
                                try clear p15
                                try clear q15
                                try clear hx15
                                try clear hf15
                                try clear c19
                                try clear hx19
                                try clear hf19
                                try clear c22
                                try clear c22b0
                                try clear c25
                                try clear hcz16_0
                                try clear hcz16_1
                                try clear hcz16_2
                                try clear hcz16_3
                                try clear hcz16_4
                                try clear hcz16_5
                                try clear hcz16_6
                                try clear hcz23_0
                                try clear hcz23_1
                                try clear hcz23_2
                                try clear hcz23_3
                                try clear hcz23_4
                                try clear hcz23_5
                                try clear hcz23_6
                                try clear hcz24_0
                                try clear hcz24_1
                                try clear hcz24_2
                                try clear hcz24_3
                                try clear hcz24_4
                                try clear hcz24_5
                                try clear hcz24_6
                                try clear hfz16_0
                                try clear hfz16_1
                                try clear hfz16_2
                                try clear hfz16_3
                                try clear hfz16_4
                                try clear hfz16_5
                                try clear hfz16_6
                                try clear hfz23_0
                                try clear hfz23_1
                                try clear hfz23_2
                                try clear hfz23_3
                                try clear hfz23_4
                                try clear hfz23_5
                                try clear hfz23_6
                                try clear hfz24_0
                                try clear hfz24_1
                                try clear hfz24_2
                                try clear hfz24_3
                                try clear hfz24_4
                                try clear hfz24_5
                                try clear hfz24_6
                                try clear hx15_0
                                try clear hx19_0
                                try clear p1
                                try clear p15
                                try clear p2
                                try clear p6
                                try clear q1
                                try clear q15
                                obtain ⟨x8_4, x9_4, rfl, rfl, HA, HK4, HO_5, BK101, HB⟩ := hrel
                                cases gk with
                                | zero => exact absurd HA.out (by simp [rf_Tables.l2])
                                | succ k4 =>
                                  have H := HA.out
                                  clear HA
                                  simp only [rf_Tables.l2] at H
                                  by_cases c26 : x9_4 ≤ a0_0
                                  · rw [if_pos c26] at H
                                    have c26b0 : decide (x9_4 ≤ a0_0) = true := decide_eq_true c26
                                    clear c26
                                    by_cases c27 : 0 ≤ x6_1
                                    · rw [if_pos c27] at H
                                      have c27b0 : decide (0 ≤ x6_1) = true := decide_eq_true c27
                                      clear c27
                                      by_cases c28 : x6_1 < (l1.length : Int)
                                      · rw [if_pos c28] at H
                                        have c28b0 : decide (x6_1 < (l1.length : Int)) = true := decide_eq_true c28
                                        clear c28
                                        obtain ⟨ji29, hji29⟩ : ∃ j_ : Int, (mn a0_4 (wrap64 (x7_2 + ((rd_T23 l1 x6_1).f0)))) = j_ := ⟨_, rfl⟩
                                        replace H : (if (wrap64 ((ji29) - (wrap64 (x9_4 * a0_1)))) ≥ 0 then (if 0 ≤ (wrap64 (x6_1 + 1)) then (if (wrap64 (x6_1 + 1)) < (x5_2.length : Int) then (if 0 ≤ (wrap64 ((ji29) - (wrap64 (x9_4 * a0_1)))) then (if (wrap64 ((ji29) - (wrap64 (x9_4 * a0_1)))) < ((rd_L1 x5_2 (wrap64 (x6_1 + 1))).length : Int) then (rf_Tables.l2 k4 l1 x5_2 x6_1 x7_2 (mx x8_4 (wrap64 (x9_4 + (rd (rd_L1 x5_2 (wrap64 (x6_1 + 1))) (wrap64 ((ji29) - (wrap64 (x9_4 * a0_1)))))))) (wrap64 (x9_4 + 1)) a0_0 a0_1 a0_2 a0_3 a0_4 a0_5 a0_6) else (none)) else (none)) else (none)) else (none)) else (rf_Tables.l2 k4 l1 x5_2 x6_1 x7_2 x8_4 (wrap64 (x9_4 + 1)) a0_0 a0_1 a0_2 a0_3 a0_4 a0_5 a0_6)) = some r := by first | (rw [hji29] at H; exact H) | (simp only [hji29] at H ⊢; exact H)
                                        have hji29_ : (if (wrap64 (x7_2 + ((rd_T23 l1 x6_1).f0))) < a0_4 then (wrap64 (x7_2 + ((rd_T23 l1 x6_1).f0))) else a0_4) = ji29 := hji29
                                        by_cases c30 : (wrap64 ((ji29) - (wrap64 (x9_4 * a0_1)))) ≥ 0
                                        · rw [if_pos c30] at H
                                          have c30b0 : decide (0 ≤ (wrap64 ((ji29) - (wrap64 (x9_4 * a0_1))))) = true := decide_eq_true c30
                                          clear c30
                                          obtain ⟨ji31, hji31⟩ : ∃ j_ : Int, (wrap64 (x6_1 + 1)) = j_ := ⟨_, rfl⟩
                                          replace H : (if 0 ≤ (ji31) then (if (ji31) < (x5_2.length : Int) then (if 0 ≤ (wrap64 ((ji29) - (wrap64 (x9_4 * a0_1)))) then (if (wrap64 ((ji29) - (wrap64 (x9_4 * a0_1)))) < ((rd_L1 x5_2 (ji31)).length : Int) then (rf_Tables.l2 k4 l1 x5_2 x6_1 x7_2 (mx x8_4 (wrap64 (x9_4 + (rd (rd_L1 x5_2 (ji31)) (wrap64 ((ji29) - (wrap64 (x9_4 * a0_1)))))))) (wrap64 (x9_4 + 1)) a0_0 a0_1 a0_2 a0_3 a0_4 a0_5 a0_6) else (none)) else (none)) else (none)) else (none)) = some r := by first | (rw [hji31] at H; exact H) | (simp only [hji31] at H ⊢; exact H)
                                          have hji31w : (IntKind.i64.wrap (x6_1 + 1)) = ji31 := (i64_w _).trans hji31
                                          by_cases c32 : 0 ≤ (ji31)
                                          · rw [if_pos c32] at H
                                            have c32b0 : decide (0 ≤ (ji31)) = true := decide_eq_true c32
                                            clear c32
                                            by_cases c33 : (ji31) < (x5_2.length : Int)
                                            · rw [if_pos c33] at H
                                              have c33b0 : decide ((ji31) < (x5_2.length : Int)) = true := decide_eq_true c33
                                              clear c33
                                              obtain ⟨ji34, hji34⟩ : ∃ j_ : Int, (wrap64 ((ji29) - (wrap64 (x9_4 * a0_1)))) = j_ := ⟨_, rfl⟩
                                              replace H : (if 0 ≤ (ji34) then (if (ji34) < ((rd_L1 x5_2 (ji31)).length : Int) then (rf_Tables.l2 k4 l1 x5_2 x6_1 x7_2 (mx x8_4 (wrap64 (x9_4 + (rd (rd_L1 x5_2 (ji31)) (ji34))))) (wrap64 (x9_4 + 1)) a0_0 a0_1 a0_2 a0_3 a0_4 a0_5 a0_6) else (none)) else (none)) = some r := by first | (rw [hji34] at H; exact H) | (simp only [hji34] at H ⊢; exact H)
                                              (try rw [hji34] at c30b0)
                                              have hji34w : (IntKind.i64.wrap ((ji29) - (wrap64 (x9_4 * a0_1)))) = ji34 := (i64_w _).trans hji34
                                              by_cases c35 : 0 ≤ (ji34)
                                              · rw [if_pos c35] at H
                                                have c35b0 : decide (0 ≤ (ji34)) = true := decide_eq_true c35
                                                clear c35
                                                by_cases c36 : (ji34) < ((rd_L1 x5_2 (ji31)).length : Int)
                                                · rw [if_pos c36] at H
                                                  have c36b0 : decide ((ji34) < ((rd_L1 x5_2 (ji31)).length : Int)) = true := decide_eq_true c36
                                                  clear c36
                                                  obtain ⟨ji37, hji37⟩ : ∃ j_ : Int, (mx x8_4 (wrap64 (x9_4 + (rd (rd_L1 x5_2 (ji31)) (ji34))))) = j_ := ⟨_, rfl⟩
                                                  replace H : (rf_Tables.l2 k4 l1 x5_2 x6_1 x7_2 ji37 (wrap64 (x9_4 + 1)) a0_0 a0_1 a0_2 a0_3 a0_4 a0_5 a0_6) = some r := by first | (rw [hji37] at H; exact H) | (simp only [hji37] at H ⊢; exact H)
                                                  have hji37_ : (if x8_4 < (wrap64 (x9_4 + (rd (rd_L1 x5_2 (ji31)) (ji34)))) then (wrap64 (x9_4 + (rd (rd_L1 x5_2 (ji31)) (ji34)))) else x8_4) = ji37 := hji37
                                                  have H' := Aside0.mk H
                                                  clear H
                                                  have hcz38_0 : wr.cell? ⟨gb101, 0, none⟩ = some (.int .i64 a0_0) := (blk_cell BK101.out 0).trans rfl
                                                  have hcz38_1 : wr.cell? ⟨gb101, 1, none⟩ = some (.int .i64 a0_1) := (blk_cell BK101.out 1).trans rfl
                                                  have hcz38_2 : wr.cell? ⟨gb101, 2, none⟩ = some (.int .i64 a0_2) := (blk_cell BK101.out 2).trans rfl
                                                  have hcz38_3 : wr.cell? ⟨gb101, 3, none⟩ = some (.int .i64 a0_3) := (blk_cell BK101.out 3).trans rfl
                                                  have hcz38_4 : wr.cell? ⟨gb101, 4, none⟩ = some (.int .i64 a0_4) := (blk_cell BK101.out 4).trans rfl
                                                  have hcz38_5 : wr.cell? ⟨gb101, 5, none⟩ = some (.int .i64 a0_5) := (blk_cell BK101.out 5).trans rfl
                                                  have hcz38_6 : wr.cell? ⟨gb101, 6, none⟩ = some (.int .i64 a0_6) := (blk_cell BK101.out 6).trans rfl
                                                  have hfz38_0 := blk_frozen BK101.out 0
                                                  have hfz38_1 := blk_frozen BK101.out 1
                                                  have hfz38_2 := blk_frozen BK101.out 2
                                                  have hfz38_3 := blk_frozen BK101.out 3
                                                  have hfz38_4 := blk_frozen BK101.out 4
                                                  have hfz38_5 := blk_frozen BK101.out 5
                                                  have hfz38_6 := blk_frozen BK101.out 6
                                                  have p109 : 0 ≤ (x6_1 : Int) := of_decide_eq_true (by first | (with_reducible assumption) | assumption)
                                                  have q109 : x6_1 < (l1.length : Int) := of_decide_eq_true (by first | (with_reducible assumption) | assumption)
                                                  obtain ⟨ad109, e109, hx109_0, hx109_1⟩ := at_T23 HR1.out x6_1 p109 q109
                                                  cases e109
                                                  replace hx109_0 := (HB.out.cell (World.block_lt_of_cell? w _ hx109_0)).trans hx109_0
                                                  replace hx109_1 := (HB.out.cell (World.block_lt_of_cell? w _ hx109_1)).trans hx109_1
                                                  replace p109 := eq_true p109
                                                  replace q109 := eq_true q109
                                                  have p110 : 0 ≤ ((ji31) : Int) := of_decide_eq_true (by first | (with_reducible assumption) | assumption)
                                                  have q110 : (ji31) < (x5_2.length : Int) := of_decide_eq_true (by first | (with_reducible assumption) | assumption)
                                                  obtain ⟨ad110, A110_0, c110_0, e110, hx110_0, hl110_0, hi110_0⟩ := at_L1 (Kd.S_reads' HO_5.out).2.2 (ji31) p110 q110
                                                  obtain rfl : (⟨go15, 0, none⟩ : Addr) = ad110 := (by injection e110)
                                                  obtain ⟨ce110, hce110, hMe110, hcc110⟩ := Kd.S_get HO_5.out [] (ji31) p110 (by first | exact q110 | exact of_decide_eq_true (by first | (with_reducible assumption) | assumption) | (have e_ := (Kd.S_reads' HO_5.out).1; omega))
                                                  obtain ⟨ve110_0, rfl, ge110_0⟩ := hMe110
                                                  have hv110_0 := hcc110 0 _ rfl
                                                  rw [Nat.add_zero, show ((Kd.slice 3 (Kd.int .i64))).sz = 1 from rfl, Nat.mul_one] at hv110_0
                                                  replace hv110_0 := Option.some.inj (hv110_0.symm.trans hx110_0)
                                                  rw [hv110_0] at ge110_0
                                                  have HL110_0 := Aside0.mk (show Kd.R (Kd.int .i64) 3 _ _ _ _ (rd_L1 x5_2 (ji31)) from ge110_0)
                                                  clear hv110_0 ge110_0
                                                  have HX110_0 := Aside0.mk hx110_0
                                                  clear hcc110 hce110
                                                  (first | simp only [add_plain] at hx110_0 | simp only [add_at] at hx110_0 | simp only [Addr.add, Nat.zero_add] at hx110_0 | skip)
                                                  have HR110_0 := Aside0.mk hi110_0
                                                  have HC110_0 := Aside0.mk hl110_0
                                                  clear hi110_0 hl110_0
                                                  replace p110 := eq_true p110
                                                  replace q110 := eq_true q110
                                                  have p111 : 0 ≤ ((ji34) : Int) := of_decide_eq_true (by first | (with_reducible assumption) | assumption)
                                                  have q111 : (ji34) < ((rd_L1 x5_2 (ji31)).length : Int) := of_decide_eq_true (by first | (with_reducible assumption) | assumption)
                                                  obtain ⟨ad111, e111, hx111_0⟩ := Kd.at_int (by repeat (first | (with_reducible exact HR110_0.out) | (with_reducible refine Kd.C_alloc ?_ _) | (with_reducible refine Kd.C_drewN ?_ _) | (with_reducible refine Kd.C_drew ?_) | exact HR110_0.out)) (ji34) p111 q111
                                                  cases e111
                                                  replace p111 := eq_true p111
                                                  replace q111 := eq_true q111
                                                  go_wp2
                                                  repeat (go_quiet (fail); try go_wp2)
                                                  go_roundg k4
                                                  case measure => have := HK1.out; have := HK2.out; have := HJ20.out; have := HK4.out; omega
                                                  case rel => exact ⟨(ji37), (wrap64 (x9_4 + 1)), (by first | rfl | (simp; done) | (simp only [← hji37] <;> (first | rfl | simp)) | (simp [*]; done)), (by first | rfl | (simp; done) | (simp [*]; done)), H', ⟨by have := HK1.out; have := HK2.out; have := HJ20.out; have := HK4.out; omega⟩, ⟨by (try simp only [hl5_2]); (with_reducible repeat (first | apply Kd.S_alloc | apply Kd.S_drewN | apply Kd.S_drew)); exact HO_5.out⟩, ⟨by (try simp only [hl5_2]); (with_reducible repeat (first | refine blk_drewN ?_ _ | refine blk_drew ?_ | refine blk_alloc ?_ _)); exact BK101.out⟩, ⟨by repeat (first | (with_reducible first | exact HB.out | apply below_alloc | apply pw_below_drewN | apply below_drew1 | refine below_set ?_ GE101.out) | exact HB.out)⟩⟩
                                                · rw [if_neg c36] at H
                                                  exact absurd H (by simp)
                                              · rw [if_neg c35] at H
                                                exact absurd H (by simp)
                                            · rw [if_neg c33] at H
                                              exact absurd H (by simp)
                                          · rw [if_neg c32] at H
                                            exact absurd H (by simp)
                                        · rw [if_neg c30] at H
                                          have c30b0 : decide (0 ≤ (wrap64 ((ji29) - (wrap64 (x9_4 * a0_1))))) = false := decide_eq_false c30
                                          clear c30
                                          have H' := Aside0.mk H
                                          clear H
                                          have hcz39_0 : wr.cell? ⟨gb101, 0, none⟩ = some (.int .i64 a0_0) := (blk_cell BK101.out 0).trans rfl
                                          have hcz39_1 : wr.cell? ⟨gb101, 1, none⟩ = some (.int .i64 a0_1) := (blk_cell BK101.out 1).trans rfl
                                          have hcz39_2 : wr.cell? ⟨gb101, 2, none⟩ = some (.int .i64 a0_2) := (blk_cell BK101.out 2).trans rfl
                                          have hcz39_3 : wr.cell? ⟨gb101, 3, none⟩ = some (.int .i64 a0_3) := (blk_cell BK101.out 3).trans rfl
                                          have hcz39_4 : wr.cell? ⟨gb101, 4, none⟩ = some (.int .i64 a0_4) := (blk_cell BK101.out 4).trans rfl
                                          have hcz39_5 : wr.cell? ⟨gb101, 5, none⟩ = some (.int .i64 a0_5) := (blk_cell BK101.out 5).trans rfl
                                          have hcz39_6 : wr.cell? ⟨gb101, 6, none⟩ = some (.int .i64 a0_6) := (blk_cell BK101.out 6).trans rfl
                                          have hfz39_0 := blk_frozen BK101.out 0
                                          have hfz39_1 := blk_frozen BK101.out 1
                                          have hfz39_2 := blk_frozen BK101.out 2
                                          have hfz39_3 := blk_frozen BK101.out 3
                                          have hfz39_4 := blk_frozen BK101.out 4
                                          have hfz39_5 := blk_frozen BK101.out 5
                                          have hfz39_6 := blk_frozen BK101.out 6
                                          have p109 : 0 ≤ (x6_1 : Int) := of_decide_eq_true (by first | (with_reducible assumption) | assumption)
                                          have q109 : x6_1 < (l1.length : Int) := of_decide_eq_true (by first | (with_reducible assumption) | assumption)
                                          obtain ⟨ad109, e109, hx109_0, hx109_1⟩ := at_T23 HR1.out x6_1 p109 q109
                                          cases e109
                                          replace hx109_0 := (HB.out.cell (World.block_lt_of_cell? w _ hx109_0)).trans hx109_0
                                          replace hx109_1 := (HB.out.cell (World.block_lt_of_cell? w _ hx109_1)).trans hx109_1
                                          replace p109 := eq_true p109
                                          replace q109 := eq_true q109
                                          go_wp2
                                          repeat (go_quiet (fail); try go_wp2)
                                          go_roundg k4
                                          case measure => have := HK1.out; have := HK2.out; have := HJ20.out; have := HK4.out; omega
                                          case rel => exact ⟨(x8_4), (wrap64 (x9_4 + 1)), (by first | rfl | (simp; done) | (simp [*]; done)), (by first | rfl | (simp; done) | (simp [*]; done)), H', ⟨by have := HK1.out; have := HK2.out; have := HJ20.out; have := HK4.out; omega⟩, ⟨by (try simp only [hl5_2]); (with_reducible repeat (first | apply Kd.S_alloc | apply Kd.S_drewN | apply Kd.S_drew)); exact HO_5.out⟩, ⟨by (try simp only [hl5_2]); (with_reducible repeat (first | refine blk_drewN ?_ _ | refine blk_drew ?_ | refine blk_alloc ?_ _)); exact BK101.out⟩, ⟨by repeat (first | (with_reducible first | exact HB.out | apply below_alloc | apply pw_below_drewN | apply below_drew1 | refine below_set ?_ GE101.out) | exact HB.out)⟩⟩
                                      · rw [if_neg c28] at H
                                        exact absurd H (by simp)
                                    · rw [if_neg c27] at H
                                      exact absurd H (by simp)
                                  · rw [if_neg c26] at H
                                    have c26b0 : decide (x9_4 ≤ a0_0) = false := decide_eq_false c26
                                    clear c26
                                    by_cases c40 : 0 ≤ x6_1
                                    · rw [if_pos c40] at H
                                      have c40b0 : decide (0 ≤ x6_1) = true := decide_eq_true c40
                                      clear c40
                                      by_cases c41 : x6_1 < (x5_2.length : Int)
                                      · rw [if_pos c41] at H
                                        have c41b0 : decide (x6_1 < (x5_2.length : Int)) = true := decide_eq_true c41
                                        clear c41
                                        by_cases c42 : 0 ≤ x7_2
                                        · rw [if_pos c42] at H
                                          have c42b0 : decide (0 ≤ x7_2) = true := decide_eq_true c42
                                          clear c42
                                          by_cases c43 : x7_2 < ((rd_L1 x5_2 x6_1).length : Int)
                                          · rw [if_pos c43] at H
                                            have c43b0 : decide (x7_2 < ((rd_L1 x5_2 x6_1).length : Int)) = true := decide_eq_true c43
                                            clear c43
                                            obtain ⟨y113, hy113⟩ : ∃ y_ : List Int, y_ = ((rd_L1 x5_2 x6_1).set (x7_2 : Int).toNat x8_4) := ⟨_, rfl⟩
                                            replace H : (rf_Tables.l1 k4 l1 (x5_2.set (x6_1 : Int).toNat y113) x6_1 (wrap64 (x7_2 + 1)) a0_0 a0_1 a0_2 a0_3 a0_4 a0_5 a0_6) = some r := by first | (rw [hy113]; with_reducible exact H) | (have H2_ := (Option.bind_some _ _).symm.trans H; rw [hy113]; with_reducible exact H2_) | (have H2_ := (Option.bind_some _ _).symm.trans H; with_reducible exact H2_) | with_reducible exact H | (rw [hy113]; exact H) | exact H
                                            have Ny113 := Aside0.mk hy113
                                            clear hy113
                                            obtain ⟨y115, hy115⟩ : ∃ y_ : List (List Int), y_ = (x5_2.set (x6_1 : Int).toNat y113) := ⟨_, rfl⟩
                                            replace H : (rf_Tables.l1 k4 l1 y115 x6_1 (wrap64 (x7_2 + 1)) a0_0 a0_1 a0_2 a0_3 a0_4 a0_5 a0_6) = some r := by first | (rw [hy115]; with_reducible exact H) | (have H2_ := (Option.bind_some _ _).symm.trans H; rw [hy115]; with_reducible exact H2_) | (have H2_ := (Option.bind_some _ _).symm.trans H; with_reducible exact H2_) | with_reducible exact H | (rw [hy115]; exact H) | exact H
                                            have Ny115 := Aside0.mk hy115
                                            clear hy115
                                            have H' := Aside0.mk H
                                            clear H
                                            have hcz45_0 : wr.cell? ⟨gb101, 0, none⟩ = some (.int .i64 a0_0) := (blk_cell BK101.out 0).trans rfl
                                            have hcz45_1 : wr.cell? ⟨gb101, 1, none⟩ = some (.int .i64 a0_1) := (blk_cell BK101.out 1).trans rfl
                                            have hcz45_2 : wr.cell? ⟨gb101, 2, none⟩ = some (.int .i64 a0_2) := (blk_cell BK101.out 2).trans rfl
                                            have hcz45_3 : wr.cell? ⟨gb101, 3, none⟩ = some (.int .i64 a0_3) := (blk_cell BK101.out 3).trans rfl
                                            have hcz45_4 : wr.cell? ⟨gb101, 4, none⟩ = some (.int .i64 a0_4) := (blk_cell BK101.out 4).trans rfl
                                            have hcz45_5 : wr.cell? ⟨gb101, 5, none⟩ = some (.int .i64 a0_5) := (blk_cell BK101.out 5).trans rfl
                                            have hcz45_6 : wr.cell? ⟨gb101, 6, none⟩ = some (.int .i64 a0_6) := (blk_cell BK101.out 6).trans rfl
                                            have hfz45_0 := blk_frozen BK101.out 0
                                            have hfz45_1 := blk_frozen BK101.out 1
                                            have hfz45_2 := blk_frozen BK101.out 2
                                            have hfz45_3 := blk_frozen BK101.out 3
                                            have hfz45_4 := blk_frozen BK101.out 4
                                            have hfz45_5 := blk_frozen BK101.out 5
                                            have hfz45_6 := blk_frozen BK101.out 6
                                            have p112 : 0 ≤ (x6_1 : Int) := of_decide_eq_true (by first | (with_reducible assumption) | assumption)
                                            have q112 : x6_1 < (x5_2.length : Int) := of_decide_eq_true (by first | (with_reducible assumption) | assumption)
                                            obtain ⟨ad112, A112_0, c112_0, e112, hx112_0, hl112_0, hi112_0⟩ := at_L1 (Kd.S_reads' HO_5.out).2.2 x6_1 p112 q112
                                            obtain rfl : (⟨go15, 0, none⟩ : Addr) = ad112 := (by injection e112)
                                            obtain ⟨ce112, hce112, hMe112, hcc112⟩ := Kd.S_get HO_5.out [] x6_1 p112 (by first | exact q112 | exact of_decide_eq_true (by first | (with_reducible assumption) | assumption) | (have e_ := (Kd.S_reads' HO_5.out).1; omega))
                                            obtain ⟨ve112_0, rfl, ge112_0⟩ := hMe112
                                            have hv112_0 := hcc112 0 _ rfl
                                            rw [Nat.add_zero, show ((Kd.slice 3 (Kd.int .i64))).sz = 1 from rfl, Nat.mul_one] at hv112_0
                                            replace hv112_0 := Option.some.inj (hv112_0.symm.trans hx112_0)
                                            rw [hv112_0] at ge112_0
                                            have HL112_0 := Aside0.mk (show Kd.R (Kd.int .i64) 3 _ _ _ _ (rd_L1 x5_2 x6_1) from ge112_0)
                                            clear hv112_0 ge112_0
                                            have HX112_0 := Aside0.mk hx112_0
                                            clear hcc112 hce112
                                            (first | simp only [add_plain] at hx112_0 | simp only [add_at] at hx112_0 | simp only [Addr.add, Nat.zero_add] at hx112_0 | skip)
                                            have HR112_0 := Aside0.mk hi112_0
                                            have HC112_0 := Aside0.mk hl112_0
                                            clear hi112_0 hl112_0
                                            replace p112 := eq_true p112
                                            replace q112 := eq_true q112
                                            have p44 : 0 ≤ (x7_2 : Int) := of_decide_eq_true (by first | (with_reducible assumption) | assumption)
                                            have q44 : (x7_2 : Int) < (((rd_L1 x5_2 x6_1).length : Int) : Int) := of_decide_eq_true (by first | (with_reducible assumption) | assumption)
                                            obtain ⟨go44, co44, eo44, gb44, gl44, cl44, HG44⟩ := Kd.R_form HL112_0.out (by omega)
                                            (first | cases eo44 | (injection eo44 with ea_ en_ ec_; (first | subst ea_ | (injection ea_ with ea_; subst ea_)); subst ec_; clear en_))
                                            have GB44 := Aside0.mk gb44
                                            have GG44 := Aside0.mk HG44
                                            clear gb44 gl44 HG44
                                            obtain ⟨hx44_0, hf44_0⟩ := Kd.R_celln 0 HL112_0.out (x7_2 : Int) p44 q44
                                            replace p44 := eq_true p44
                                            replace q44 := eq_true q44
                                            have hq46 : (x6_1 : Int) < (x5_2.length : Int) := (by have h_ : (x6_1 : Int) < ((x5_2.length : Int) : Int) := of_decide_eq_true (by first | (with_reducible assumption) | assumption); first | exact h_ | (have e_ := (Kd.S_reads' HO_5.out).1; omega) | simpa only [List.length_set, List.length_set] using h_)
                                            obtain ⟨oki46, ce46, hcl46, hM46, hcc46, hok46, hbk46⟩ := Kd.S_borrow HO_5.out [] (x6_1 : Int) (of_decide_eq_true (by first | (with_reducible assumption) | assumption)) hq46
                                            obtain ⟨ve46_0, rfl, ge46_0⟩ := hM46
                                            have hv46 := hcc46 0 _ rfl
                                            rw [Nat.add_zero, show ((Kd.slice 3 (Kd.int .i64))).sz = 1 from rfl, Nat.mul_one] at hv46
                                            replace hv46 := Option.some.inj (hv46.symm.trans HX112_0.out)
                                            subst hv46
                                            clear hcc46 hcl46
                                            replace ge46_0 := (show Kd.R (Kd.int .i64) 3 _ _ _ _ (rd_L1 x5_2 x6_1) from ge46_0)
                                            have HP46 := Kd.R_putg ge46_0 (x7_2 : Int) x8_4
                                            go_wp2_with (first | ((with_reducible refine gate_store (t := 3) (p := 81) rfl ?_); (try (rw [drewN_self wr]; generalize hq_ : World.drewN wr _ = wr; have n0_ := Aside0.mk (Kd.S_at hq_ HO_5.out); have n1_ := Aside0.mk (Kd.R_at hq_ HL116.out); have n2_ := Aside0.mk (blk_at hq_ BK101.out); have n3_ := Aside0.mk (below_at hq_ HB.out); clear hq_ HO_5 HL116 BK101 HB; have HO_5 := n0_; have HL116 := n1_; have BK101 := n2_; have HB := n3_; clear n0_ n1_ n2_ n3_; (try (have hq46 : (x6_1 : Int) < (x5_2.length : Int) := (by have h_ : (x6_1 : Int) < ((x5_2.length : Int) : Int) := of_decide_eq_true (by first | (with_reducible assumption) | assumption); first | exact h_ | (have e_ := (Kd.S_reads' HO_5.out).1; omega) | simpa only [List.length_set, List.length_set] using h_))); (try (obtain ⟨oki46, ce46, hcl46, hM46, hcc46, hok46, hbk46⟩ := Kd.S_borrow HO_5.out [] (x6_1 : Int) (of_decide_eq_true (by first | (with_reducible assumption) | assumption)) hq46)); (try (obtain ⟨ve46_0, rfl, ge46_0⟩ := hM46)); (try (have hv46 := hcc46 0 _ rfl)); (try (rw [Nat.add_zero, show ((Kd.slice 3 (Kd.int .i64))).sz = 1 from rfl, Nat.mul_one] at hv46)); (try (replace hv46 := Option.some.inj (hv46.symm.trans HX112_0.out))); (try (subst hv46)); (try (clear hcc46 hcl46)); (try (replace ge46_0 := (show Kd.R (Kd.int .i64) 3 _ _ _ _ (rd_L1 x5_2 x6_1) from ge46_0))); (try (have HP46 := Kd.R_putg ge46_0 (x7_2 : Int) x8_4)))); refine store_event (t := 3) (p := 81) (v := ?vo_w47) (w1 := (wr.setCell ⟨go44, (x7_2 : Int).toNat, none⟩ (.int .i64 x8_4))) ?hg ?ho ?hn ?hr ?_; (case ho => rfl); (case hg => rfl); (case hn => rfl); (case hr => first | (go_simp; done) | (go_simp; rfl)); intro w47 hw; have hg : wr.grownBy w47 (some go44) := (by rw [hw]; exact HP46.2); have hz_ : Kd.R (Kd.int .i64) 3 w47 w.heap.size oki46 (.slice (some ⟨go44, 0, none⟩) (rd_L1 x5_2 x6_1).length c112_0) y113 := (by rw [hw, Ny113.out]; exact HP46.1); have hp_ : Kd.S (Kd.slice 3 (Kd.int .i64)) 27 w47 w.heap.size (fun _ => True) (.slice (some ⟨go15, 0, none⟩) x5_2.length co15) y115 := (by rw [Ny115.out]; exact hbk46 hg (fun k_ e_ => by injection e_ with e_; subst e_; exact ge46_0.1 _ rfl) (Kd.M_row hz_)); have hm_ := Kd.R_mono hz_ hok46; clear HP46 hbk46; have n0_ := Aside0.mk (hp_); have n1_ := Aside0.mk (blk_grown (g := gb101) (o := .cells #[.int .i64 a0_0, .int .i64 a0_1, .int .i64 a0_2, .int .i64 a0_3, .int .i64 a0_4, .int .i64 a0_5, .int .i64 a0_6] 25 (0, 0)) (by (with_reducible repeat (first | refine blk_drewN ?_ _ | refine blk_drew ?_ | refine blk_alloc ?_ _)); exact BK101.out) hg (Kd.R_ne HL112_0.out BK101.out (by decide))); have n2_ := Aside0.mk ((by rw [hw]; exact below_set (HB.out) GB44.out : Below w.heap.size w w47)); have n3_ := Aside0.mk (hm_); have n4_ := Aside0.mk ((Kd.R_reads' hm_).2.1); clear HO_5; clear BK101; clear HB; clear HL112_0; have HO_5 := n0_; have BK101 := n1_; have HB := n2_; have HL116 := n3_; have HC114 := n4_; clear n0_ n1_ n2_ n3_ n4_; clear hg hw hp_ hz_ hm_ hok46))
                                            repeat (go_quiet (first | ((with_reducible refine gate_store (t := 3) (p := 81) rfl ?_); (try (rw [drewN_self wr]; generalize hq_ : World.drewN wr _ = wr; have n0_ := Aside0.mk (Kd.S_at hq_ HO_5.out); have n1_ := Aside0.mk (Kd.R_at hq_ HL116.out); have n2_ := Aside0.mk (blk_at hq_ BK101.out); have n3_ := Aside0.mk (below_at hq_ HB.out); clear hq_ HO_5 HL116 BK101 HB; have HO_5 := n0_; have HL116 := n1_; have BK101 := n2_; have HB := n3_; clear n0_ n1_ n2_ n3_; (try (have hq46 : (x6_1 : Int) < (x5_2.length : Int) := (by have h_ : (x6_1 : Int) < ((x5_2.length : Int) : Int) := of_decide_eq_true (by first | (with_reducible assumption) | assumption); first | exact h_ | (have e_ := (Kd.S_reads' HO_5.out).1; omega) | simpa only [List.length_set, List.length_set] using h_))); (try (obtain ⟨oki46, ce46, hcl46, hM46, hcc46, hok46, hbk46⟩ := Kd.S_borrow HO_5.out [] (x6_1 : Int) (of_decide_eq_true (by first | (with_reducible assumption) | assumption)) hq46)); (try (obtain ⟨ve46_0, rfl, ge46_0⟩ := hM46)); (try (have hv46 := hcc46 0 _ rfl)); (try (rw [Nat.add_zero, show ((Kd.slice 3 (Kd.int .i64))).sz = 1 from rfl, Nat.mul_one] at hv46)); (try (replace hv46 := Option.some.inj (hv46.symm.trans HX112_0.out))); (try (subst hv46)); (try (clear hcc46 hcl46)); (try (replace ge46_0 := (show Kd.R (Kd.int .i64) 3 _ _ _ _ (rd_L1 x5_2 x6_1) from ge46_0))); (try (have HP46 := Kd.R_putg ge46_0 (x7_2 : Int) x8_4)))); refine store_event (t := 3) (p := 81) (v := ?vo_w47) (w1 := (wr.setCell ⟨go44, (x7_2 : Int).toNat, none⟩ (.int .i64 x8_4))) ?hg ?ho ?hn ?hr ?_; (case ho => rfl); (case hg => rfl); (case hn => rfl); (case hr => first | (go_simp; done) | (go_simp; rfl)); intro w47 hw; have hg : wr.grownBy w47 (some go44) := (by rw [hw]; exact HP46.2); have hz_ : Kd.R (Kd.int .i64) 3 w47 w.heap.size oki46 (.slice (some ⟨go44, 0, none⟩) (rd_L1 x5_2 x6_1).length c112_0) y113 := (by rw [hw, Ny113.out]; exact HP46.1); have hp_ : Kd.S (Kd.slice 3 (Kd.int .i64)) 27 w47 w.heap.size (fun _ => True) (.slice (some ⟨go15, 0, none⟩) x5_2.length co15) y115 := (by rw [Ny115.out]; exact hbk46 hg (fun k_ e_ => by injection e_ with e_; subst e_; exact ge46_0.1 _ rfl) (Kd.M_row hz_)); have hm_ := Kd.R_mono hz_ hok46; clear HP46 hbk46; have n0_ := Aside0.mk (hp_); have n1_ := Aside0.mk (blk_grown (g := gb101) (o := .cells #[.int .i64 a0_0, .int .i64 a0_1, .int .i64 a0_2, .int .i64 a0_3, .int .i64 a0_4, .int .i64 a0_5, .int .i64 a0_6] 25 (0, 0)) (by (with_reducible repeat (first | refine blk_drewN ?_ _ | refine blk_drew ?_ | refine blk_alloc ?_ _)); exact BK101.out) hg (Kd.R_ne HL112_0.out BK101.out (by decide))); have n2_ := Aside0.mk ((by rw [hw]; exact below_set (HB.out) GB44.out : Below w.heap.size w w47)); have n3_ := Aside0.mk (hm_); have n4_ := Aside0.mk ((Kd.R_reads' hm_).2.1); clear HO_5; clear BK101; clear HB; clear HL112_0; have HO_5 := n0_; have BK101 := n1_; have HB := n2_; have HL116 := n3_; have HC114 := n4_; clear n0_ n1_ n2_ n3_ n4_; clear hg hw hp_ hz_ hm_ hok46)); try go_wp2_with (first | ((with_reducible refine gate_store (t := 3) (p := 81) rfl ?_); (try (rw [drewN_self wr]; generalize hq_ : World.drewN wr _ = wr; have n0_ := Aside0.mk (Kd.S_at hq_ HO_5.out); have n1_ := Aside0.mk (Kd.R_at hq_ HL116.out); have n2_ := Aside0.mk (blk_at hq_ BK101.out); have n3_ := Aside0.mk (below_at hq_ HB.out); clear hq_ HO_5 HL116 BK101 HB; have HO_5 := n0_; have HL116 := n1_; have BK101 := n2_; have HB := n3_; clear n0_ n1_ n2_ n3_; (try (have hq46 : (x6_1 : Int) < (x5_2.length : Int) := (by have h_ : (x6_1 : Int) < ((x5_2.length : Int) : Int) := of_decide_eq_true (by first | (with_reducible assumption) | assumption); first | exact h_ | (have e_ := (Kd.S_reads' HO_5.out).1; omega) | simpa only [List.length_set, List.length_set] using h_))); (try (obtain ⟨oki46, ce46, hcl46, hM46, hcc46, hok46, hbk46⟩ := Kd.S_borrow HO_5.out [] (x6_1 : Int) (of_decide_eq_true (by first | (with_reducible assumption) | assumption)) hq46)); (try (obtain ⟨ve46_0, rfl, ge46_0⟩ := hM46)); (try (have hv46 := hcc46 0 _ rfl)); (try (rw [Nat.add_zero, show ((Kd.slice 3 (Kd.int .i64))).sz = 1 from rfl, Nat.mul_one] at hv46)); (try (replace hv46 := Option.some.inj (hv46.symm.trans HX112_0.out))); (try (subst hv46)); (try (clear hcc46 hcl46)); (try (replace ge46_0 := (show Kd.R (Kd.int .i64) 3 _ _ _ _ (rd_L1 x5_2 x6_1) from ge46_0))); (try (have HP46 := Kd.R_putg ge46_0 (x7_2 : Int) x8_4)))); refine store_event (t := 3) (p := 81) (v := ?vo_w47) (w1 := (wr.setCell ⟨go44, (x7_2 : Int).toNat, none⟩ (.int .i64 x8_4))) ?hg ?ho ?hn ?hr ?_; (case ho => rfl); (case hg => rfl); (case hn => rfl); (case hr => first | (go_simp; done) | (go_simp; rfl)); intro w47 hw; have hg : wr.grownBy w47 (some go44) := (by rw [hw]; exact HP46.2); have hz_ : Kd.R (Kd.int .i64) 3 w47 w.heap.size oki46 (.slice (some ⟨go44, 0, none⟩) (rd_L1 x5_2 x6_1).length c112_0) y113 := (by rw [hw, Ny113.out]; exact HP46.1); have hp_ : Kd.S (Kd.slice 3 (Kd.int .i64)) 27 w47 w.heap.size (fun _ => True) (.slice (some ⟨go15, 0, none⟩) x5_2.length co15) y115 := (by rw [Ny115.out]; exact hbk46 hg (fun k_ e_ => by injection e_ with e_; subst e_; exact ge46_0.1 _ rfl) (Kd.M_row hz_)); have hm_ := Kd.R_mono hz_ hok46; clear HP46 hbk46; have n0_ := Aside0.mk (hp_); have n1_ := Aside0.mk (blk_grown (g := gb101) (o := .cells #[.int .i64 a0_0, .int .i64 a0_1, .int .i64 a0_2, .int .i64 a0_3, .int .i64 a0_4, .int .i64 a0_5, .int .i64 a0_6] 25 (0, 0)) (by (with_reducible repeat (first | refine blk_drewN ?_ _ | refine blk_drew ?_ | refine blk_alloc ?_ _)); exact BK101.out) hg (Kd.R_ne HL112_0.out BK101.out (by decide))); have n2_ := Aside0.mk ((by rw [hw]; exact below_set (HB.out) GB44.out : Below w.heap.size w w47)); have n3_ := Aside0.mk (hm_); have n4_ := Aside0.mk ((Kd.R_reads' hm_).2.1); clear HO_5; clear BK101; clear HB; clear HL112_0; have HO_5 := n0_; have BK101 := n1_; have HB := n2_; have HL116 := n3_; have HC114 := n4_; clear n0_ n1_ n2_ n3_ n4_; clear hg hw hp_ hz_ hm_ hok46)))
                                            (try simp only [← hl5_2])
                                            go_roundg k4
                                            case measure => have := HK1.out; have := HK2.out; have := HJ20.out; have := HK4.out; omega
                                            case rel => exact ⟨(y115), (wrap64 (x7_2 + 1)), (by first | rfl | (simp; done) | (simp [*]; done)), H', ⟨by have := HK1.out; have := HK2.out; have := HJ20.out; have := HK4.out; omega⟩, ⟨by (try simp only [hl5_2]); (with_reducible repeat (first | apply Kd.S_alloc | apply Kd.S_drewN | apply Kd.S_drew)); exact HO_5.out⟩, ⟨by (try simp only [hl5_2]); (with_reducible repeat (first | refine blk_drewN ?_ _ | refine blk_drew ?_ | refine blk_alloc ?_ _)); exact BK101.out⟩, ⟨by repeat (first | (with_reducible first | exact HB.out | apply below_alloc | apply pw_below_drewN | apply below_drew1 | refine below_set ?_ GE101.out) | exact HB.out)⟩⟩
                                          · rw [if_neg c43] at H
                                            exact absurd H (by simp)
                                        · rw [if_neg c42] at H
                                          exact absurd H (by simp)
                                      · rw [if_neg c41] at H
                                        exact absurd H (by simp)
                                    · rw [if_neg c40] at H
                                      exact absurd H (by simp)
                            · replace c25 := Bool.eq_false_iff.mpr c25
                              subst c25
                              have H1 : (rf_Tables.l0 kj20 l1 x5_2 (wrap64 (x6_1 - 1)) a0_0 a0_1 a0_2 a0_3 a0_4 a0_5 a0_6) = some r := by rw [if_neg (show ¬ (false = true) by decide)] at H; exact H
                              clear H
                              have H := H1
                              clear H1
                              have H' := Aside0.mk H
                              clear H
                              go_wp2
                              repeat (go_quiet (fail); try go_wp2)
                              (try simp only [← hl5_2])
                              go_roundg kj20
                              case measure => have := HK1.out; have := HK2.out; have := HJ20.out; omega
                              case rel => exact ⟨(x5_2), (wrap64 (x6_1 - 1)), (by first | rfl | (simp; done) | (simp [*]; done)), H', ⟨by have := HK1.out; have := HK2.out; have := HJ20.out; omega⟩, ⟨by (try simp only [hl5_2]); (with_reducible repeat (first | apply Kd.S_alloc | apply Kd.S_drewN | apply Kd.S_drew)); exact HO_5.out⟩, ⟨by (try simp only [hl5_2]); (with_reducible repeat (first | refine blk_drewN ?_ _ | refine blk_drew ?_ | refine blk_alloc ?_ _)); exact BK101.out⟩, ⟨by repeat (first | (with_reducible first | exact HB.out | apply below_alloc | apply pw_below_drewN | apply below_drew1 | refine below_set ?_ GE101.out) | exact HB.out)⟩⟩
                  · rw [if_neg c14] at H
                    exact absurd H (by simp)
                · rw [if_neg c13] at H
                  exact absurd H (by simp)
              · rw [if_neg c12] at H
                exact absurd H (by simp)
            · rw [if_neg c11] at H
              exact absurd H (by simp)
          · rw [if_neg c9] at H
            have c9b0 : decide (0 ≤ x6_1) = false := decide_eq_false c9
            clear c9
            obtain rfl := Option.some.inj H
            go_wp2
            repeat (go_quiet (fail); try go_wp2)
            go_ret
            exact ⟨_, by first | rfl | (simp [errW_none, errW_some] <;> rfl) | (simp only [← hji3]; first | rfl | (simp [errW_none, errW_some] <;> rfl)) | (simp [*, errW_none, errW_some] <;> rfl), by (with_reducible repeat (first | apply Kd.S_alloc | apply Kd.S_drewN | apply Kd.S_drew)); exact HO_5.out, by repeat (first | (with_reducible first | exact HB.out | apply below_alloc | apply pw_below_drewN | apply below_drew1 | refine below_set ?_ GE101.out) | exact HB.out)⟩
    · rw [if_neg c5] at H
      exact absurd H (by simp)
  · rw [if_neg c4] at H
    exact absurd H (by simp)
end Go.Proofs.Ytcnlbbmokphjnaa.Q
namespace Go.Proofs.Ytcnlbbmokphjnaa.Q
open Go.RowKit Go.Proofs.YtcnlbbmokphjnaaW.PrintWords
set_option linter.unusedVariables false
set_option linter.unusedSimpArgs false
def rowT (m : Mill) (ss : List Sp) : List Int := (List.range (m.ho.toNat + 1)).map fun (w : Nat) => mostL m ss (w : Int)
def tabT (m : Mill) (L : List Sp) : List (List Int) := (List.range (L.length + 1)).map fun j => rowT m (L.drop j)
def stT (m : Mill) (L : List Sp) (i : Nat) (cur : List Int) : List (List Int) := (List.range (L.length + 1)).map fun j => if j < i then [] else if j = i then cur else rowT m (L.drop j)
def curT (m : Mill) (ss : List Sp) (w : Nat) : List Int := (List.range (m.ho.toNat + 1)).map fun (u : Nat) => if u < w then mostL m ss (u : Int) else 0
theorem map_set_range {α : Type} (n i : Nat) (f : Nat → α) (v : α) (hi : i < n) : ((List.range n).map f).set i v = (List.range n).map fun j => if j = i then v else f j := by
  apply List.ext_getElem
  · simp
  · intro j h1 h2
    rw [List.getElem_set]
    simp only [List.getElem_map, List.getElem_range]
    by_cases e : i = j
    · subst e; simp
    · rw [if_neg e, if_neg (fun h => e h.symm)]
theorem stT_len (m : Mill) (L : List Sp) (i : Nat) (cur : List Int) : (stT m L i cur).length = L.length + 1 := by simp [stT]
theorem stT_set (m : Mill) (L : List Sp) (i : Nat) (cur v : List Int) (hi : i ≤ L.length) : (stT m L i cur).set i v = stT m L i v := by
  unfold stT
  rw [map_set_range _ _ _ _ (by omega)]
  refine List.map_congr_left (fun j _ => ?_)
  by_cases e : j = i
  · subst e; simp
  · simp [e]
theorem stT_at (m : Mill) (L : List Sp) (i : Nat) (cur : List Int) (hi : i ≤ L.length) : rd_L1 (stT m L i cur) (i : Int) = cur := by
  have h : i < (stT m L i cur).length := by rw [stT_len]; omega
  simp only [rd_L1, Int.toNat_natCast, List.getD_eq_getElem?_getD, List.getElem?_eq_getElem h, Option.getD_some]
  simp [stT]
theorem stT_next (m : Mill) (L : List Sp) (i : Nat) (cur : List Int) (hi : i < L.length) : rd_L1 (stT m L i cur) ((i + 1 : Nat) : Int) = rowT m (L.drop (i + 1)) := by
  have h : i + 1 < (stT m L i cur).length := by rw [stT_len]; omega
  simp only [rd_L1, Int.toNat_natCast, List.getD_eq_getElem?_getD, List.getElem?_eq_getElem h, Option.getD_some]
  simp [stT]
  omega
theorem stT_down (m : Mill) (L : List Sp) (i : Nat) : stT m L (i + 1) (rowT m (L.drop (i + 1))) = stT m L i [] := by
  unfold stT
  refine List.map_congr_left (fun j _ => ?_)
  by_cases h1 : j < i + 1
  · rw [if_pos h1]
    by_cases h2 : j < i
    · rw [if_pos h2]
    · rw [if_neg h2, if_pos (by omega)]
  · rw [if_neg h1, if_neg (show ¬ j < i by omega), if_neg (show ¬ j = i by omega)]
    by_cases h3 : j = i + 1
    · rw [if_pos h3, h3]
    · rw [if_neg h3]
theorem stT_zero (m : Mill) (L : List Sp) : stT m L 0 (rowT m L) = tabT m L := by
  unfold stT tabT
  refine List.map_congr_left (fun j _ => ?_)
  by_cases h : j = 0
  · subst h; simp
  · simp [h]
theorem stT_start (m : Mill) (L : List Sp) : stT m L L.length [] = List.replicate (L.length + 1) [] := by
  unfold stT
  apply List.ext_getElem
  · simp
  · intro j h1 h2
    simp only [List.getElem_map, List.getElem_range, List.getElem_replicate]
    simp at h1
    split
    · rfl
    · rw [if_pos (by omega)]
theorem curT_len (m : Mill) (ss : List Sp) (w : Nat) : (curT m ss w).length = m.ho.toNat + 1 := by simp [curT]
theorem curT_zero (m : Mill) (ss : List Sp) : curT m ss 0 = List.replicate (m.ho.toNat + 1) 0 := by
  unfold curT
  apply List.ext_getElem
  · simp
  · intro j h1 h2; simp
theorem curT_set (m : Mill) (ss : List Sp) (w : Nat) (hw : w ≤ m.ho.toNat) : (curT m ss w).set w (mostL m ss (w : Int)) = curT m ss (w + 1) := by
  unfold curT
  rw [map_set_range _ _ _ _ (by omega)]
  refine List.map_congr_left (fun j _ => ?_)
  by_cases e : j = w
  · subst e; simp
  · rw [if_neg e]
    by_cases h : j < w
    · rw [if_pos h, if_pos (by omega)]
    · rw [if_neg h, if_neg (by omega)]
theorem curT_full (m : Mill) (ss : List Sp) : curT m ss (m.ho.toNat + 1) = rowT m ss := by
  unfold curT rowT
  refine List.map_congr_left (fun j hj => ?_)
  rw [if_pos (List.mem_range.1 hj)]
theorem rowT_nil (m : Mill) : rowT m [] = List.replicate (m.ho.toNat + 1) 0 := by
  unfold rowT
  apply List.ext_getElem
  · simp
  · intro j h1 h2; simp [mostL]
theorem rowT_len (m : Mill) (ss : List Sp) : (rowT m ss).length = m.ho.toNat + 1 := by simp [rowT]
theorem rowT_at (m : Mill) (ss : List Sp) (w : Int) (h0 : 0 ≤ w) (h1 : w ≤ m.ho) : rd (rowT m ss) w = mostL m ss w := by
  obtain ⟨n, rfl⟩ : ∃ n : Nat, w = (n : Int) := ⟨w.toNat, by omega⟩
  have h : n < (rowT m ss).length := by rw [rowT_len]; omega
  rw [rdI _ n h]
  simp [rowT]
section
variable (a0 a1 a2 a3 a4 a5 a6 : Int) (l : List S23) (hH : 0 ≤ a0 ∧ a0 ≤ 8) (hT : 0 ≤ a1 ∧ a1 ≤ 100) (hho : 0 ≤ a4 ∧ a4 ≤ 500) (hl : l.length ≤ 100) (hf : ∀ s ∈ toSp l, 0 ≤ s.lo ∧ s.lo ≤ 2000)
include hH hT hho hl hf
theorem after_eq (i : Nat) (hi : i < l.length) (w : Int) (hw : 0 ≤ w ∧ w ≤ 500) (k : Nat) (hk : (k : Int) ≤ 10) :
    wrap64 (mn a4 (wrap64 (w + (rd_T23 l (i : Int)).f0)) - wrap64 ((k : Int) * a1)) = afterW ⟨a0, a1, a2, a3, a4, a5, a6⟩ (rdS (toSp l) i) w k ∧ afterW ⟨a0, a1, a2, a3, a4, a5, a6⟩ (rdS (toSp l) i) w k ≤ a4 := by
  have _u1 := hH
  have _u2 := hl
  have h1 := hf (rdS (toSp l) i) (by rw [rdS_nat _ i (by rw [toSp_len]; exact hi)]; exact List.getElem_mem _)
  have e : rdS (toSp l) i = ⟨l[i].f0, l[i].f1⟩ := by
    rw [rdS_nat _ i (by rw [toSp_len]; exact hi)]
    simp [toSp]
  rw [e] at h1 ⊢
  simp only at h1
  have h3 : 0 ≤ (k : Int) * a1 := Int.mul_nonneg (by omega) hT.1
  have h4 : (k : Int) * a1 ≤ 10 * 100 := Int.mul_le_mul hk hT.2 hT.1 (by omega)
  rw [rd23 l i hi, wr (x := w + l[i].f0) (by omega), wr (x := (k : Int) * a1) (by omega)]
  have e2 : mn a4 (w + l[i].f0) = min a4 (w + l[i].f0) := by unfold mn; omega
  rw [e2, wr (by omega)]
  simp only [afterW]
  exact ⟨trivial, by omega⟩
theorem Tables_l2 (i : Nat) (hi : i < l.length) (w : Nat) (hw : (w : Int) ≤ a4) (cur : List Int) (hcur : cur.length = a4.toNat + 1) (r : List (List Int))
    (hnext : Ev (fun K => rf_Tables.l1 K l (stT ⟨a0, a1, a2, a3, a4, a5, a6⟩ (toSp l) i (cur.set w (mostL ⟨a0, a1, a2, a3, a4, a5, a6⟩ ((toSp l).drop i) w))) (i : Int) ((w + 1 : Nat) : Int) a0 a1 a2 a3 a4 a5 a6) r) :
    ∀ (d k : Nat), k + d = a0.toNat + 1 → Ev (fun K => rf_Tables.l2 K l (stT ⟨a0, a1, a2, a3, a4, a5, a6⟩ (toSp l) i cur) (i : Int) (w : Int) (bst ⟨a0, a1, a2, a3, a4, a5, a6⟩ (rdS (toSp l) i) ((toSp l).drop (i + 1)) (w : Int) k) (k : Int) a0 a1 a2 a3 a4 a5 a6) r
  | 0, k, h => by
    refine Ev.up ?_
    have hil : i < (toSp l).length := by rw [toSp_len]; exact hi
    have hd : (toSp l).drop i = rdS (toSp l) i :: (toSp l).drop (i + 1) := by rw [List.drop_eq_getElem_cons hil, rdS_nat _ i hil]
    simp only [rf_Tables.l2, if_neg (show ¬ (k : Int) ≤ a0 by omega), stT_at _ _ i cur (show i ≤ (toSp l).length by omega), stT_len, toSp_len, hcur]
    rw [hd, mostL_cons] at hnext
    simp only [if_pos (show (0 : Int) ≤ (i : Int) by omega), if_pos (show (i : Int) < ((l.length + 1 : Nat) : Int) by omega), if_pos (show (0 : Int) ≤ (w : Int) by omega), if_pos (show (w : Int) < ((a4.toNat + 1 : Nat) : Int) by omega), wi w (by omega), Int.toNat_natCast, stT_set _ _ i cur _ (show i ≤ (toSp l).length by omega)]
    rw [show k = (a0 + 1).toNat by omega]
    exact hnext
  | d + 1, k, h => by
    refine Ev.up ?_
    have hil : i < (toSp l).length := by rw [toSp_len]; exact hi
    obtain ⟨he, hle⟩ := after_eq a0 a1 a2 a3 a4 a5 a6 l hH hT hho hl hf i hi (w : Int) (by omega) k (by omega)
    have hb := mostL_bd ⟨a0, a1, a2, a3, a4, a5, a6⟩ hH ((toSp l).drop (i + 1)) (afterW ⟨a0, a1, a2, a3, a4, a5, a6⟩ (rdS (toSp l) i) (w : Int) k)
    have hdl : ((toSp l).drop (i + 1)).length ≤ 100 := by rw [List.length_drop, toSp_len]; omega
    have ih := Tables_l2 i hi w hw cur hcur r hnext d (k + 1) (by omega)
    rw [bst_succ] at ih
    simp only [rf_Tables.l2, if_pos (show (k : Int) ≤ a0 by omega), if_pos (show (0 : Int) ≤ (i : Int) by omega), if_pos (show (i : Int) < (l.length : Int) by omega), he, wi i (by omega), wi k (by omega)]
    by_cases h0 : 0 ≤ afterW ⟨a0, a1, a2, a3, a4, a5, a6⟩ (rdS (toSp l) i) (w : Int) k
    · rw [if_pos h0] at ih
      simp only [if_pos (show afterW ⟨a0, a1, a2, a3, a4, a5, a6⟩ (rdS (toSp l) i) (w : Int) k ≥ 0 from h0), if_pos h0, stT_len, toSp_len, if_pos (show (0 : Int) ≤ ((i + 1 : Nat) : Int) by omega), if_pos (show ((i + 1 : Nat) : Int) < ((l.length + 1 : Nat) : Int) by omega), stT_next _ _ i cur hil, rowT_len]
      rw [rowT_at _ _ _ h0 (by exact hle), wr (x := (k : Int) + _) (by omega)]
      have hlt : afterW ⟨a0, a1, a2, a3, a4, a5, a6⟩ (rdS (toSp l) i) (w : Int) k < ((a4.toNat + 1 : Nat) : Int) := by omega
      simp only [if_pos hlt]
      have em : ∀ x y : Int, mx x y = max x y := by intro x y; unfold mx; omega
      rw [em]
      exact ih
    · rw [if_neg h0] at ih
      simp only [if_neg (show ¬ afterW ⟨a0, a1, a2, a3, a4, a5, a6⟩ (rdS (toSp l) i) (w : Int) k ≥ 0 from h0)]
      exact ih
theorem Tables_l1 (i : Nat) (hi : i < l.length) (r : List (List Int))
    (hnext : Ev (fun K => rf_Tables.l0 K l (stT ⟨a0, a1, a2, a3, a4, a5, a6⟩ (toSp l) i (rowT ⟨a0, a1, a2, a3, a4, a5, a6⟩ ((toSp l).drop i))) ((i : Int) - 1) a0 a1 a2 a3 a4 a5 a6) r) :
    ∀ (d w : Nat), w + d = a4.toNat + 1 → Ev (fun K => rf_Tables.l1 K l (stT ⟨a0, a1, a2, a3, a4, a5, a6⟩ (toSp l) i (curT ⟨a0, a1, a2, a3, a4, a5, a6⟩ ((toSp l).drop i) w)) (i : Int) (w : Int) a0 a1 a2 a3 a4 a5 a6) r
  | 0, w, h => by
    refine Ev.up ?_
    simp only [rf_Tables.l1, if_neg (show ¬ (w : Int) ≤ a4 by omega)]
    refine Ev.up ?_
    simp only [rf_Tables.j2, Bool.false_eq_true, if_false]
    rw [wr (by omega), show w = a4.toNat + 1 by omega]
    have := curT_full ⟨a0, a1, a2, a3, a4, a5, a6⟩ ((toSp l).drop i)
    rw [this]
    exact hnext
  | d + 1, w, h => by
    refine Ev.up ?_
    simp only [rf_Tables.l1, if_pos (show (w : Int) ≤ a4 by omega), decide_eq_true (show (i : Int) < (l.length : Int) by omega)]
    refine Ev.up ?_
    simp only [rf_Tables.j2, if_true]
    have ih := Tables_l1 i hi r hnext d (w + 1) (by omega)
    have hset := curT_set ⟨a0, a1, a2, a3, a4, a5, a6⟩ ((toSp l).drop i) w (by show w ≤ a4.toNat; omega)
    have := Tables_l2 a0 a1 a2 a3 a4 a5 a6 l hH hT hho hl hf i hi w (by omega) (curT ⟨a0, a1, a2, a3, a4, a5, a6⟩ ((toSp l).drop i) w) (curT_len _ _ _) r (by rw [hset]; exact ih) (a0.toNat + 1) 0 (by omega)
    simpa [bst] using this
theorem Tables_l0 : ∀ (i : Nat), i ≤ l.length → Ev (fun K => rf_Tables.l0 K l (stT ⟨a0, a1, a2, a3, a4, a5, a6⟩ (toSp l) i []) (i : Int) a0 a1 a2 a3 a4 a5 a6) (tabT ⟨a0, a1, a2, a3, a4, a5, a6⟩ (toSp l))
  | i, hi => by
    refine Ev.up ?_
    have hw : wrap64 (a4 + 1) = ((a4.toNat + 1 : Nat) : Int) := by rw [wr (by omega)]; omega
    simp only [rf_Tables.l0, if_pos (show (i : Int) ≥ 0 by omega), hw, if_pos (show (0 : Int) ≤ ((a4.toNat + 1 : Nat) : Int) by omega), Int.toNat_natCast, if_pos (show a4.toNat + 1 ≤ 35184372088832 by omega), if_pos (show (0 : Int) ≤ (i : Int) by omega), stT_len, toSp_len, if_pos (show (i : Int) < ((l.length + 1 : Nat) : Int) by omega), stT_set _ _ i [] _ (show i ≤ (toSp l).length by rw [toSp_len]; exact hi)]
    have hdone : Ev (fun K => rf_Tables.l0 K l (stT ⟨a0, a1, a2, a3, a4, a5, a6⟩ (toSp l) i (rowT ⟨a0, a1, a2, a3, a4, a5, a6⟩ ((toSp l).drop i))) ((i : Int) - 1) a0 a1 a2 a3 a4 a5 a6) (tabT ⟨a0, a1, a2, a3, a4, a5, a6⟩ (toSp l)) := by
      match i, hi with
      | 0, hi =>
        refine Ev.up ?_
        rw [List.drop_zero, stT_zero]
        have hneg : ¬ (((0 : Nat) : Int) - 1) ≥ 0 := by omega
        simp only [rf_Tables.l0, if_neg hneg]
        exact Ev.now _
      | i + 1, hi =>
        rw [stT_down, show ((i + 1 : Nat) : Int) - 1 = (i : Int) by omega]
        exact Tables_l0 i (by omega)
    by_cases hlt : i < l.length
    · have := Tables_l1 a0 a1 a2 a3 a4 a5 a6 l hH hT hho hl hf i hlt _ hdone (a4.toNat + 1) 0 (by omega)
      rw [curT_zero] at this
      exact this
    · have hil : i = l.length := by omega
      refine Ev.up ?_
      have e : (toSp l).drop i = [] := List.drop_eq_nil_of_le (by rw [toSp_len]; omega)
      rw [e, rowT_nil] at hdone
      simp only [rf_Tables.l1, if_pos (show (0 : Int) ≤ a4 by omega), decide_eq_false (show ¬ (i : Int) < (l.length : Int) by omega)]
      refine Ev.up ?_
      simp only [rf_Tables.j2, Bool.false_eq_true, if_false]
      rw [wr (by omega)]
      exact hdone
theorem Tables_f : Ev (fun K => rf_Tables.f K a0 a1 a2 a3 a4 a5 a6 l) (tabT ⟨a0, a1, a2, a3, a4, a5, a6⟩ (toSp l)) := by
  have h := Tables_l0 a0 a1 a2 a3 a4 a5 a6 l hH hT hho hl hf l.length (Nat.le_refl _)
  have hs := stT_start ⟨a0, a1, a2, a3, a4, a5, a6⟩ (toSp l)
  rw [toSp_len] at hs
  rw [hs] at h
  unfold rf_Tables.f
  rw [wi l.length (by omega)]
  simp only [if_pos (show (0 : Int) ≤ ((l.length + 1 : Nat) : Int) by omega), Int.toNat_natCast, if_pos (show l.length + 1 ≤ 11728124029610 by omega)]
  exact h
end
end Go.Proofs.Ytcnlbbmokphjnaa.Q
namespace Go.Proofs.Ytcnlbbmokphjnaa
open Go.RowKit Go.Shelf Go.Proofs.YtcnlbbmokphjnaaW.PrintWords
set_option linter.unusedVariables false
set_option linter.unusedSimpArgs false
theorem ofSp_C {w : World} {A : Option Addr} {n : Nat} {l : List Sp} (h : Kd.C kSp w A n l) : Kd.C Q.k23 w A (Q.ofSp l).length (Q.ofSp l) := by
  obtain ⟨h1, h2, h3⟩ := h
  refine ⟨rfl, by rw [Q.ofSp_len]; omega, fun hp => ?_⟩
  rw [Q.ofSp_len] at hp
  obtain ⟨ad, hA, hc⟩ := h3 (by omega)
  refine ⟨ad, hA, fun j p hj => ?_⟩
  rw [Q.ofSp, List.getElem?_map, Option.map_eq_some_iff] at hj
  obtain ⟨x, hx, rfl⟩ := hj
  obtain ⟨c, hcl, hk, hcc⟩ := hc j x hx
  exact ⟨c, hcl, hk, hcc⟩
structure TabOk (m : Mill) (l : List Sp) : Prop where
  H : 0 ≤ m.H ∧ m.H ≤ 8
  T : 0 ≤ m.T ∧ m.T ≤ 100
  ho : 0 ≤ m.ho ∧ m.ho ≤ 500
  now : 0 ≤ m.nl ∧ m.nl ≤ m.ho
  len : l.length ≤ 100
  flow : ∀ s ∈ l, 0 ≤ s.lo ∧ s.lo ≤ 2000
theorem TabOk.take {m l} (h : TabOk m l) (n : Nat) : TabOk m (l.take n) := ⟨h.H, h.T, h.ho, h.now, by rw [List.length_take]; have := h.len; omega, fun s hs => h.flow s (List.mem_of_mem_take hs)⟩
theorem tables_ (m : Mill) (A : Option Addr) (c n : Nat) (l : List Sp) (hv : TabOk m l) (hn : l.length = n) (w : World) (hr : Kd.C kSp w A n l) (hc : n ≤ c) :
    Calls Try.prog 77 #[.agg #[.int .i64 m.H, .int .i64 m.T, .int .i64 m.bl, .int .i64 m.bh, .int .i64 m.ho, .int .i64 m.nl, .int .i64 m.nh], .slice A n c] w fun e w' => ∃ A' c', e = .returned (.slice A' (n + 1) c') ∧ Kd.C (Kd.slice 3 (Kd.int .i64)) w' A' (n + 1) (Q.tabT m l) ∧ Up w w' := by
  subst hn
  have e2 : Q.toSp (Q.ofSp l) = l := by simp [Q.toSp, Q.ofSp, Function.comp_def]
  obtain ⟨K, hK⟩ := (Q.Tables_f m.H m.T m.bl m.bh m.ho m.nl m.nh (Q.ofSp l) hv.H hv.T hv.ho (by rw [Q.ofSp_len]; exact hv.len) (by rw [e2]; exact hv.flow)).rounds
  rw [e2] at hK
  have H := Q.rf_Tables.calls K m.H m.T m.bl m.bh m.ho m.nl m.nh A c (Q.ofSp l) _ w (ofSp_C hr) (by rw [Q.ofSp_len]; exact hc) hK
  rw [Q.ofSp_len] at H
  refine H.mono ?_
  rintro e w' ⟨v, rfl, hS, hb⟩
  obtain ⟨A', c', hv', hle, hC⟩ := Kd.R_reads (Kd.S_R hS)
  have hl : (Q.tabT m l).length = l.length + 1 := by simp [Q.tabT]
  have hS' : Q.tabT ⟨m.H, m.T, m.bl, m.bh, m.ho, m.nl, m.nh⟩ l = Q.tabT m l := rfl
  rw [hS', hl] at hv' hC
  exact ⟨A', c', by rw [hv'], hC, hb⟩
theorem rowT_at' (m : Mill) (l : List Sp) (hv : TabOk m l) : Q.rd_L1 (Q.tabT m l) 0 = Q.rowT m l ∧ (Q.rowT m l).length = m.ho.toNat + 1 ∧ rd (Q.rowT m l) m.nl = mostL m l m.nl := by
  refine ⟨?_, Q.rowT_len m l, Q.rowT_at m l m.nl hv.now.1 hv.now.2⟩
  simp [Q.rd_L1, Q.tabT]
set_option maxRecDepth 100000 in
set_option maxHeartbeats 2000000 in
theorem rDone (m : Mill) (A : Option Addr) (c : Nat) (l : List Sp) (work : Int) (hv : TabOk m l) (w : World) (hr : Kd.C kSp w A l.length l) (hc : l.length ≤ c) :
    Calls Try.prog 35 #[.agg #[.int .i64 m.H, .int .i64 m.T, .int .i64 m.bl, .int .i64 m.bh, .int .i64 m.ho, .int .i64 m.nl, .int .i64 m.nh], .slice A l.length c, .int .i64 work] w fun e w' => e = .returned (.int .i64 (doneF m l work)) ∧ Up w w' := by
  have HR := Aside0.mk hr
  have hml := CF_len hr
  have HV := Aside0.mk hv
  have hlen := hv.len
  clear hr hv
  have hu := Try.underlying25
  go_enter Try.func35, Try.ntmps35
  go_wp2
  go_loopw [7] (fun i wr => ∃ n : Nat, n ≤ l.length + 1 ∧ i = .int .i64 n ∧ Aside0 (fstN (fun n => decide (mostL m (l.take n) m.nl ≥ work)) (l.length + 1 - n) n = doneF m l work) ∧ Aside0 (Up (w.alloc (.cells #[.int .i64 m.H, .int .i64 m.T, .int .i64 m.bl, .int .i64 m.bh, .int .i64 m.ho, .int .i64 m.nl, .int .i64 m.nh] 25)) wr)) (fun i _ => l.length + 1 - (intOf i).toNat)
  case atStart => exact ⟨0, Nat.zero_le _, rfl, ⟨rfl⟩, ⟨Up.refl _⟩⟩
  case round =>
    obtain ⟨n, hn, rfl, he, hu2⟩ := hrel
    have HUW : Aside0 (Up w wr) := ⟨((Up.refl w).alloc (.cells #[.int .i64 m.H, .int .i64 m.T, .int .i64 m.bl, .int .i64 m.bh, .int .i64 m.ho, .int .i64 m.nl, .int .i64 m.nh] 25)).then hu2.out⟩
    have hm0 : wr.cell? ⟨w.heap.size, 0, none⟩ = some (.int .i64 m.H) := hu2.out.cell (by simp)
    have hm1 : wr.cell? ⟨w.heap.size, 1, none⟩ = some (.int .i64 m.T) := hu2.out.cell (by simp)
    have hm2 : wr.cell? ⟨w.heap.size, 2, none⟩ = some (.int .i64 m.bl) := hu2.out.cell (by simp)
    have hm3 : wr.cell? ⟨w.heap.size, 3, none⟩ = some (.int .i64 m.bh) := hu2.out.cell (by simp)
    have hm4 : wr.cell? ⟨w.heap.size, 4, none⟩ = some (.int .i64 m.ho) := hu2.out.cell (by simp)
    have hm5 : wr.cell? ⟨w.heap.size, 5, none⟩ = some (.int .i64 m.nl) := hu2.out.cell (by simp)
    have hm6 : wr.cell? ⟨w.heap.size, 6, none⟩ = some (.int .i64 m.nh) := hu2.out.cell (by simp)
    have hwz : w.heap.size < wr.heap.size := by have := hu2.out.le; simp at this; omega
    by_cases hlt : n ≤ l.length
    · have hnc : (n : Int) ≤ (c : Int) := by omega
      have hn0 : (0 : Int) ≤ (n : Int) := by omega
      have hnl : (n : Int) ≤ (l.length : Int) := by omega
      have hnl2 := HV.out.now
      have hho := HV.out.ho
      have htl : (l.take n).length = n := by rw [List.length_take]; omega
      have hcall : ∀ W, Up wr W → Calls Try.prog 77 #[.agg #[.int .i64 m.H, .int .i64 m.T, .int .i64 m.bl, .int .i64 m.bh, .int .i64 m.ho, .int .i64 m.nl, .int .i64 m.nh], .slice A n c] W fun e W' => ∃ ad A0 c0 ad2 c', e = .returned (.slice (some ad) (n + 1) c') ∧ W'.cell? ad = some (.slice (some ad2) (m.ho.toNat + 1) c0) ∧ W'.cell? (ad2.add m.nl.toNat) = some (.int .i64 (mostL m (l.take n) m.nl)) ∧ A0 = some ad2 ∧ Up W W' := by
        intro W hW
        refine (tables_ m A c n (l.take n) (HV.out.take n) htl W (by have := CF_take n hlt (C_up HR.out (HUW.out.then hW)); rwa [htl] at this) (by omega)).mono ?_
        rintro e W' ⟨A', c', rfl, hC, hb⟩
        obtain ⟨r1, r2, r3⟩ := rowT_at' m (l.take n) (HV.out.take n)
        obtain ⟨ad, A0, c0, rfl, hx, hc0, hC0⟩ := Q.at_L1 hC 0 (by omega) (by omega)
        rw [r1, r2] at hx hC0
        obtain ⟨ad2, rfl, hx2⟩ := Kd.at_int hC0 m.nl hnl2.1 (by omega)
        rw [r3] at hx2
        exact ⟨ad, _, c0, ad2, c', rfl, by simpa [Addr.add] using hx, hx2, rfl, hb⟩
      have HCALL := Aside0.mk hcall
      clear hcall htl
      have hstep : fstN (fun n => decide (mostL m (l.take n) m.nl ≥ work)) (l.length + 1 - n) n = if decide (work ≤ mostL m (l.take n) m.nl) = true then (n : Int) else fstN (fun n => decide (mostL m (l.take n) m.nl ≥ work)) (l.length + 1 - (n + 1)) (n + 1) := by
        rw [show l.length + 1 - n = (l.length + 1 - (n + 1)) + 1 by omega]
        rfl
      cases hp : decide (work ≤ mostL m (l.take n) m.nl)
      all_goals
        rw [hp] at hstep
        have HE := Aside0.mk (hstep.symm.trans he.out)
        clear hstep
        go_wp2_with fail
        go_region_with (first | (go_at_call 77; (with_reducible refine (HCALL.out _ upA).mono ?_); rintro e w' ⟨ad, A0, c0, ad2, c', rfl, hx1, hx2, _, hb⟩; have hbA := Aside0.mk hb; obtain ⟨hcA, hfA⟩ := hb.old; have hz := hb.le; (try simp at hz); have hm5' : w'.cell? ⟨w.heap.size, 5, none⟩ = some (.int .i64 m.nl) := (hcA _ _ (by (try simp); omega)).trans (by simpa using hm5); clear hb) | fail)
        go_wp2_with fail
      all_goals
        first
        | (go_ret
           exact ⟨ret_int (by simpa using HE.out), HUW.out.then upA⟩)
        | (go_roundw
           case rel => exact ⟨n + 1, by omega, by go_num, ⟨by simpa using HE.out⟩, ⟨hu2.out.then upA⟩⟩
           case measure => simp [intOf]; omega)
    · obtain rfl : n = l.length + 1 := by omega
      have HE := Aside0.mk he.out
      go_wp2_with fail
      go_ret
      exact ⟨ret_int (by rw [← HE.out]; simp [fstN]), HUW.out⟩
end Go.Proofs.Ytcnlbbmokphjnaa
namespace Go.Proofs.Ytcnlbbmokphjnaa
open Go.RowKit Go.Shelf Go.Proofs.YtcnlbbmokphjnaaW.PrintWords
set_option linter.unusedVariables false
set_option linter.unusedSimpArgs false
attribute [local go_sem] bi_max2 bi_min2 bi_max_two bi_min_two
theorem bst_ge (m : Mill) (s : Sp) (ss : List Sp) (w : Int) : ∀ (n k : Nat), k < n → 0 ≤ afterW m s w k → (k : Int) + mostL m ss (afterW m s w k) ≤ bst m s ss w n
  | 0, k, h, _ => by omega
  | n + 1, k, h, h0 => by
    rw [bst_succ]
    by_cases e : k = n
    · subst e
      rw [if_pos h0]
      omega
    · have := bst_ge m s ss w n k (by omega) h0
      split <;> omega
theorem mostL_ge (m : Mill) (s : Sp) (ss : List Sp) (w : Int) (k : Nat) (hk : (k : Int) ≤ m.H) (h0 : 0 ≤ afterW m s w k) : (k : Int) + mostL m ss (afterW m s w k) ≤ mostL m (s :: ss) w := by
  rw [mostL_cons]
  exact bst_ge m s ss w _ k (by omega) h0
theorem tab_cells {m : Mill} {l : List Sp} (hv : TabOk m l) {w : World} {A : Option Addr} {n : Nat} (hn : n = l.length + 1) (hC : Kd.C (Kd.slice 3 (Kd.int .i64)) w A n (Q.tabT m l)) (i : Nat) (hi : i ≤ l.length) (x : Int) (hx0 : 0 ≤ x) (hx1 : x ≤ m.ho) :
    ∃ ad ad2 c0, A = some ad ∧ w.cell? (ad.add i) = some (.slice (some ad2) (m.ho.toNat + 1) c0) ∧ w.cell? (ad2.add x.toNat) = some (.int .i64 (mostL m (l.drop i) x)) := by
  subst hn
  obtain ⟨ad, A0, c0, rfl, hx, hc0, hC0⟩ := Q.at_L1 hC i (by omega) (by omega)
  have hho := hv.ho
  have e : Q.rd_L1 (Q.tabT m l) i = Q.rowT m (l.drop i) := by
    have h : i < (Q.tabT m l).length := by simp [Q.tabT]; omega
    simp only [Q.rd_L1, Int.toNat_natCast, List.getD_eq_getElem?_getD, List.getElem?_eq_getElem h, Option.getD_some]
    simp [Q.tabT]
  rw [e, Q.rowT_len] at hx hC0
  simp only [Int.toNat_natCast] at hx
  obtain ⟨ad2, rfl, hx2⟩ := Kd.at_int hC0 x hx0 (by omega)
  rw [Q.rowT_at m _ x hx0 hx1] at hx2
  exact ⟨ad, ad2, c0, rfl, hx, hx2⟩
theorem tables_R (m : Mill) (A : Option Addr) (c : Nat) (l : List Sp) (hv : TabOk m l) (w : World) (hr : Kd.C kSp w A l.length l) (hc : l.length ≤ c) :
    Calls Try.prog 77 #[.agg #[.int .i64 m.H, .int .i64 m.T, .int .i64 m.bl, .int .i64 m.bh, .int .i64 m.ho, .int .i64 m.nl, .int .i64 m.nh], .slice A l.length c] w fun e w' => ∃ A' c', e = .returned (.slice A' (l.length + 1) c') ∧ l.length + 1 ≤ c' ∧ Kd.R (Kd.slice 3 (Kd.int .i64)) 27 w' w.heap.size (fun _ => True) (.slice A' (l.length + 1) c') (Q.tabT m l) ∧ Up w w' := by
  have e2 : Q.toSp (Q.ofSp l) = l := by simp [Q.toSp, Q.ofSp, Function.comp_def]
  obtain ⟨K, hK⟩ := (Q.Tables_f m.H m.T m.bl m.bh m.ho m.nl m.nh (Q.ofSp l) hv.H hv.T hv.ho (by rw [Q.ofSp_len]; exact hv.len) (by rw [e2]; exact hv.flow)).rounds
  rw [e2] at hK
  have H := Q.rf_Tables.calls K m.H m.T m.bl m.bh m.ho m.nl m.nh A c (Q.ofSp l) _ w (ofSp_C hr) (by rw [Q.ofSp_len]; exact hc) hK
  rw [Q.ofSp_len] at H
  refine H.mono ?_
  rintro e w' ⟨v, rfl, hS, hb⟩
  have hR := Kd.S_R hS
  obtain ⟨A', c', hv', hle, hC⟩ := Kd.R_reads hR
  have hl : (Q.tabT m l).length = l.length + 1 := by simp [Q.tabT]
  have hS' : Q.tabT ⟨m.H, m.T, m.bl, m.bh, m.ho, m.nl, m.nh⟩ l = Q.tabT m l := rfl
  rw [hS', hl] at hv' hle
  rw [hS', hv'] at hR
  exact ⟨A', c', by rw [hv'], hle, hR, hb⟩
abbrev TabR (m : Mill) (l : List Sp) (base : Nat) (v6 : Value) (AT : Option Addr) (cT : Nat) (W : World) : Prop := Kd.R (Kd.slice 3 (Kd.int .i64)) 27 W base (fun k => True ∧ some k ≠ v6.ownBlock) (.slice AT (l.length + 1) cT) (Q.tabT m l)
theorem TabR.C {m l base v6 AT cT W} (h : TabR m l base v6 AT cT W) : Kd.C (Kd.slice 3 (Kd.int .i64)) W AT (l.length + 1) (Q.tabT m l) := by
  obtain ⟨A', c', hv', _, hC⟩ := Kd.R_reads h
  have hl : (Q.tabT m l).length = l.length + 1 := by simp [Q.tabT]
  rw [hl] at hv' hC
  cases hv'
  exact hC
set_option maxRecDepth 100000 in
set_option maxHeartbeats 4000000 in
theorem rMost (m : Mill) (A : Option Addr) (c : Nat) (l : List Sp) (hv : TabOk m l) (w : World) (hr : Kd.C kSp w A l.length l) (hc : l.length ≤ c) :
    Calls Try.prog 33 #[.agg #[.int .i64 m.H, .int .i64 m.T, .int .i64 m.bl, .int .i64 m.bh, .int .i64 m.ho, .int .i64 m.nl, .int .i64 m.nh], .slice A l.length c] w fun e w' => ∃ v, e = .returned v ∧ w'.ownsRow w.heap.size 3 1 v (mostPlan m l m.nl).length (nums .i64 (mostPlan m l m.nl)) ∧ Up w w' := by
  have HR := Aside0.mk hr
  have hml := CF_len hr
  have HV := Aside0.mk hv
  have hlen := hv.len
  have hnow := hv.now
  have hho := hv.ho
  have hTT := hv.T
  have hHH := hv.H
  clear hr hv
  have hu := Try.underlying25
  have hu2 := Try.underlying23
  go_enter Try.func33, Try.ntmps33
  go_wp2
  go_region_held3 (fun W => W.cell? ⟨w.heap.size, 0, none⟩ = some (.int .i64 m.H) ∧ W.cell? ⟨w.heap.size, 1, none⟩ = some (.int .i64 m.T) ∧ W.cell? ⟨w.heap.size, 2, none⟩ = some (.int .i64 m.bl) ∧ W.cell? ⟨w.heap.size, 3, none⟩ = some (.int .i64 m.bh) ∧ W.cell? ⟨w.heap.size, 4, none⟩ = some (.int .i64 m.ho) ∧ W.cell? ⟨w.heap.size, 5, none⟩ = some (.int .i64 m.nl) ∧ W.cell? ⟨w.heap.size, 6, none⟩ = some (.int .i64 m.nh)) (first | go_keep | (simp; done) | (go_split_ands; (repeat' (with_reducible apply And.intro)) <;> (first | assumption | ((refine (hcA _ _ (by (try simp); omega)).trans ?_); (first | assumption | (simp; assumption)))))) (first | (go_at_call 77; (with_reducible refine (tables_R m A c l HV.out _ (C_up HR.out upA) hc).mono ?_); rintro e w' ⟨AT, cT, rfl, hcT, hCT, hb⟩; have hbA := Aside0.mk hb; have HT := Aside0.mk hCT; obtain ⟨hcA, hfA⟩ := hb.old; have hz := hb.le; (try simp at hz); have hz0 : w.heap.size < w'.heap.size := (by omega); clear hb hCT) | fail)
  all_goals
    clear hcA hfA
    go_wp2_with fail
    go_loopw [6, 7, 8] (fun v6 v7 v8 wr => ∃ (i : Nat) (water : Int) (P : List Int), i ≤ l.length ∧ 0 ≤ water ∧ water ≤ m.ho ∧ v7 = .int .i64 water ∧ v8 = .int .i64 (i : Int) ∧ P.length = i ∧ Aside0 (P ++ mostPlan m (l.drop i) water = mostPlan m l m.nl) ∧ Aside0 (wr.ownsRow (w.heap.size + 1) 3 1 v6 P.length (nums .i64 P)) ∧ Aside0 (Up (w.alloc (.cells #[.int .i64 m.H, .int .i64 m.T, .int .i64 m.bl, .int .i64 m.bh, .int .i64 m.ho, .int .i64 m.nl, .int .i64 m.nh] 25)) wr) ∧ Aside0 (TabR m l (w.heap.size + 1) v6 AT cT wr)) (fun _ _ v8 _ => l.length - (intOf v8).toNat)
    case atStart =>
      refine ⟨0, m.nl, [], Nat.zero_le _, hnow.1, hnow.2, rfl, rfl, rfl, ⟨by simp⟩, ?_, ⟨upA⟩, ?_⟩
      · first
        | exact ⟨World.ownsRow_made _ #[] 0 (by first | omega | (simp; done) | (simp; omega)) (Nat.zero_le _) rfl⟩
        | (have hq := own_up (World.ownsRow_made (base := w.heap.size + 1) (w.alloc (.cells #[.int .i64 m.H, .int .i64 m.T, .int .i64 m.bl, .int .i64 m.bh, .int .i64 m.ho, .int .i64 m.nl, .int .i64 m.nh] 25)) #[] (e := 3) (size := 1) 0 (by simp) (Nat.zero_le _) rfl) (((Up.refl _).drew).then hbA.out); exact ⟨by simpa [nums] using hq⟩)
      · exact ⟨Kd.R_lower (Kd.R_below (Kd.R_mono (Kd.R_bound HT.out) (fun k hk => ⟨trivial, by have q1 := hk.2.1; have q2 := hk.2.2.1; simp [Value.ownBlock]; first | omega | (simp at q1; omega)⟩)) upA) (by first | omega | (simp; done) | (simp; omega))⟩
    case round =>
      obtain ⟨i, water, P, hi, hw0, hw1, rfl, rfl, hPl, HP, HOW, HU, HT2⟩ := hrel
      by_cases hlt : i < l.length
      · have hdrop : l.drop i = rdS l i :: l.drop (i + 1) := by rw [List.drop_eq_getElem_cons hlt, rdS_nat l i hlt]
        obtain ⟨hf1, hf2⟩ := HV.out.flow (rdS l i) (by rw [rdS_nat l i hlt]; exact List.getElem_mem _)
        have hpk := pick_spec m hTT.1 hHH (rdS l i) (l.drop (i + 1)) water (by simp only [afterW]; omega)
        have hPK := Aside0.mk hpk
        have hPe : P ++ mostPlan m (l.drop i) water = P ++ ((pick m (rdS l i) (l.drop (i + 1)) water : Int) :: mostPlan m (l.drop (i + 1)) (afterW m (rdS l i) water (pick m (rdS l i) (l.drop (i + 1)) water))) := by rw [hdrop]; rfl
        have HPN := Aside0.mk (hPe.symm.trans HP.out)
        have hpH := hpk.2.1
        have HD := Aside0.mk hdrop
        clear hPe hpk hdrop HP
        generalize hp0 : pick m (rdS l i) (l.drop (i + 1)) water = p at *
        have hi0 : (0 : Int) ≤ (i : Int) := by omega
        have hi1 : (i : Int) < (l.length : Int) := by omega
        have hwr : IntKind.i64.wrap (water + (rdS l i).lo) = water + (rdS l i).lo := IntWalk.i64_in _ (by omega)
        have hwri : IntKind.i64.wrap ((i : Int) + 1) = (i : Int) + 1 := IntWalk.i64_in _ (by omega)
        have HML : ∀ L : List Sp, L.length ≤ 100 → ∀ x, 0 ≤ mostL m L x ∧ mostL m L x ≤ 800 := fun L hL x => by have := mostL_bd m hHH L x; omega
        go_wp2_with fail
        obtain ⟨v6, hv6⟩ : ∃ v, v = u6 := ⟨_, rfl⟩
        rw [← hv6] at HOW HT2
        go_loopw [6, 7, 9] (fun z6 z7 z9 wi => ∃ k : Nat, k ≤ p ∧ z6 = v6 ∧ z7 = .int .i64 water ∧ z9 = .int .i64 (k : Int) ∧ Aside0 (wi.ownsRow (w.heap.size + 1) 3 1 v6 P.length (nums .i64 P)) ∧ Aside0 (Up (w.alloc (.cells #[.int .i64 m.H, .int .i64 m.T, .int .i64 m.bl, .int .i64 m.bh, .int .i64 m.ho, .int .i64 m.nl, .int .i64 m.nh] 25)) wi) ∧ Aside0 (TabR m l (w.heap.size + 1) v6 AT cT wi)) (fun _ _ z9 _ => p + 1 - (intOf z9).toNat)
        case atStart => exact ⟨0, Nat.zero_le _, hv6.symm, rfl, rfl, HOW, HU, HT2⟩
        case round =>
          obtain ⟨k, hk, hu6, rfl, rfl, HOW, HU, HT2⟩ := hrel
          subst hu6
          have hm0 : wr.cell? ⟨w.heap.size, 0, none⟩ = some (.int .i64 m.H) := HU.out.cell (by simp)
          have hm1 : wr.cell? ⟨w.heap.size, 1, none⟩ = some (.int .i64 m.T) := HU.out.cell (by simp)
          have hm4 : wr.cell? ⟨w.heap.size, 4, none⟩ = some (.int .i64 m.ho) := HU.out.cell (by simp)
          obtain ⟨ad, e, hx0, hx1⟩ := at_Sp (C_up HR.out (((Up.refl w).alloc (.cells #[.int .i64 m.H, .int .i64 m.T, .int .i64 m.bl, .int .i64 m.bh, .int .i64 m.ho, .int .i64 m.nl, .int .i64 m.nh] 25)).then HU.out)) i (by omega) (by omega)
          subst e
          simp only [Int.toNat_natCast] at hx0 hx1
          have hkT : 0 ≤ (k : Int) * m.T := Int.mul_nonneg (by omega) hTT.1
          have hkT2 : (k : Int) * m.T ≤ 10 * 100 := Int.mul_le_mul (by omega) hTT.2 hTT.1 (by omega)
          have hwr2 : IntKind.i64.wrap ((k : Int) * m.T) = (k : Int) * m.T := IntWalk.i64_in _ (by omega)
          have hwr3 : IntKind.i64.wrap (min m.ho (water + (rdS l i).lo) - (k : Int) * m.T) = afterW m (rdS l i) water k := IntWalk.i64_in _ (by omega)
          have hle : afterW m (rdS l i) water k ≤ m.ho := by simp only [afterW]; omega
          have hkH : (k : Int) ≤ m.H := by omega
          go_wp2_with fail
          go_quiet (fail)
          clear hwr hwr2 hwr3 hm0 hm1 hm4 hx0 hx1
          obtain ⟨at1, at2, c0, hA1, hx2, hx3⟩ := tab_cells HV.out rfl HT2.out.C i (by omega) water hw0 hw1
          subst hA1
          have hML1 := HML (l.drop i) (by rw [List.length_drop]; omega) water
          have hML2 := HML (l.drop (i + 1)) (by rw [List.length_drop]; omega) (afterW m (rdS l i) water k)
          have hc0 : (0 : Int) ≤ (i : Int) + 1 := by omega
          have hc1 : (i : Int) + 1 < ((l.length + 1 : Nat) : Int) := by omega
          have hc2 : (i : Int) < ((l.length + 1 : Nat) : Int) := by omega
          have hc3 : water < ((m.ho.toNat + 1 : Nat) : Int) := by omega
          have hc4 : afterW m (rdS l i) water k < ((m.ho.toNat + 1 : Nat) : Int) := by omega
          have hti : ((i : Int) + 1).toNat = i + 1 := by omega
          have hwrk : IntKind.i64.wrap ((k : Int) + mostL m (l.drop (i + 1)) (afterW m (rdS l i) water k)) = (k : Int) + mostL m (l.drop (i + 1)) (afterW m (rdS l i) water k) := IntWalk.i64_in _ (by omega)
          have hwrk1 : IntKind.i64.wrap ((k : Int) + 1) = (k : Int) + 1 := IntWalk.i64_in _ (by omega)
          by_cases h0 : 0 ≤ afterW m (rdS l i) water k
          · have hg0 : afterW m (rdS l i) water k ≥ 0 := h0
            obtain ⟨at1', at3, c1, hA2, hx4, hx5⟩ := tab_cells HV.out rfl HT2.out.C (i + 1) (by omega) (afterW m (rdS l i) water k) h0 hle
            cases hA2
            have hx4' : wr.cell? ⟨at1.block, at1.off + (i + 1), none⟩ = some (.slice (some at3) (m.ho.toNat + 1) c1) := hx4
            have hge := mostL_ge m (rdS l i) (l.drop (i + 1)) water k hkH h0
            rw [← HD.out] at hge
            by_cases heq : (k : Int) + mostL m (l.drop (i + 1)) (afterW m (rdS l i) water k) = mostL m (l.drop i) water
            · have hkp : k = p := by
                have hj := hPK.out.2.2 k
                rcases Nat.lt_or_ge k p with h | h
                · have := hj h
                  simp only [okB, Bool.and_eq_false_iff, decide_eq_false_iff_not] at this
                  rw [← HD.out] at this
                  omega
                · omega
              have HKP := Aside0.mk hkp
              clear hg0 hkp
              go_wp2_with fail
              go_quiet (fail)
              have HU2 := HU
              go_wp2_with (first | (at_builtin; refine print_append_num (w0 := w.alloc (.cells #[.int .i64 m.H, .int .i64 m.T, .int .i64 m.bl, .int .i64 m.bh, .int .i64 m.ho, .int .i64 m.nl, .int .i64 m.nh] 25)) (w.heap.size + 1) rfl _ _ 27 3 .i64 8 rfl Try.underlying27 info_int (by decide) u6 P (k : Int) rfl rfl (own_up HOW.out upA) ?aB ?aS ?aL ?_; (case aB => rw [show w.heap.size + 1 = (w.alloc (.cells #[.int .i64 m.H, .int .i64 m.T, .int .i64 m.bl, .int .i64 m.bh, .int .i64 m.ho, .int .i64 m.nl, .int .i64 m.nh] 25)).heap.size from by simp]; exact HU.out.then upA); (case aS => have h := HU.out.le; simp at h; simp; omega); (case aL => omega); intro v1 w1 hown hB hgr hat; have HOW1 := Aside0.mk hown; have HB1 := Aside0.mk hB; have HT3 := Aside0.mk (Kd.R_after (Kd.R_below HT2.out upA) hgr hat); clear hown hB hgr hat))
              have HU1 : Aside0 (Up (w.alloc (.cells #[.int .i64 m.H, .int .i64 m.T, .int .i64 m.bl, .int .i64 m.bh, .int .i64 m.ho, .int .i64 m.nl, .int .i64 m.nh] 25)) w1) := ⟨by have h := HB1.out; simpa [Up] using h⟩
              go_roundw
              case rel => exact ⟨i + 1, afterW m (rdS l i) water k, P ++ [(k : Int)], by omega, h0, hle, rfl, by go_num, by simp; omega, ⟨by rw [List.append_assoc, List.singleton_append, ← HPN.out, HKP.out]⟩, HOW1, HU1, HT3⟩
              case measure => simp [intOf]; omega
            · have hkp : k < p := by
                rcases Nat.lt_or_ge k p with h | h
                · exact h
                · have hok := hPK.out.1
                  rw [← show k = p by omega] at hok
                  simp only [okB, Bool.and_eq_true, decide_eq_true_eq] at hok
                  rw [← HD.out] at hok
                  omega
              clear hg0
              go_wp2_with fail
              go_quiet (fail)
              go_wp2_with fail
              go_wp2_with fail
              go_roundw
              case rel => exact ⟨k + 1, by omega, by first | rfl | exact hv6 | exact hv6.symm | (simp [*]; done), rfl, by go_num, ⟨own_up HOW.out upA⟩, ⟨HU.out.then upA⟩, ⟨Kd.R_below HT2.out upA⟩⟩
              case measure => simp [intOf]; omega
          · have hkp : k < p := by
              rcases Nat.lt_or_ge k p with h | h
              · exact h
              · have hok := hPK.out.1
                rw [← show k = p by omega] at hok
                simp only [okB, Bool.and_eq_true, decide_eq_true_eq] at hok
                omega
            have hd0 : decide (0 ≤ afterW m (rdS l i) water k) = false := decide_eq_false h0
            have hd1 : decide (afterW m (rdS l i) water k ≥ 0) = false := decide_eq_false h0
            go_wp2_with fail
            go_quiet (fail)
            go_wp2_with fail
            go_roundw
            case rel => exact ⟨k + 1, by omega, by first | rfl | exact hv6 | exact hv6.symm | (simp [*]; done), rfl, by go_num, ⟨own_up HOW.out upA⟩, ⟨HU.out.then upA⟩, ⟨Kd.R_below HT2.out upA⟩⟩
            case measure => simp [intOf]; omega
      · obtain rfl : i = l.length := by omega
        go_wp2_with fail
        go_ret
        have hPe : P = mostPlan m l m.nl := by
          have := HP.out
          rw [List.drop_length] at this
          simpa only [mostPlan, List.append_nil] using this
        exact ⟨u6, rfl, by rw [← hPe]; exact own_weaken HOW.out (by omega), ((Up.refl w).alloc (.cells #[.int .i64 m.H, .int .i64 m.T, .int .i64 m.bl, .int .i64 m.bh, .int .i64 m.ho, .int .i64 m.nl, .int .i64 m.nh] 25)).then HU.out⟩
end Go.Proofs.Ytcnlbbmokphjnaa
namespace Go.Proofs.Ytcnlbbmokphjnaa.Q
open Go.RowKit Go.Proofs.YtcnlbbmokphjnaaW.PrintWords Go.Proofs.YtcnlbbmokphjnaaW.PrintLast Go.Proofs.YtcnlbbmokphjnaaW.PrintMore
attribute [local go_sem] max2_int min2_int max_two min_two max_three min_three max_four min_four   -- for this text's walks alone
set_option linter.unusedVariables false
set_option linter.unusedSimpArgs false
def stream_Most.f (a0_0 : Int) (a0_1 : Int) (a0_2 : Int) (a0_3 : Int) (a0_4 : Int) (a0_5 : Int) (a0_6 : Int) (l1 : List (S23)) : Option (List Int × Int) := some (mostS ⟨a0_0, a0_1, a0_2, a0_3, a0_4, a0_5, a0_6⟩ (toSp l1), checkE ⟨a0_0, a0_1, a0_2, a0_3, a0_4, a0_5, a0_6⟩ (toSp l1))
theorem stream_Most.calls (a0_0 : Int) (a0_1 : Int) (a0_2 : Int) (a0_3 : Int) (a0_4 : Int) (a0_5 : Int) (a0_6 : Int) (A1 : Option Addr) (c1 : Nat) (l1 : List (S23)) (r1 : List Int) (r2 : Int) (w : World) (hr1 : Kd.C k23 w A1 l1.length l1) (hc1 : l1.length ≤ c1) (h : stream_Most.f a0_0 a0_1 a0_2 a0_3 a0_4 a0_5 a0_6 l1 = some (r1, r2)) :
    Calls Try.prog 31 #[.agg #[.int .i64 a0_0, .int .i64 a0_1, .int .i64 a0_2, .int .i64 a0_3, .int .i64 a0_4, .int .i64 a0_5, .int .i64 a0_6], .slice A1 l1.length c1] w fun e w' => ∃ v0_ : Value, e = .returned (.tuple #[v0_, .int .i64 r2]) ∧ Kd.R (Kd.int .i64) 3 w' w.heap.size (fun _ => True) v0_ r1 ∧ Below w.heap.size w w' := by
  simp only [stream_Most.f, Option.some.injEq, Prod.mk.injEq] at h
  obtain ⟨rfl, rfl⟩ := h
  have H := mostF_ ⟨a0_0, a0_1, a0_2, a0_3, a0_4, a0_5, a0_6⟩ A1 c1 (toSp l1) w (toSp_C hr1) (toSp_c hc1)
  rw [toSp_len] at H
  refine H.mono ?_
  rintro e w' ⟨v, he, h1, h2⟩
  exact ⟨v, he, ints_R h1, h2⟩
def stream_Done.f (a0_0 : Int) (a0_1 : Int) (a0_2 : Int) (a0_3 : Int) (a0_4 : Int) (a0_5 : Int) (a0_6 : Int) (l1 : List (S23)) (a2 : Int) : Option (Int × Int) := some (doneI ⟨a0_0, a0_1, a0_2, a0_3, a0_4, a0_5, a0_6⟩ (toSp l1) a2, doneE ⟨a0_0, a0_1, a0_2, a0_3, a0_4, a0_5, a0_6⟩ (toSp l1) a2)
theorem stream_Done.calls (a0_0 : Int) (a0_1 : Int) (a0_2 : Int) (a0_3 : Int) (a0_4 : Int) (a0_5 : Int) (a0_6 : Int) (A1 : Option Addr) (c1 : Nat) (l1 : List (S23)) (a2 : Int) (r1 : Int) (r2 : Int) (w : World) (hr1 : Kd.C k23 w A1 l1.length l1) (hc1 : l1.length ≤ c1) (h : stream_Done.f a0_0 a0_1 a0_2 a0_3 a0_4 a0_5 a0_6 l1 a2 = some (r1, r2)) :
    Calls Try.prog 32 #[.agg #[.int .i64 a0_0, .int .i64 a0_1, .int .i64 a0_2, .int .i64 a0_3, .int .i64 a0_4, .int .i64 a0_5, .int .i64 a0_6], .slice A1 l1.length c1, .int .i64 a2] w fun e w' => e = .returned (.tuple #[.int .i64 r1, .int .i64 r2]) ∧ Below w.heap.size w w' := by
  simp only [stream_Done.f, Option.some.injEq, Prod.mk.injEq] at h
  obtain ⟨rfl, rfl⟩ := h
  have H := doneF_ ⟨a0_0, a0_1, a0_2, a0_3, a0_4, a0_5, a0_6⟩ A1 c1 (toSp l1) a2 w (toSp_C hr1) (toSp_c hc1)
  rw [toSp_len] at H
  exact H
def rf_Most.f (a0_0 : Int) (a0_1 : Int) (a0_2 : Int) (a0_3 : Int) (a0_4 : Int) (a0_5 : Int) (a0_6 : Int) (l1 : List (S23)) : Option (List Int) := if (0 ≤ a0_0 ∧ a0_0 ≤ 8) ∧ (0 ≤ a0_1 ∧ a0_1 ≤ 100) ∧ (0 ≤ a0_4 ∧ a0_4 ≤ 500) ∧ (0 ≤ a0_5 ∧ a0_5 ≤ a0_4) ∧ l1.length ≤ 100 ∧ (∀ s ∈ toSp l1, 0 ≤ s.lo ∧ s.lo ≤ 2000) then some (mostPlan ⟨a0_0, a0_1, a0_2, a0_3, a0_4, a0_5, a0_6⟩ (toSp l1) a0_5) else none
theorem rf_Most.calls (a0_0 : Int) (a0_1 : Int) (a0_2 : Int) (a0_3 : Int) (a0_4 : Int) (a0_5 : Int) (a0_6 : Int) (A1 : Option Addr) (c1 : Nat) (l1 : List (S23)) (r : List Int) (w : World) (hr1 : Kd.C k23 w A1 l1.length l1) (hc1 : l1.length ≤ c1) (h : rf_Most.f a0_0 a0_1 a0_2 a0_3 a0_4 a0_5 a0_6 l1 = some r) :
    Calls Try.prog 33 #[.agg #[.int .i64 a0_0, .int .i64 a0_1, .int .i64 a0_2, .int .i64 a0_3, .int .i64 a0_4, .int .i64 a0_5, .int .i64 a0_6], .slice A1 l1.length c1] w fun e w' => ∃ v0_ : Value, e = .returned (v0_) ∧ Kd.R (Kd.int .i64) 3 w' w.heap.size (fun _ => True) v0_ r ∧ Below w.heap.size w w' := by
  unfold rf_Most.f at h
  split at h
  · rename_i hc
    obtain ⟨q1, q2, q3, q4, q5, q6⟩ := hc
    simp only [Option.some.injEq] at h
    subst h
    have H := rMost ⟨a0_0, a0_1, a0_2, a0_3, a0_4, a0_5, a0_6⟩ A1 c1 (toSp l1) ⟨q1, q2, q3, q4, by rw [toSp_len]; exact q5, q6⟩ w (toSp_C hr1) (toSp_c hc1)
    rw [toSp_len] at H
    refine H.mono ?_
    rintro e w' ⟨v, he, h1, h2⟩
    exact ⟨v, he, ints_R h1, h2⟩
  · cases h
def rf_Done.f (a0_0 : Int) (a0_1 : Int) (a0_2 : Int) (a0_3 : Int) (a0_4 : Int) (a0_5 : Int) (a0_6 : Int) (l1 : List (S23)) (a2 : Int) : Option (Int) := if (0 ≤ a0_0 ∧ a0_0 ≤ 8) ∧ (0 ≤ a0_1 ∧ a0_1 ≤ 100) ∧ (0 ≤ a0_4 ∧ a0_4 ≤ 500) ∧ (0 ≤ a0_5 ∧ a0_5 ≤ a0_4) ∧ l1.length ≤ 100 ∧ (∀ s ∈ toSp l1, 0 ≤ s.lo ∧ s.lo ≤ 2000) then some (doneF ⟨a0_0, a0_1, a0_2, a0_3, a0_4, a0_5, a0_6⟩ (toSp l1) a2) else none
theorem rf_Done.calls (a0_0 : Int) (a0_1 : Int) (a0_2 : Int) (a0_3 : Int) (a0_4 : Int) (a0_5 : Int) (a0_6 : Int) (A1 : Option Addr) (c1 : Nat) (l1 : List (S23)) (a2 : Int) (r : Int) (w : World) (hr1 : Kd.C k23 w A1 l1.length l1) (hc1 : l1.length ≤ c1) (h : rf_Done.f a0_0 a0_1 a0_2 a0_3 a0_4 a0_5 a0_6 l1 a2 = some r) :
    Calls Try.prog 35 #[.agg #[.int .i64 a0_0, .int .i64 a0_1, .int .i64 a0_2, .int .i64 a0_3, .int .i64 a0_4, .int .i64 a0_5, .int .i64 a0_6], .slice A1 l1.length c1, .int .i64 a2] w fun e w' => e = .returned (.int .i64 r) ∧ Below w.heap.size w w' := by
  unfold rf_Done.f at h
  split at h
  · rename_i hc
    obtain ⟨q1, q2, q3, q4, q5, q6⟩ := hc
    simp only [Option.some.injEq] at h
    subst h
    have H := rDone ⟨a0_0, a0_1, a0_2, a0_3, a0_4, a0_5, a0_6⟩ A1 c1 (toSp l1) a2 ⟨q1, q2, q3, q4, by rw [toSp_len]; exact q5, q6⟩ w (toSp_C hr1) (toSp_c hc1)
    rw [toSp_len] at H
    exact H
  · cases h
end Go.Proofs.Ytcnlbbmokphjnaa.Q
