/- Functions printed by the kit's printer over these walks, and the plain law. No condition. -/
import Derived.Test.YtcnlbbmokphjnaaGStreamUpstreams0
import Derived.Test.YtcnlbbmokphjnaaGStreamUpstreams1
import Derived.Test.YtcnlbbmokphjnaaWLast
import Derived.Test.YtcnlbbmokphjnaaWMore
import Derived.Test.YtcnlbbmokphjnaaWTab
import Derived.Test.YtcnlbbmokphjnaaWWords
set_option linter.unusedVariables false
set_option linter.unusedSimpArgs false
namespace Go.Proofs.Ytcnlbbmokphjnaa.Q
open Go.RowKit Go.Proofs.YtcnlbbmokphjnaaW.PrintWords Go.Proofs.YtcnlbbmokphjnaaW.PrintLast Go.Proofs.YtcnlbbmokphjnaaW.PrintMore
attribute [local go_sem] max2_int min2_int max_two min_two max_three min_three max_four min_four   -- for this text's walks alone
set_option linter.unusedVariables false
set_option linter.unusedSimpArgs false
def rf_Levels.l0 : Nat → List Int → List Int → List Int → List (S23) → Int → Option ((List (S23)))
  | 0, _, _, _, _, _ => none
  | k + 1, x2, x9, x10, x11, x12 => if x12 < (x2.length : Int) then (if 0 ≤ x12 then (if x12 < (x9.length : Int) then (if x12 < (x10.length : Int) then (if x11.length < 8796093022208 then (rf_Levels.l0 k x2 x9 x10 (x11 ++ [(⟨rd x9 x12, rd x10 x12⟩ : S23)]) (wrap64 (x12 + 1))) else (none)) else (none)) else (none)) else (none)) else (some x11)
def rf_Levels.f (k : Nat) (a0_0 : Int) (a0_1 : Int) (a0_2 : Int) (a0_3 : Int) (a0_4 : Int) (a0_5 : Int) (a0_6 : Int) (l1 : List (S23)) (l2 : List Int) : Option ((List (S23))) := (rf_Truth.f k a0_0 a0_1 a0_2 a0_3 a0_4 a0_5 a0_6 l1 false).bind fun bt171 => ((rf_Pond.f k a0_0 a0_1 a0_2 a0_3 a0_4 a0_5 a0_6 bt171.1 bt171.2 l2).bind fun t175 => ((rf_Truth.f k a0_0 a0_1 a0_2 a0_3 a0_4 a0_5 a0_6 l1 true).bind fun bt178 => ((rf_Pond.f k a0_0 a0_1 a0_2 a0_3 a0_4 a0_5 a0_6 bt178.1 bt178.2 l2).bind fun t182 => (rf_Levels.l0 k l2 t175 t182 (([] : List (S23))) 0))))
def rf_Levels.T8 : Bool × List (List Nat × List Nat) := (true, [([], []), ([], []), ([], []), ([1, 2], [1, 2]), ([3], [3]), ([], []), ([], []), ([5, 6], [5, 6]), ([7], [7]), ([4, 8], [4, 8]), ([9], [9]), ([0, 10], [0, 10]), ([11, 11, 0, 1, 2, 3, 4, 5, 6, 7, 8, 9, 10, 11], [0, 11])])
def rf_Levels.B8 : List Nat := [0, 0, 0, 6, 14, 0, 0, 96, 224, 510, 1022, 2047, 4095]
theorem rf_Levels.tab8 : rtab .any (opsOf Try.f26 8) = rf_Levels.T8 := by kernel_rfl
theorem rf_Levels.bits8 : waitsOk rf_Levels.T8.2 rf_Levels.B8 = true := by kernel_rfl
set_option maxHeartbeats 8000000 in
set_option maxRecDepth 100000 in
theorem rf_Levels.calls (k : Nat) (a0_0 : Int) (a0_1 : Int) (a0_2 : Int) (a0_3 : Int) (a0_4 : Int) (a0_5 : Int) (a0_6 : Int) (A1 : Option Addr) (c1 : Nat) (l1 : List (S23)) (A2 : Option Addr) (c2 : Nat) (l2 : List Int) (r : List (S23)) (w : World) (hr1 : Kd.C k23 w A1 l1.length l1) (hc1 : l1.length ≤ c1) (hr2 : Kd.C (Kd.int .i64) w A2 l2.length l2) (hc2 : l2.length ≤ c2) (h : rf_Levels.f k a0_0 a0_1 a0_2 a0_3 a0_4 a0_5 a0_6 l1 l2 = some r) :
    Calls Try.prog 26 #[.agg #[.int .i64 a0_0, .int .i64 a0_1, .int .i64 a0_2, .int .i64 a0_3, .int .i64 a0_4, .int .i64 a0_5, .int .i64 a0_6], .slice A1 l1.length c1, .slice A2 l2.length c2] w fun e w' => ∃ v0_ : Value, e = .returned (v0_) ∧ Kd.R k23 23 w' w.heap.size (fun _ => True) v0_ r ∧ Below w.heap.size w w' := by
  have hu25 := Try.underlying25
  have hu23 := Try.underlying23
  have HR1 := Aside0.mk hr1
  have HC1 := Aside0.mk hc1
  clear hr1 hc1
  have HR2 := Aside0.mk hr2
  have HC2 := Aside0.mk hc2
  clear hr2 hc2
  have HB := Aside0.mk (Below.refl w.heap.size w)
  have H : ((rf_Truth.f k a0_0 a0_1 a0_2 a0_3 a0_4 a0_5 a0_6 l1 false).bind fun bt171 => ((rf_Pond.f k a0_0 a0_1 a0_2 a0_3 a0_4 a0_5 a0_6 bt171.1 bt171.2 l2).bind fun t175 => ((rf_Truth.f k a0_0 a0_1 a0_2 a0_3 a0_4 a0_5 a0_6 l1 true).bind fun bt178 => ((rf_Pond.f k a0_0 a0_1 a0_2 a0_3 a0_4 a0_5 a0_6 bt178.1 bt178.2 l2).bind fun t182 => (rf_Levels.l0 k l2 t175 t182 (([] : List (S23))) 0))))) = some r := h
  clear h
  replace H := Option.bind_eq_some_iff.mp H
  obtain ⟨⟨t171, t172⟩, A40, H⟩ := H
  replace H : ((rf_Pond.f k a0_0 a0_1 a0_2 a0_3 a0_4 a0_5 a0_6 t171 t172 l2).bind fun t175 => ((rf_Truth.f k a0_0 a0_1 a0_2 a0_3 a0_4 a0_5 a0_6 l1 true).bind fun bt178 => ((rf_Pond.f k a0_0 a0_1 a0_2 a0_3 a0_4 a0_5 a0_6 bt178.1 bt178.2 l2).bind fun t182 => (rf_Levels.l0 k l2 t175 t182 (([] : List (S23))) 0)))) = some r := H
  have A4 := Aside0.mk A40
  clear A40
  replace H := Option.bind_eq_some_iff.mp H
  obtain ⟨t175, A50, H⟩ := H
  replace H : ((rf_Truth.f k a0_0 a0_1 a0_2 a0_3 a0_4 a0_5 a0_6 l1 true).bind fun bt178 => ((rf_Pond.f k a0_0 a0_1 a0_2 a0_3 a0_4 a0_5 a0_6 bt178.1 bt178.2 l2).bind fun t182 => (rf_Levels.l0 k l2 t175 t182 (([] : List (S23))) 0))) = some r := H
  have A5 := Aside0.mk A50
  clear A50
  replace H := Option.bind_eq_some_iff.mp H
  obtain ⟨⟨t178, t179⟩, A60, H⟩ := H
  replace H : ((rf_Pond.f k a0_0 a0_1 a0_2 a0_3 a0_4 a0_5 a0_6 t178 t179 l2).bind fun t182 => (rf_Levels.l0 k l2 t175 t182 (([] : List (S23))) 0)) = some r := H
  have A6 := Aside0.mk A60
  clear A60
  replace H := Option.bind_eq_some_iff.mp H
  obtain ⟨t182, A70, H⟩ := H
  replace H : (rf_Levels.l0 k l2 t175 t182 (([] : List (S23))) 0) = some r := H
  have A7 := Aside0.mk A70
  clear A70
  obtain ⟨y185, hy185⟩ : ∃ y_ : List (S23), y_ = (([] : List (S23))) := ⟨_, rfl⟩
  replace H : (rf_Levels.l0 k l2 t175 t182 y185 0) = some r := by first | (rw [hy185]; with_reducible exact H) | (have H2_ := (Option.bind_some _ _).symm.trans H; rw [hy185]; with_reducible exact H2_) | (have H2_ := (Option.bind_some _ _).symm.trans H; with_reducible exact H2_) | with_reducible exact H | (rw [hy185]; exact H) | exact H
  have Ny185 := Aside0.mk hy185
  clear hy185
  have H' := Aside0.mk H
  clear H
  go_enter Try.func26, Try.ntmps26
  go_wp2_with (first | ((with_reducible refine gate_dst (N := 3) rfl ?_); refine box_event ?hg (N := 3) ?hd (cs := #[.int .i64 a0_0, .int .i64 a0_1, .int .i64 a0_2, .int .i64 a0_3, .int .i64 a0_4, .int .i64 a0_5, .int .i64 a0_6]) (t := 25) ?hr ?_; (case hd => rfl); (case hg => rfl); (case hr => first | (go_simp; done) | (go_simp; rfl)); intro gb170 hg w8 hbox hb; have n0_ := Aside0.mk (below_step (by repeat (first | (with_reducible first | exact HB.out | apply below_alloc | apply pw_below_drewN | apply below_drew1) | exact HB.out)) hb); have n1_ := Aside0.mk (hbox); have n2_ := Aside0.mk ((by rw [hg]; exact (below_size (by repeat (first | (with_reducible first | exact HB.out | apply below_alloc | apply pw_below_drewN | apply below_drew1) | exact HB.out))) : w.heap.size ≤ gb170)); have n3_ := Aside0.mk ((by rw [hg]; exact (below_size (by repeat (first | (with_reducible first | exact HB.out | apply below_alloc | apply pw_below_drewN | apply below_drew1) | exact HB.out))) : w.heap.size ≤ gb170)); clear HB; have HB := n0_; have BK170 := n1_; have GW170 := n2_; have GE170 := n3_; clear n0_ n1_ n2_ n3_; clear hb hbox hg; have hcz9_0 : w8.cell? ⟨gb170, 0, none⟩ = some (.int .i64 a0_0) := (blk_cell BK170.out 0).trans rfl; have hcz9_1 : w8.cell? ⟨gb170, 1, none⟩ = some (.int .i64 a0_1) := (blk_cell BK170.out 1).trans rfl; have hcz9_2 : w8.cell? ⟨gb170, 2, none⟩ = some (.int .i64 a0_2) := (blk_cell BK170.out 2).trans rfl; have hcz9_3 : w8.cell? ⟨gb170, 3, none⟩ = some (.int .i64 a0_3) := (blk_cell BK170.out 3).trans rfl; have hcz9_4 : w8.cell? ⟨gb170, 4, none⟩ = some (.int .i64 a0_4) := (blk_cell BK170.out 4).trans rfl; have hcz9_5 : w8.cell? ⟨gb170, 5, none⟩ = some (.int .i64 a0_5) := (blk_cell BK170.out 5).trans rfl; have hcz9_6 : w8.cell? ⟨gb170, 6, none⟩ = some (.int .i64 a0_6) := (blk_cell BK170.out 6).trans rfl; have hfz9_0 := blk_frozen BK170.out 0; have hfz9_1 := blk_frozen BK170.out 1; have hfz9_2 := blk_frozen BK170.out 2; have hfz9_3 := blk_frozen BK170.out 3; have hfz9_4 := blk_frozen BK170.out 4; have hfz9_5 := blk_frozen BK170.out 5; have hfz9_6 := blk_frozen BK170.out 6) | ((with_reducible refine gate_callee (f := 68) rfl ?_); refine goesL_ (some 16) rfl rfl Try.func68 (by kernel_rfl) rfl #[.agg #[.int .i64 a0_0, .int .i64 a0_1, .int .i64 a0_2, .int .i64 a0_3, .int .i64 a0_4, .int .i64 a0_5, .int .i64 a0_6], .slice A1 l1.length c1, .bool false] rfl (by (try simp only [List.map_toArray, List.map_cons, List.map_nil]); first | done | rfl | (simp only [List.length_drop, List.length_take]; rfl)) ?_; (with_reducible refine (rf_Truth.calls k a0_0 a0_1 a0_2 a0_3 a0_4 a0_5 a0_6 _ _ l1 false t171 t172 _ ?side1 ?side2 A4.out).mono ?_); (case side1 => repeat (first | exact (Kd.C_below HR1.out HB.out) | (with_reducible refine Kd.C_alloc ?_ _) | (with_reducible refine Kd.C_drewN ?_ _) | (with_reducible refine Kd.C_drew ?_))); (case side2 => exact HC1.out); rintro e w10 ⟨v173, rfl, ho0, hb⟩; refine ⟨_, rfl, ?_⟩; have n0_ := Aside0.mk (Kd.R_lower ho0 (below_size (by repeat (first | (with_reducible first | exact HB.out | apply below_alloc | apply pw_below_drewN | apply below_drew1 | refine below_set ?_ GE170.out) | exact HB.out)))); have n1_ := Aside0.mk (blk_below (g := gb170) (o := .cells #[.int .i64 a0_0, .int .i64 a0_1, .int .i64 a0_2, .int .i64 a0_3, .int .i64 a0_4, .int .i64 a0_5, .int .i64 a0_6] 25 (0, 0)) (by (with_reducible repeat (first | refine blk_drewN ?_ _ | refine blk_drew ?_ | refine blk_alloc ?_ _)); exact BK170.out) hb); have n2_ := Aside0.mk (below_step (by repeat (first | (with_reducible first | exact HB.out | apply below_alloc | apply pw_below_drewN | apply below_drew1 | refine below_set ?_ GE170.out) | exact HB.out)) hb); clear BK170; clear HB; have HO174 := n0_; have BK170 := n1_; have HB := n2_; clear n0_ n1_ n2_; (try clear hb); (try clear hb2); (try clear hk); (try clear hi); (try clear ho0); have hcz11_0 : w10.cell? ⟨gb170, 0, none⟩ = some (.int .i64 a0_0) := (blk_cell BK170.out 0).trans rfl; have hcz11_1 : w10.cell? ⟨gb170, 1, none⟩ = some (.int .i64 a0_1) := (blk_cell BK170.out 1).trans rfl; have hcz11_2 : w10.cell? ⟨gb170, 2, none⟩ = some (.int .i64 a0_2) := (blk_cell BK170.out 2).trans rfl; have hcz11_3 : w10.cell? ⟨gb170, 3, none⟩ = some (.int .i64 a0_3) := (blk_cell BK170.out 3).trans rfl; have hcz11_4 : w10.cell? ⟨gb170, 4, none⟩ = some (.int .i64 a0_4) := (blk_cell BK170.out 4).trans rfl; have hcz11_5 : w10.cell? ⟨gb170, 5, none⟩ = some (.int .i64 a0_5) := (blk_cell BK170.out 5).trans rfl; have hcz11_6 : w10.cell? ⟨gb170, 6, none⟩ = some (.int .i64 a0_6) := (blk_cell BK170.out 6).trans rfl; have hfz11_0 := blk_frozen BK170.out 0; have hfz11_1 := blk_frozen BK170.out 1; have hfz11_2 := blk_frozen BK170.out 2; have hfz11_3 := blk_frozen BK170.out 3; have hfz11_4 := blk_frozen BK170.out 4; have hfz11_5 := blk_frozen BK170.out 5; have hfz11_6 := blk_frozen BK170.out 6; obtain ⟨Ao12, co12, eo12⟩ := Kd.R_slice HO174.out; subst eo12) | ((with_reducible refine gate_callee (f := 70) rfl ?_); refine goesL_ (some 23) rfl rfl Try.func70 (by kernel_rfl) rfl #[.agg #[.int .i64 a0_0, .int .i64 a0_1, .int .i64 a0_2, .int .i64 a0_3, .int .i64 a0_4, .int .i64 a0_5, .int .i64 a0_6], .int .i64 t171, .slice Ao12 t172.length co12, .slice A2 l2.length c2] rfl (by (try simp only [List.map_toArray, List.map_cons, List.map_nil]); first | done | rfl | (simp only [List.length_drop, List.length_take]; rfl)) ?_; (with_reducible refine (rf_Pond.calls k a0_0 a0_1 a0_2 a0_3 a0_4 a0_5 a0_6 t171 _ _ t172 _ _ l2 t175 _ ?side1 ?side2 ?side3 ?side4 A5.out).mono ?_); (case side1 => repeat (first | exact (Kd.R_reads' HO174.out).2.2 | (with_reducible refine Kd.C_alloc ?_ _) | (with_reducible refine Kd.C_drewN ?_ _) | (with_reducible refine Kd.C_drew ?_))); (case side2 => exact (Kd.R_reads' HO174.out).2.1); (case side3 => repeat (first | exact (Kd.C_below HR2.out HB.out) | (with_reducible refine Kd.C_alloc ?_ _) | (with_reducible refine Kd.C_drewN ?_ _) | (with_reducible refine Kd.C_drew ?_))); (case side4 => exact HC2.out); rintro e w13 ⟨v176, rfl, ho0, hb⟩; refine ⟨_, rfl, ?_⟩; have n0_ := Aside0.mk (Kd.R_elder' (by (with_reducible repeat (first | apply Kd.R_alloc | apply Kd.R_drewN | apply Kd.R_drew)); exact HO174.out) (Kd.R_base ho0) hb); have n1_ := Aside0.mk (Kd.R_lower (Kd.R_new' ho0 (Kd.R_lt (by (with_reducible repeat (first | apply Kd.R_alloc | apply Kd.R_drewN | apply Kd.R_drew)); exact HO174.out))) (below_size (by repeat (first | (with_reducible first | exact HB.out | apply below_alloc | apply pw_below_drewN | apply below_drew1 | refine below_set ?_ GE170.out) | exact HB.out)))); have n2_ := Aside0.mk (blk_below (g := gb170) (o := .cells #[.int .i64 a0_0, .int .i64 a0_1, .int .i64 a0_2, .int .i64 a0_3, .int .i64 a0_4, .int .i64 a0_5, .int .i64 a0_6] 25 (0, 0)) (by (with_reducible repeat (first | refine blk_drewN ?_ _ | refine blk_drew ?_ | refine blk_alloc ?_ _)); exact BK170.out) hb); have n3_ := Aside0.mk (below_step (by repeat (first | (with_reducible first | exact HB.out | apply below_alloc | apply pw_below_drewN | apply below_drew1 | refine below_set ?_ GE170.out) | exact HB.out)) hb); clear HO174; clear BK170; clear HB; have HO174 := n0_; have HO177 := n1_; have BK170 := n2_; have HB := n3_; clear n0_ n1_ n2_ n3_; (try clear hb); (try clear hb2); (try clear hk); (try clear hi); (try clear ho0); have hcz14_0 : w13.cell? ⟨gb170, 0, none⟩ = some (.int .i64 a0_0) := (blk_cell BK170.out 0).trans rfl; have hcz14_1 : w13.cell? ⟨gb170, 1, none⟩ = some (.int .i64 a0_1) := (blk_cell BK170.out 1).trans rfl; have hcz14_2 : w13.cell? ⟨gb170, 2, none⟩ = some (.int .i64 a0_2) := (blk_cell BK170.out 2).trans rfl; have hcz14_3 : w13.cell? ⟨gb170, 3, none⟩ = some (.int .i64 a0_3) := (blk_cell BK170.out 3).trans rfl; have hcz14_4 : w13.cell? ⟨gb170, 4, none⟩ = some (.int .i64 a0_4) := (blk_cell BK170.out 4).trans rfl; have hcz14_5 : w13.cell? ⟨gb170, 5, none⟩ = some (.int .i64 a0_5) := (blk_cell BK170.out 5).trans rfl; have hcz14_6 : w13.cell? ⟨gb170, 6, none⟩ = some (.int .i64 a0_6) := (blk_cell BK170.out 6).trans rfl; have hfz14_0 := blk_frozen BK170.out 0; have hfz14_1 := blk_frozen BK170.out 1; have hfz14_2 := blk_frozen BK170.out 2; have hfz14_3 := blk_frozen BK170.out 3; have hfz14_4 := blk_frozen BK170.out 4; have hfz14_5 := blk_frozen BK170.out 5; have hfz14_6 := blk_frozen BK170.out 6) | ((with_reducible refine gate_callee (f := 68) rfl ?_); refine goesL_ (some 27) rfl rfl Try.func68 (by kernel_rfl) rfl #[.agg #[.int .i64 a0_0, .int .i64 a0_1, .int .i64 a0_2, .int .i64 a0_3, .int .i64 a0_4, .int .i64 a0_5, .int .i64 a0_6], .slice A1 l1.length c1, .bool true] rfl (by (try simp only [List.map_toArray, List.map_cons, List.map_nil]); first | done | rfl | (simp only [List.length_drop, List.length_take]; rfl)) ?_; (with_reducible refine (rf_Truth.calls k a0_0 a0_1 a0_2 a0_3 a0_4 a0_5 a0_6 _ _ l1 true t178 t179 _ ?side1 ?side2 A6.out).mono ?_); (case side1 => repeat (first | exact (Kd.C_below HR1.out HB.out) | (with_reducible refine Kd.C_alloc ?_ _) | (with_reducible refine Kd.C_drewN ?_ _) | (with_reducible refine Kd.C_drew ?_))); (case side2 => exact HC1.out); rintro e w15 ⟨v180, rfl, ho0, hb⟩; refine ⟨_, rfl, ?_⟩; have n0_ := Aside0.mk (Kd.R_elder' (by (with_reducible repeat (first | apply Kd.R_alloc | apply Kd.R_drewN | apply Kd.R_drew)); exact HO174.out) (Kd.R_base ho0) hb); have n1_ := Aside0.mk (Kd.R_elder' (by (with_reducible repeat (first | apply Kd.R_alloc | apply Kd.R_drewN | apply Kd.R_drew)); exact HO177.out) (Kd.R_base ho0) hb); have n2_ := Aside0.mk (Kd.R_lower (Kd.R_new' (Kd.R_new' ho0 (Kd.R_lt (by (with_reducible repeat (first | apply Kd.R_alloc | apply Kd.R_drewN | apply Kd.R_drew)); exact HO174.out))) (Kd.R_lt (by (with_reducible repeat (first | apply Kd.R_alloc | apply Kd.R_drewN | apply Kd.R_drew)); exact HO177.out))) (below_size (by repeat (first | (with_reducible first | exact HB.out | apply below_alloc | apply pw_below_drewN | apply below_drew1 | refine below_set ?_ GE170.out) | exact HB.out)))); have n3_ := Aside0.mk (blk_below (g := gb170) (o := .cells #[.int .i64 a0_0, .int .i64 a0_1, .int .i64 a0_2, .int .i64 a0_3, .int .i64 a0_4, .int .i64 a0_5, .int .i64 a0_6] 25 (0, 0)) (by (with_reducible repeat (first | refine blk_drewN ?_ _ | refine blk_drew ?_ | refine blk_alloc ?_ _)); exact BK170.out) hb); have n4_ := Aside0.mk (below_step (by repeat (first | (with_reducible first | exact HB.out | apply below_alloc | apply pw_below_drewN | apply below_drew1 | refine below_set ?_ GE170.out) | exact HB.out)) hb); clear HO174; clear HO177; clear BK170; clear HB; have HO174 := n0_; have HO177 := n1_; have HO181 := n2_; have BK170 := n3_; have HB := n4_; clear n0_ n1_ n2_ n3_ n4_; (try clear hb); (try clear hb2); (try clear hk); (try clear hi); (try clear ho0); have hcz16_0 : w15.cell? ⟨gb170, 0, none⟩ = some (.int .i64 a0_0) := (blk_cell BK170.out 0).trans rfl; have hcz16_1 : w15.cell? ⟨gb170, 1, none⟩ = some (.int .i64 a0_1) := (blk_cell BK170.out 1).trans rfl; have hcz16_2 : w15.cell? ⟨gb170, 2, none⟩ = some (.int .i64 a0_2) := (blk_cell BK170.out 2).trans rfl; have hcz16_3 : w15.cell? ⟨gb170, 3, none⟩ = some (.int .i64 a0_3) := (blk_cell BK170.out 3).trans rfl; have hcz16_4 : w15.cell? ⟨gb170, 4, none⟩ = some (.int .i64 a0_4) := (blk_cell BK170.out 4).trans rfl; have hcz16_5 : w15.cell? ⟨gb170, 5, none⟩ = some (.int .i64 a0_5) := (blk_cell BK170.out 5).trans rfl; have hcz16_6 : w15.cell? ⟨gb170, 6, none⟩ = some (.int .i64 a0_6) := (blk_cell BK170.out 6).trans rfl; have hfz16_0 := blk_frozen BK170.out 0; have hfz16_1 := blk_frozen BK170.out 1; have hfz16_2 := blk_frozen BK170.out 2; have hfz16_3 := blk_frozen BK170.out 3; have hfz16_4 := blk_frozen BK170.out 4; have hfz16_5 := blk_frozen BK170.out 5; have hfz16_6 := blk_frozen BK170.out 6; obtain ⟨Ao17, co17, eo17⟩ := Kd.R_slice HO181.out; subst eo17) | ((with_reducible refine gate_callee (f := 70) rfl ?_); refine goesL_ (some 34) rfl rfl Try.func70 (by kernel_rfl) rfl #[.agg #[.int .i64 a0_0, .int .i64 a0_1, .int .i64 a0_2, .int .i64 a0_3, .int .i64 a0_4, .int .i64 a0_5, .int .i64 a0_6], .int .i64 t178, .slice Ao17 t179.length co17, .slice A2 l2.length c2] rfl (by (try simp only [List.map_toArray, List.map_cons, List.map_nil]); first | done | rfl | (simp only [List.length_drop, List.length_take]; rfl)) ?_; (with_reducible refine (rf_Pond.calls k a0_0 a0_1 a0_2 a0_3 a0_4 a0_5 a0_6 t178 _ _ t179 _ _ l2 t182 _ ?side1 ?side2 ?side3 ?side4 A7.out).mono ?_); (case side1 => repeat (first | exact (Kd.R_reads' HO181.out).2.2 | (with_reducible refine Kd.C_alloc ?_ _) | (with_reducible refine Kd.C_drewN ?_ _) | (with_reducible refine Kd.C_drew ?_))); (case side2 => exact (Kd.R_reads' HO181.out).2.1); (case side3 => repeat (first | exact (Kd.C_below HR2.out HB.out) | (with_reducible refine Kd.C_alloc ?_ _) | (with_reducible refine Kd.C_drewN ?_ _) | (with_reducible refine Kd.C_drew ?_))); (case side4 => exact HC2.out); rintro e w18 ⟨v183, rfl, ho0, hb⟩; refine ⟨_, rfl, ?_⟩; have n0_ := Aside0.mk (Kd.R_elder' (by (with_reducible repeat (first | apply Kd.R_alloc | apply Kd.R_drewN | apply Kd.R_drew)); exact HO174.out) (Kd.R_base ho0) hb); have n1_ := Aside0.mk (Kd.R_elder' (by (with_reducible repeat (first | apply Kd.R_alloc | apply Kd.R_drewN | apply Kd.R_drew)); exact HO177.out) (Kd.R_base ho0) hb); have n2_ := Aside0.mk (Kd.R_elder' (by (with_reducible repeat (first | apply Kd.R_alloc | apply Kd.R_drewN | apply Kd.R_drew)); exact HO181.out) (Kd.R_base ho0) hb); have n3_ := Aside0.mk (Kd.R_lower (Kd.R_new' (Kd.R_new' (Kd.R_new' ho0 (Kd.R_lt (by (with_reducible repeat (first | apply Kd.R_alloc | apply Kd.R_drewN | apply Kd.R_drew)); exact HO174.out))) (Kd.R_lt (by (with_reducible repeat (first | apply Kd.R_alloc | apply Kd.R_drewN | apply Kd.R_drew)); exact HO177.out))) (Kd.R_lt (by (with_reducible repeat (first | apply Kd.R_alloc | apply Kd.R_drewN | apply Kd.R_drew)); exact HO181.out))) (below_size (by repeat (first | (with_reducible first | exact HB.out | apply below_alloc | apply pw_below_drewN | apply below_drew1 | refine below_set ?_ GE170.out) | exact HB.out)))); have n4_ := Aside0.mk (blk_below (g := gb170) (o := .cells #[.int .i64 a0_0, .int .i64 a0_1, .int .i64 a0_2, .int .i64 a0_3, .int .i64 a0_4, .int .i64 a0_5, .int .i64 a0_6] 25 (0, 0)) (by (with_reducible repeat (first | refine blk_drewN ?_ _ | refine blk_drew ?_ | refine blk_alloc ?_ _)); exact BK170.out) hb); have n5_ := Aside0.mk (below_step (by repeat (first | (with_reducible first | exact HB.out | apply below_alloc | apply pw_below_drewN | apply below_drew1 | refine below_set ?_ GE170.out) | exact HB.out)) hb); clear HO174; clear HO177; clear HO181; clear BK170; clear HB; have HO174 := n0_; have HO177 := n1_; have HO181 := n2_; have HO184 := n3_; have BK170 := n4_; have HB := n5_; clear n0_ n1_ n2_ n3_ n4_ n5_; (try clear hb); (try clear hb2); (try clear hk); (try clear hi); (try clear ho0)) | ((with_reducible refine gate_dst (N := 35) rfl ?_); refine Kd.R_lit k23 _ 23 ?hg (N := 35) ?hd (xs := ([] : List (S23))) (inner := []) (ok := fun _ => True) (okp := fun _ => True) ?hr ?hp (fun _ hk => hk) trivial (Below.refl _ _) (Nat.le_refl _) (by simp) ?_; (case hd => rfl); (case hg => rfl); (case hr => first | (go_simp; done) | (go_simp; rfl)); (case hp => exact (Reps.none _ _)); intro v186 w19 ho20 hb hg_ hnew_; clear hg_ hnew_; (first | rw [← Ny185.out] at ho20 | (simp only [Int.reduceToNat] at ho20; rw [← Ny185.out] at ho20)); have n0_ := Aside0.mk (Kd.R_below (by (with_reducible repeat (first | apply Kd.R_alloc | apply Kd.R_drewN | apply Kd.R_drew)); exact HO174.out) hb); have n1_ := Aside0.mk (Kd.R_below (by (with_reducible repeat (first | apply Kd.R_alloc | apply Kd.R_drewN | apply Kd.R_drew)); exact HO177.out) hb); have n2_ := Aside0.mk (Kd.R_below (by (with_reducible repeat (first | apply Kd.R_alloc | apply Kd.R_drewN | apply Kd.R_drew)); exact HO181.out) hb); have n3_ := Aside0.mk (Kd.R_below (by (with_reducible repeat (first | apply Kd.R_alloc | apply Kd.R_drewN | apply Kd.R_drew)); exact HO184.out) hb); have n4_ := Aside0.mk (Kd.R_lower ho20 (below_size (by repeat (first | (with_reducible first | exact HB.out | apply below_alloc | apply pw_below_drewN | apply below_drew1 | refine below_set ?_ GE170.out) | exact HB.out)))); have n5_ := Aside0.mk (blk_below (g := gb170) (o := .cells #[.int .i64 a0_0, .int .i64 a0_1, .int .i64 a0_2, .int .i64 a0_3, .int .i64 a0_4, .int .i64 a0_5, .int .i64 a0_6] 25 (0, 0)) (by (with_reducible repeat (first | refine blk_drewN ?_ _ | refine blk_drew ?_ | refine blk_alloc ?_ _)); exact BK170.out) hb); have n6_ := Aside0.mk (below_step (by repeat (first | (with_reducible first | exact HB.out | apply below_alloc | apply pw_below_drewN | apply below_drew1 | refine below_set ?_ GE170.out) | exact HB.out)) hb); clear HO174; clear HO177; clear HO181; clear HO184; clear BK170; clear HB; have HO174 := n0_; have HO177 := n1_; have HO181 := n2_; have HO184 := n3_; have HO187 := n4_; have BK170 := n5_; have HB := n6_; clear n0_ n1_ n2_ n3_ n4_ n5_ n6_; clear hb ho20))
  go_loopg [11, 12] k (fun kq v11 v12 w' => ∃ (x11_1 : List (S23)) (x12_1 : Int), v12 = .int .i64 x12_1 ∧ Aside0 (rf_Levels.l0 kq l2 t175 t182 x11_1 x12_1 = some r) ∧ Aside0 (kq ≤ k) ∧ Aside0 (Kd.R (Kd.int .i64) 3 w' w.heap.size (fun k_ => some k_ ≠ (v183 : Value).ownBlock) v176 t175) ∧ Aside0 (Kd.R (Kd.int .i64) 3 w' w.heap.size (fun k_ => some k_ ≠ (v176 : Value).ownBlock) v183 t182) ∧ Aside0 (Kd.R k23 23 w' w.heap.size (fun _ => True) v11 x11_1) ∧ Aside0 (w'.heap[gb170]? = some (.cells #[.int .i64 a0_0, .int .i64 a0_1, .int .i64 a0_2, .int .i64 a0_3, .int .i64 a0_4, .int .i64 a0_5, .int .i64 a0_6] 25 (0, 0))) ∧ Aside0 (Below w.heap.size w w'))
  case atStart => exact ⟨(y185), (0), (by first | rfl | (simp; done) | (simp [*]; done)), H', ⟨Nat.le_refl _⟩, ⟨by (with_reducible repeat (first | apply Kd.R_alloc | apply Kd.R_drewN | apply Kd.R_drew)); exact Kd.R_mono HO177.out (fun _ hk => hk.2)⟩, ⟨by (with_reducible repeat (first | apply Kd.R_alloc | apply Kd.R_drewN | apply Kd.R_drew)); exact Kd.R_mono HO184.out (fun _ hk => hk.1.2)⟩, ⟨by (with_reducible repeat (first | apply Kd.R_alloc | apply Kd.R_drewN | apply Kd.R_drew)); exact HO187.out⟩, ⟨by (with_reducible repeat (first | refine blk_drewN ?_ _ | refine blk_drew ?_ | refine blk_alloc ?_ _)); exact BK170.out⟩, ⟨by repeat (first | (with_reducible first | exact HB.out | apply below_alloc | apply pw_below_drewN | apply below_drew1 | refine below_set ?_ GE170.out) | exact HB.out)⟩⟩
  case round =>
    clear H'
    try clear c1
    try clear c2
    try clear p2
    try clear c6
    try clear c7
    try clear hcz11_0
    try clear hcz11_1
    try clear hcz11_2
    try clear hcz11_3
    try clear hcz11_4
    try clear hcz11_5
    try clear hcz11_6
    try clear hcz14_0
    try clear hcz14_1
    try clear hcz14_2
    try clear hcz14_3
    try clear hcz14_4
    try clear hcz14_5
    try clear hcz14_6
    try clear hcz16_0
    try clear hcz16_1
    try clear hcz16_2
    try clear hcz16_3
    try clear hcz16_4
    try clear hcz16_5
    try clear hcz16_6
    try clear hcz9_0
    try clear hcz9_1
    try clear hcz9_2
    try clear hcz9_3
    try clear hcz9_4
    try clear hcz9_5
    try clear hcz9_6
    try clear hfz11_0
    try clear hfz11_1
    try clear hfz11_2
    try clear hfz11_3
    try clear hfz11_4
    try clear hfz11_5
    try clear hfz11_6
    try clear hfz14_0
    try clear hfz14_1
    try clear hfz14_2
    try clear hfz14_3
    try clear hfz14_4
    try clear hfz14_5
    try clear hfz14_6
    try clear hfz16_0
    try clear hfz16_1
    try clear hfz16_2
    try clear hfz16_3
    try clear hfz16_4
    try clear hfz16_5
    try clear hfz16_6
    try clear hfz9_0
    try clear hfz9_1
    try clear hfz9_2
    try clear hfz9_3
    try clear hfz9_4
    try clear hfz9_5
    try clear hfz9_6
    obtain ⟨x11_1, x12_1, rfl, HA, HK1, HO_9, HO_10, HO_11, BK170, HB⟩ := hrel
    cases gk with
    | zero => exact absurd HA.out (by simp [rf_Levels.l0])
    | succ k1 =>
      have H := HA.out
      clear HA
      simp only [rf_Levels.l0] at H
      by_cases c21 : x12_1 < (l2.length : Int)
      · rw [if_pos c21] at H
        have c21b0 : decide (x12_1 < (l2.length : Int)) = true := decide_eq_true c21
        clear c21
        by_cases c22 : 0 ≤ x12_1
        · rw [if_pos c22] at H
          have c22b0 : decide (0 ≤ x12_1) = true := decide_eq_true c22
          clear c22
          by_cases c23 : x12_1 < (t175.length : Int)
          · rw [if_pos c23] at H
            have c23b0 : decide (x12_1 < (t175.length : Int)) = true := decide_eq_true c23
            clear c23
            by_cases c24 : x12_1 < (t182.length : Int)
            · rw [if_pos c24] at H
              have c24b0 : decide (x12_1 < (t182.length : Int)) = true := decide_eq_true c24
              clear c24
              by_cases c25 : x11_1.length < 8796093022208
              · rw [if_pos c25] at H
                have LMc25 := Aside0.mk c25
                clear c25
                obtain ⟨y190, hy190⟩ : ∃ y_ : List (S23), y_ = (x11_1 ++ [(⟨rd t175 x12_1, rd t182 x12_1⟩ : S23)]) := ⟨_, rfl⟩
                replace H : (rf_Levels.l0 k1 l2 t175 t182 y190 (wrap64 (x12_1 + 1))) = some r := by first | (rw [hy190]; with_reducible exact H) | (have H2_ := (Option.bind_some _ _).symm.trans H; rw [hy190]; with_reducible exact H2_) | (have H2_ := (Option.bind_some _ _).symm.trans H; with_reducible exact H2_) | with_reducible exact H | (rw [hy190]; exact H) | exact H
                have Ny190 := Aside0.mk hy190
                clear hy190
                have H' := Aside0.mk H
                clear H
                try go_wp2
                have n0_ := Aside0.mk (Kd.R_drew HO_9.out)
                have n1_ := Aside0.mk (Kd.R_drew HO_10.out)
                have n2_ := Aside0.mk (Kd.R_drew HO_11.out)
                have n3_ := Aside0.mk (blk_drew BK170.out)
                have n4_ := Aside0.mk (below_drew1 HB.out)
                clear HO_9
                clear HO_10
                clear HO_11
                clear BK170
                clear HB
                have HO_9 := n0_
                have HO_10 := n1_
                have HO_11 := n2_
                have BK170 := n3_
                have HB := n4_
                clear n0_ n1_ n2_ n3_ n4_
                obtain ⟨Ao27, co27, eo27⟩ := Kd.R_slice HO_9.out
                (first | subst eo27 | (injection eo27 with f1_ f2_ f3_; have f4_ := f1_.symm; have f5_ := f3_.symm; clear f1_ f2_ f3_; subst f4_; subst f5_))
                have p188 : 0 ≤ (x12_1 : Int) := of_decide_eq_true (by first | (with_reducible assumption) | assumption)
                have q188 : x12_1 < (t175.length : Int) := of_decide_eq_true (by first | (with_reducible assumption) | assumption)
                obtain ⟨ad188, e188, hx188_0⟩ := Kd.at_int (Kd.R_reads' HO_9.out).2.2 x12_1 p188 q188
                cases e188
                replace p188 := eq_true p188
                replace q188 := eq_true q188
                obtain ⟨Ao28, co28, eo28⟩ := Kd.R_slice HO_10.out
                (first | subst eo28 | (injection eo28 with f1_ f2_ f3_; have f4_ := f1_.symm; have f5_ := f3_.symm; clear f1_ f2_ f3_; subst f4_; subst f5_))
                have p189 : 0 ≤ (x12_1 : Int) := of_decide_eq_true (by first | (with_reducible assumption) | assumption)
                have q189 : x12_1 < (t182.length : Int) := of_decide_eq_true (by first | (with_reducible assumption) | assumption)
                obtain ⟨ad189, e189, hx189_0⟩ := Kd.at_int (Kd.R_reads' HO_10.out).2.2 x12_1 p189 q189
                cases e189
                replace p189 := eq_true p189
                replace q189 := eq_true q189
                refine start_ (n := 13) (S := fun w' => w'.cell? (ad188.add (x12_1).toNat) = some (.int .i64 (rd t175 x12_1)) ∧ w'.cell? (ad189.add (x12_1).toNat) = some (.int .i64 (rd t182 x12_1))) (ds := [10, 11]) #[false, false, false, false, false, false, false, false, false, false, false, false, false] (by kernel_rfl) rfl rfl ⟨hx188_0, hx189_0⟩ (fun hHeld => ?_); refine with_tabW rf_Levels.tab8 rf_Levels.bits8 (fun HT_ HW_ => ?_)
                generalize wr.drew = w26 at HO_9 HO_10 HO_11 BK170 HB hx188_0 hx189_0 hHeld ⊢
                refine pure_ (i := 0) (N := some 42) (v := ?_) (a' := ?_) #[true, false, false, false, false, false, false, false, false, false, false, false, false] rfl rfl (any_of HT_.out (by kernel_rfl)) (fun _ _ _ h => h) (Or.inl ⟨by rfl, ?_⟩) ?_ ?_
                rotate_left
                · intro w'
                  go_simp
                  with_reducible rfl
                rotate_left
                · simp only [Act.put, List.setIfInBounds_toArray, List.set_cons_zero, List.set_cons_succ, i64_w, i32_w]
                  rfl
                refine pure_ (i := 1) (N := some 43) (v := ?_) (a' := ?_) #[true, true, false, false, false, false, false, false, false, false, false, false, false] rfl rfl (any_of HT_.out (by kernel_rfl)) (fun _ _ _ h => h) (Or.inl ⟨by rfl, ?_⟩) ?_ ?_
                rotate_left
                · intro w'
                  go_simp
                  with_reducible rfl
                rotate_left
                · simp only [Act.put, List.setIfInBounds_toArray, List.set_cons_zero, List.set_cons_succ, i64_w, i32_w]
                  rfl
                refine pure_ (i := 2) (N := some 44) (v := ?_) (a' := ?_) #[true, true, true, false, false, false, false, false, false, false, false, false, false] rfl rfl (any_of HT_.out (by kernel_rfl)) (fun _ _ _ h => h) (Or.inl ⟨by rfl, ?_⟩) ?_ ?_
                rotate_left
                · intro w'
                  go_simp
                  with_reducible rfl
                rotate_left
                · simp only [Act.put, List.setIfInBounds_toArray, List.set_cons_zero, List.set_cons_succ, i64_w, i32_w]
                  rfl
                refine pure_ (i := 3) (N := some 45) (v := ?_) (a' := ?_) #[true, true, true, true, false, false, false, false, false, false, false, false, false] rfl rfl (any_of HT_.out (by kernel_rfl)) (fun _ _ _ h => h) (Or.inl ⟨by rfl, ?_⟩) ?_ ?_
                rotate_left
                · intro w'
                  go_simp
                  with_reducible rfl
                rotate_left
                · simp only [Act.put, List.setIfInBounds_toArray, List.set_cons_zero, List.set_cons_succ, i64_w, i32_w]
                  rfl
                refine pure_ (i := 5) (N := some 47) (v := ?_) (a' := ?_) #[true, true, true, true, false, true, false, false, false, false, false, false, false] rfl rfl (any_of HT_.out (by kernel_rfl)) (fun _ _ _ h => h) (Or.inl ⟨by rfl, ?_⟩) ?_ ?_
                rotate_left
                · intro w'
                  go_simp
                  with_reducible rfl
                rotate_left
                · simp only [Act.put, List.setIfInBounds_toArray, List.set_cons_zero, List.set_cons_succ, i64_w, i32_w]
                  rfl
                refine pure_ (i := 6) (N := some 48) (v := ?_) (a' := ?_) #[true, true, true, true, false, true, true, false, false, false, false, false, false] rfl rfl (any_of HT_.out (by kernel_rfl)) (fun _ _ _ h => h) (Or.inl ⟨by rfl, ?_⟩) ?_ ?_
                rotate_left
                · intro w'
                  go_simp
                  with_reducible rfl
                rotate_left
                · simp only [Act.put, List.setIfInBounds_toArray, List.set_cons_zero, List.set_cons_succ, i64_w, i32_w]
                  rfl
                refine pure_ (i := 7) (N := some 49) (v := ?_) (a' := ?_) #[true, true, true, true, false, true, true, true, false, false, false, false, false] rfl rfl (any_of HT_.out (by kernel_rfl)) (fun _ _ _ h => h) (Or.inl ⟨by rfl, ?_⟩) ?_ ?_
                rotate_left
                · intro w'
                  go_simp
                  with_reducible rfl
                rotate_left
                · simp only [Act.put, List.setIfInBounds_toArray, List.set_cons_zero, List.set_cons_succ, i64_w, i32_w]
                  rfl
                refine take_ (i := 4) (N := some 46) (v := ?_) (a' := ?_) #[true, true, true, true, true, true, true, true, false, false, false, false, false] rfl rfl (take_ofW HT_.out HW_.out (by kernel_rfl)) (fun _ _ _ h => h) (Or.inl ⟨by rfl, ?_⟩) hHeld ?_ ?_
                rotate_left
                · rintro w' ⟨s0, s1⟩
                  go_simp
                  with_reducible rfl
                rotate_left
                · simp only [Act.put, List.setIfInBounds_toArray, List.set_cons_zero, List.set_cons_succ, i64_w, i32_w]
                  rfl
                refine take_ (i := 8) (N := some 50) (v := ?_) (a' := ?_) #[true, true, true, true, true, true, true, true, true, false, false, false, false] rfl rfl (take_ofW HT_.out HW_.out (by kernel_rfl)) (fun _ _ _ h => h) (Or.inl ⟨by rfl, ?_⟩) hHeld ?_ ?_
                rotate_left
                · rintro w' ⟨s0, s1⟩
                  go_simp
                  with_reducible rfl
                rotate_left
                · simp only [Act.put, List.setIfInBounds_toArray, List.set_cons_zero, List.set_cons_succ, i64_w, i32_w]
                  rfl
                refine pure_ (i := 9) (N := some 51) (v := ?_) (a' := ?_) #[true, true, true, true, true, true, true, true, true, true, false, false, false] rfl rfl (any_of HT_.out (by kernel_rfl)) (fun _ _ _ h => h) (Or.inl ⟨by rfl, ?_⟩) ?_ ?_
                rotate_left
                · intro w'
                  go_simp
                  with_reducible rfl
                rotate_left
                · simp only [Act.put, List.setIfInBounds_toArray, List.set_cons_zero, List.set_cons_succ, i64_w, i32_w]
                  rfl
                refine last_ (i := 10) (N := some 52) #[true, true, true, true, true, true, true, true, true, true, true, false, false] rfl rfl (one_of HT_.out (by kernel_rfl)) (by decide) (fun K hK => ?_)
                refine value_ (w1 := ?_) (v := ?_) (by rfl) rfl ?_ ?_
                rotate_left 2
                · go_simp
                  constructor
                  · rfl
                  · rfl
                refine hK.out _ _ ?_
                clear hK K
                refine norm_ (a' := ?_) ?_ ?_
                rotate_left
                · show Act.put _ (some 52) _ = _
                  simp only [Act.put, List.setIfInBounds_toArray, List.set_cons_zero, List.set_cons_succ, i64_w, i32_w]
                  rfl
                refine last_ (i := 11) (N := some 53) #[true, true, true, true, true, true, true, true, true, true, true, true, false] rfl rfl (one_of HT_.out (by kernel_rfl)) (by decide) (fun K hK => ?_)
                refine Kd.R_append_step k23 (w0 := w) w.heap.size (by rfl) (.tmp 42) (.tmp 52) 26 23 (.agg #[(.int .i64 0), (.int .i64 0)]) 16 rfl Try.underlying26 info23 rfl (by decide) (by omega) u11 x11_1 (⟨rd t175 x12_1, rd t182 x12_1⟩ : S23) [.int .i64 (rd t175 x12_1), .int .i64 (rd t182 x12_1)] (fun _ => True) (fun _ => False) rfl rfl ?aP (fun _ hk => hk.elim) ?aF ?aO ?aB ?aS ?aL ?_
                (case aP => exact k23_mkM _ _ _ (⟨rd t175 x12_1, rd t182 x12_1⟩ : S23))
                (case aB => exact (by repeat (first | (with_reducible first | exact HB.out | apply below_alloc | apply pw_below_drewN | apply below_drew1 | refine below_set ?_ GE170.out) | exact HB.out)))
                (case aF => exact (fun _ _ => trivial))
                (case aO => exact (by (with_reducible repeat (first | apply Kd.R_alloc | apply Kd.R_drewN | apply Kd.R_drew)); exact HO_11.out))
                (case aS => exact (below_size (by repeat (first | (with_reducible first | exact HB.out | apply below_alloc | apply pw_below_drewN | apply below_drew1 | refine below_set ?_ GE170.out) | exact HB.out))))
                (case aL => have := LMc25.out; omega)
                intro v191 w29 ho hb hg hat
                rw [← Ny190.out] at ho
                have n0_ := Aside0.mk (Kd.R_over' (by (with_reducible repeat (first | apply Kd.R_alloc | apply Kd.R_drewN | apply Kd.R_drew)); exact HO_9.out) (Kd.R_typed (by (with_reducible repeat (first | apply Kd.R_alloc | apply Kd.R_drewN | apply Kd.R_drew)); exact HO_11.out)) (by decide) hg)
                have n1_ := Aside0.mk (Kd.R_over' (by (with_reducible repeat (first | apply Kd.R_alloc | apply Kd.R_drewN | apply Kd.R_drew)); exact HO_10.out) (Kd.R_typed (by (with_reducible repeat (first | apply Kd.R_alloc | apply Kd.R_drewN | apply Kd.R_drew)); exact HO_11.out)) (by decide) hg)
                have n2_ := Aside0.mk (blk_grown (g := gb170) (o := .cells #[.int .i64 a0_0, .int .i64 a0_1, .int .i64 a0_2, .int .i64 a0_3, .int .i64 a0_4, .int .i64 a0_5, .int .i64 a0_6] 25 (0, 0)) (by (with_reducible repeat (first | refine blk_drewN ?_ _ | refine blk_drew ?_ | refine blk_alloc ?_ _)); exact BK170.out) hg (Kd.R_ne HO_11.out BK170.out (by decide)))
                have n3_ := Aside0.mk (hb)
                have n4_ := Aside0.mk (ho)
                clear HO_9
                clear HO_10
                clear BK170
                clear HB
                clear HO_11
                have HO_9 := n0_
                have HO_10 := n1_
                have BK170 := n2_
                have HB := n3_
                have HO192 := n4_
                clear n0_ n1_ n2_ n3_ n4_
                clear ho hb hg hat
                refine hK.out _ _ ?_
                clear hK K
                refine norm_ (a' := ?_) ?_ ?_
                rotate_left
                · show Act.put _ (some 53) _ = _
                  simp only [Act.put, List.setIfInBounds_toArray, List.set_cons_zero, List.set_cons_succ, i64_w, i32_w]
                  rfl
                refine pure_ (i := 12) (N := some 11) (v := ?_) (a' := ?_) #[true, true, true, true, true, true, true, true, true, true, true, true, true] rfl rfl (any_of HT_.out (by kernel_rfl)) (fun _ _ _ h => h) (Or.inl ⟨by rfl, ?_⟩) ?_ ?_
                rotate_left
                · intro w'
                  go_simp
                  with_reducible rfl
                rotate_left
                · simp only [Act.put, List.setIfInBounds_toArray, List.set_cons_zero, List.set_cons_succ, i64_w, i32_w]
                  rfl
                refine done_ (done_of HT_.out (by kernel_rfl)) ?_
                try go_wp2
                go_roundg k1
                case measure => have := HK1.out; omega
                case rel => exact ⟨(y190), (wrap64 (x12_1 + 1)), (by first | rfl | (simp; done) | (simp [*]; done)), H', ⟨by have := HK1.out; omega⟩, ⟨by (with_reducible repeat (first | apply Kd.R_alloc | apply Kd.R_drewN | apply Kd.R_drew)); exact HO_9.out⟩, ⟨by (with_reducible repeat (first | apply Kd.R_alloc | apply Kd.R_drewN | apply Kd.R_drew)); exact HO_10.out⟩, ⟨by (with_reducible repeat (first | apply Kd.R_alloc | apply Kd.R_drewN | apply Kd.R_drew)); exact HO192.out⟩, ⟨by (with_reducible repeat (first | refine blk_drewN ?_ _ | refine blk_drew ?_ | refine blk_alloc ?_ _)); exact BK170.out⟩, ⟨by repeat (first | (with_reducible first | exact HB.out | apply below_alloc | apply pw_below_drewN | apply below_drew1 | refine below_set ?_ GE170.out) | exact HB.out)⟩⟩
              · rw [if_neg c25] at H
                exact absurd H (by simp)
            · rw [if_neg c24] at H
              exact absurd H (by simp)
          · rw [if_neg c23] at H
            exact absurd H (by simp)
        · rw [if_neg c22] at H
          exact absurd H (by simp)
      · rw [if_neg c21] at H
        have c21b0 : decide (x12_1 < (l2.length : Int)) = false := decide_eq_false c21
        clear c21
        obtain rfl := Option.some.inj H
        go_wp2
        go_ret
        exact ⟨_, by first | rfl | (simp [errW_none, errW_some] <;> rfl) | (simp [*, errW_none, errW_some] <;> rfl), by (with_reducible repeat (first | apply Kd.R_alloc | apply Kd.R_drewN | apply Kd.R_drew)); exact HO_11.out, by repeat (first | (with_reducible first | exact HB.out | apply below_alloc | apply pw_below_drewN | apply below_drew1 | refine below_set ?_ GE170.out) | exact HB.out)⟩
end Go.Proofs.Ytcnlbbmokphjnaa.Q
namespace Go.Proofs.Ytcnlbbmokphjnaa.Q
open Go.RowKit Go.Proofs.YtcnlbbmokphjnaaW.PrintWords
set_option linter.unusedVariables false
set_option linter.unusedSimpArgs false
def endG (most : Bool) : Sp → Int := if most then Sp.hi else Sp.lo
theorem Truth_l0 (l : List S23) (hl : l.length ≤ 1000) (most : Bool) (now : Int) : ∀ (d i : Nat) (out : List Int), i + d = l.length → out.length = i → Ev (fun k => rf_Truth.l0 k l most now out (i : Int)) (now, out ++ ((toSp l).drop i).map (endG most))
  | 0, i, out, h, ho => by
    refine Ev.up ?_
    simp only [rf_Truth.l0, if_neg (show ¬ (i : Int) < (l.length : Int) by omega)]
    rw [List.drop_eq_nil_of_le (by rw [toSp_len]; omega)]
    simpa using Ev.now (now, out)
  | d + 1, i, out, h, ho => by
    refine Ev.up ?_
    simp only [rf_Truth.l0, if_pos (show (i : Int) < (l.length : Int) by omega), if_pos (show (0 : Int) ≤ (i : Int) by omega), if_pos (show out.length < 17592186044416 by omega), wi i (by omega), rd23 l i (by omega)]
    rw [toSp_drop l i (by omega), List.map_cons]
    cases most
    · have := Truth_l0 l hl false now d (i + 1) (out ++ [l[i].f0]) (by omega) (by simp [ho])
      simpa [endG] using this
    · have := Truth_l0 l hl true now d (i + 1) (out ++ [l[i].f1]) (by omega) (by simp [ho])
      simpa [endG] using this
theorem Truth_f (a0 a1 a2 a3 a4 a5 a6 : Int) (l : List S23) (hl : l.length ≤ 1000) (most : Bool) : Ev (fun k => rf_Truth.f k a0 a1 a2 a3 a4 a5 a6 l most) (endG most ⟨a5, a6⟩, (toSp l).map (endG most)) := by
  simp only [rf_Truth.f, Option.bind_some]
  cases most
  · refine Ev.up ?_
    have := Truth_l0 l hl false a5 l.length 0 [] (by omega) rfl
    simpa [rf_Truth.j0, endG] using this
  · refine Ev.up ?_
    have := Truth_l0 l hl true a6 l.length 0 [] (by omega) rfl
    simpa [rf_Truth.j0, endG] using this
def pondL (m : Mill) : Int → List Int → List Int → List Int
  | now, c :: cs, p :: ps => (min m.ho (now + c) - p * m.T) :: if min m.ho (now + c) - p * m.T < 0 then [] else pondL m (min m.ho (now + c) - p * m.T) cs ps
  | _, _, _ => []
structure FineC (m : Mill) (came plan : List Int) : Prop where
  ho : 0 ≤ m.ho ∧ m.ho ≤ 500
  T : 0 ≤ m.T ∧ m.T ≤ 100
  flow : ∀ c ∈ came, 0 ≤ c ∧ c ≤ 2000
  pl : ∀ k ∈ plan, 0 ≤ k ∧ k ≤ 10
  len : plan.length ≤ came.length
  long : came.length ≤ 1000
theorem FineC.step {m came plan} (h : FineC m came plan) (now : Int) (hn : 0 ≤ now ∧ now ≤ 2000) (i : Nat) (hi : i < plan.length) :
    wrap64 (mn m.ho (wrap64 (now + rd came i)) - wrap64 (rd plan i * m.T)) = min m.ho (now + rd came i) - rd plan i * m.T ∧ (0 ≤ min m.ho (now + rd came i) - rd plan i * m.T → min m.ho (now + rd came i) - rd plan i * m.T ≤ 2000) := by
  have h1 := h.flow (rd came i) (by rw [rdI came i (by have := h.len; omega)]; exact List.getElem_mem _)
  have h2 := h.pl (rd plan i) (by rw [rdI plan i hi]; exact List.getElem_mem _)
  have hT := h.T
  have hho := h.ho
  have h3 : 0 ≤ rd plan i * m.T := Int.mul_nonneg h2.1 hT.1
  have h4 : rd plan i * m.T ≤ 10 * 100 := Int.mul_le_mul h2.2 hT.2 hT.1 (by omega)
  rw [wr (x := now + rd came i) (by omega), wr (x := rd plan i * m.T) (by omega)]
  have e : mn m.ho (now + rd came i) = min m.ho (now + rd came i) := by unfold mn; omega
  rw [e, wr (by omega)]
  exact ⟨rfl, fun _ => by omega⟩
theorem Pond_l0 (a0 a1 a2 a3 a4 a5 a6 : Int) (came plan : List Int) (hf : FineC ⟨a0, a1, a2, a3, a4, a5, a6⟩ came plan) : ∀ (d i : Nat) (now : Int) (out : List Int), i + d = plan.length → out.length = i → 0 ≤ now ∧ now ≤ 2000 →
    Ev (fun k => rf_Pond.l0 k now came plan out (i : Int) a0 a1 a2 a3 a4 a5 a6) (out ++ pondL ⟨a0, a1, a2, a3, a4, a5, a6⟩ now (came.drop i) (plan.drop i))
  | 0, i, now, out, h, ho, hn => by
    refine Ev.up ?_
    simp only [rf_Pond.l0, if_neg (show ¬ (i : Int) < (plan.length : Int) by omega)]
    have e2 : plan.drop i = [] := List.drop_eq_nil_of_le (by omega)
    have e : pondL ⟨a0, a1, a2, a3, a4, a5, a6⟩ now (came.drop i) [] = [] := by cases came.drop i <;> rfl
    rw [e2, e, List.append_nil]
    exact Ev.now out
  | d + 1, i, now, out, h, ho, hn => by
    refine Ev.up ?_
    have hl := hf.len
    have hlong := hf.long
    obtain ⟨hs, hb⟩ := hf.step now hn i (by omega)
    simp only [rf_Pond.l0, if_pos (show (i : Int) < (plan.length : Int) by omega), if_pos (show (0 : Int) ≤ (i : Int) by omega), if_pos (show (i : Int) < (came.length : Int) by omega), if_pos (show out.length < 17592186044416 by omega), wi i (by omega), Option.bind_some]
    simp only at hs hb
    simp only [hs]
    rw [List.drop_eq_getElem_cons (show i < came.length by omega), List.drop_eq_getElem_cons (show i < plan.length by omega)]
    simp only [pondL]
    rw [← rdI came i (by omega), ← rdI plan i (by omega)]
    by_cases hlt : min a4 (now + rd came i) - rd plan i * a1 < 0
    · simp only [if_pos hlt]
      exact Ev.now _
    · simp only [if_neg hlt]
      have := Pond_l0 a0 a1 a2 a3 a4 a5 a6 came plan hf d (i + 1) (min a4 (now + rd came i) - rd plan i * a1) (out ++ [min a4 (now + rd came i) - rd plan i * a1]) (by omega) (by simp [ho]) ⟨by omega, hb (by omega)⟩
      simpa using this
theorem Pond_f (a0 a1 a2 a3 a4 a5 a6 now : Int) (came plan : List Int) (hf : FineC ⟨a0, a1, a2, a3, a4, a5, a6⟩ came plan) (hn : 0 ≤ now ∧ now ≤ 2000) : Ev (fun k => rf_Pond.f k a0 a1 a2 a3 a4 a5 a6 now came plan) (pondL ⟨a0, a1, a2, a3, a4, a5, a6⟩ now came plan) := by
  simpa [rf_Pond.f] using Pond_l0 a0 a1 a2 a3 a4 a5 a6 came plan hf plan.length 0 now [] (by omega) rfl hn
def dryP (m : Mill) : Int → List Int → List Int → Int
  | now, c :: cs, p :: ps => if min m.ho (now + c) - p * m.T < 0 then 0 else (if dryP m (min m.ho (now + c) - p * m.T) cs ps < 0 then -1 else dryP m (min m.ho (now + c) - p * m.T) cs ps + 1)
  | _, _, _ => -1
def lastNeg (t : List Int) : Int := if 0 < t.length ∧ rd t ((t.length : Int) - 1) < 0 then (t.length : Int) - 1 else -1
theorem lastNeg_cons (x : Int) (t : List Int) (ht : t ≠ []) : lastNeg (x :: t) = if lastNeg t < 0 then -1 else lastNeg t + 1 := by
  have hp : 0 < t.length := List.length_pos_iff.2 ht
  have e : rd (x :: t) (((x :: t).length : Int) - 1) = rd t ((t.length : Int) - 1) := by
    rw [show (((x :: t).length : Int) - 1) = (((t.length - 1) + 1 : Nat) : Int) by simp; omega, show ((t.length : Int) - 1) = ((t.length - 1 : Nat) : Int) by omega]
    simp [rd]
  unfold lastNeg
  rw [e]
  simp only [List.length_cons]
  by_cases h : rd t ((t.length : Int) - 1) < 0
  · simp only [h, hp, and_self, and_true, Nat.succ_pos, if_true]
    rw [if_neg (by omega)]
    omega
  · simp only [h, and_false, if_false]
    rw [if_pos (by omega)]
theorem pondL_ne (m : Mill) (now c p : Int) (cs ps : List Int) : pondL m now (c :: cs) (p :: ps) ≠ [] := by simp [pondL]
theorem lastNeg_pond (m : Mill) : ∀ (ps cs : List Int) (now : Int), ps.length ≤ cs.length → lastNeg (pondL m now cs ps) = dryP m now cs ps
  | [], cs, now, _ => by cases cs <;> simp [pondL, dryP, lastNeg]
  | p :: ps, [], now, h => by simp at h
  | p :: ps, c :: cs, now, h => by
    simp only [pondL, dryP]
    by_cases hlt : min m.ho (now + c) - p * m.T < 0
    · rw [if_pos hlt, if_pos hlt]
      simp [lastNeg, rd, hlt]
    · rw [if_neg hlt, if_neg hlt]
      have ih := lastNeg_pond m ps cs (min m.ho (now + c) - p * m.T) (by simpa using h)
      by_cases hn : pondL m (min m.ho (now + c) - p * m.T) cs ps = []
      · rw [hn] at ih ⊢
        rw [← ih]
        simp [lastNeg, rd]
        omega
      · rw [lastNeg_cons _ _ hn, ih]
theorem Dry_f (a0 a1 a2 a3 a4 a5 a6 now : Int) (came plan : List Int) (hf : FineC ⟨a0, a1, a2, a3, a4, a5, a6⟩ came plan) (hn : 0 ≤ now ∧ now ≤ 2000) : Ev (fun k => rf_Dry.f k a0 a1 a2 a3 a4 a5 a6 now came plan) (dryP ⟨a0, a1, a2, a3, a4, a5, a6⟩ now came plan) := by
  rw [← lastNeg_pond _ _ _ _ hf.len]
  have hlen : ∀ (ps cs : List Int) (now : Int), (pondL ⟨a0, a1, a2, a3, a4, a5, a6⟩ now cs ps).length ≤ ps.length := by
    intro ps
    induction ps with
    | nil => intro cs now; cases cs <;> simp [pondL]
    | cons p ps ih =>
      intro cs now
      cases cs with
      | nil => simp [pondL]
      | cons c cs =>
        simp only [pondL]
        split
        · simp
        · have := ih cs (min a4 (now + c) - p * a1)
          simp only [List.length_cons]
          omega
  have hl := hlen plan came now
  have h1 := hf.len
  have h2 := hf.long
  refine Ev.bind (Pond_f a0 a1 a2 a3 a4 a5 a6 now came plan hf hn) ?_
  generalize pondL ⟨a0, a1, a2, a3, a4, a5, a6⟩ now came plan = t at hl
  by_cases h0 : 0 < t.length
  · simp only [if_pos (show (t.length : Int) > 0 by omega), wr (x := (t.length : Int) - 1) (by omega), if_pos (show (0 : Int) ≤ (t.length : Int) - 1 by omega), if_pos (show (t.length : Int) - 1 < (t.length : Int) by omega)]
    by_cases hneg : rd t ((t.length : Int) - 1) < 0
    · simp only [if_pos hneg]
      rw [lastNeg, if_pos ⟨h0, hneg⟩]
      exact Ev.now _
    · simp only [if_neg hneg]
      rw [lastNeg, if_neg (fun h => hneg h.2)]
      exact Ev.now _
  · simp only [if_neg (show ¬ (t.length : Int) > 0 by omega)]
    rw [lastNeg, if_neg (fun h => h0 h.1)]
    exact Ev.now _
theorem dryF_cons (t : Tide) (ts : List Tide) : dryF (t :: ts) = if t.left < 0 then (t.hour : Int) else dryF ts := by
  unfold dryF
  rw [List.find?_cons]
  by_cases h : t.left < 0
  · simp [h]
  · simp [h]
theorem dryF_pond (m : Mill) (g : Sp → Int) (l : List Sp) : ∀ (p : List Int) (water : Int) (h : Nat), h + p.length ≤ l.length → dryF (tidesL m g l water p h) = if dryP m water ((l.drop h).map g) p < 0 then -1 else dryP m water ((l.drop h).map g) p + h
  | [], water, h, hl => by
    have e : dryP m water ((l.drop h).map g) [] = -1 := by cases (l.drop h).map g <;> rfl
    rw [e]
    rfl
  | k :: ks, water, h, hl => by
    rw [List.length_cons] at hl
    rw [List.drop_eq_getElem_cons (show h < l.length by omega), List.map_cons]
    simp only [tidesL, dryP, dryF_cons]
    have e : leftA m g l water h k = min m.ho (water + g l[h]) - k * m.T := by rw [leftA, fullA, rdS_nat l h (by omega)]
    rw [e]
    by_cases hlt : min m.ho (water + g l[h]) - k * m.T < 0
    · simp only [hlt, if_true]
      simp
    · simp only [hlt, if_false]
      rw [dryF_pond m g l ks _ (h + 1) (by omega)]
      by_cases h3 : dryP m (min m.ho (water + g l[h]) - k * m.T) ((l.drop (h + 1)).map g) ks < 0
      · rw [if_pos h3, if_pos h3, if_pos (by omega)]
      · rw [if_neg h3, if_neg h3, if_neg (by omega)]
        omega
theorem dryP_lo (m : Mill) : ∀ (ps cs : List Int) (now : Int), -1 ≤ dryP m now cs ps
  | [], cs, now => by cases cs <;> simp [dryP]
  | p :: ps, [], now => by simp [dryP]
  | p :: ps, c :: cs, now => by
    simp only [dryP]
    have := dryP_lo m ps cs (min m.ho (now + c) - p * m.T)
    split
    · omega
    · split <;> omega
theorem dryS_pond (m : Mill) (g : Sp → Int) (l : List Sp) (p : List Int) (hl : p.length ≤ l.length) : dryS m g l p = dryP m (g ⟨m.nl, m.nh⟩) (l.map g) p := by
  have h := dryF_pond m g l p (g ⟨m.nl, m.nh⟩) 0 (by omega)
  have h2 := dryP_lo m p (l.map g) (g ⟨m.nl, m.nh⟩)
  rw [List.drop_zero] at h
  unfold dryS
  rw [h]
  split <;> omega
theorem FineC.ofFine {m g l plan} (h : Fine m g l plan) (hl : l.length ≤ 1000) : FineC m (l.map g) plan :=
  ⟨h.ho, h.T, fun c hc => by obtain ⟨s, hs, rfl⟩ := List.mem_map.1 hc; exact h.flow s hs, h.pl, by rw [List.length_map]; exact h.len, by rw [List.length_map]; exact hl⟩
theorem Goes_f (a0 a1 a2 a3 a4 a5 a6 : Int) (l : List S23) (plan : List Int) (hl : l.length ≤ 1000) (h0 : Fine ⟨a0, a1, a2, a3, a4, a5, a6⟩ Sp.lo (toSp l) plan) (h1 : Fine ⟨a0, a1, a2, a3, a4, a5, a6⟩ Sp.hi (toSp l) plan) :
    Ev (fun k => rf_Goes.f k a0 a1 a2 a3 a4 a5 a6 l plan) (dryS ⟨a0, a1, a2, a3, a4, a5, a6⟩ Sp.lo (toSp l) plan, decide (0 ≤ dryS ⟨a0, a1, a2, a3, a4, a5, a6⟩ Sp.lo (toSp l) plan) && (dryS ⟨a0, a1, a2, a3, a4, a5, a6⟩ Sp.hi (toSp l) plan == dryS ⟨a0, a1, a2, a3, a4, a5, a6⟩ Sp.lo (toSp l) plan)) := by
  unfold rf_Goes.f
  have hln : (toSp l).length ≤ 1000 := by rw [toSp_len]; exact hl
  refine Ev.bind (Truth_f a0 a1 a2 a3 a4 a5 a6 l hl false) ?_
  refine Ev.bind (a := dryS ⟨a0, a1, a2, a3, a4, a5, a6⟩ Sp.lo (toSp l) plan) ?_ ?_
  · rw [dryS_pond _ _ _ _ h0.len]
    exact Dry_f a0 a1 a2 a3 a4 a5 a6 a5 _ plan (FineC.ofFine h0 hln) h0.now
  · refine Ev.bind (Truth_f a0 a1 a2 a3 a4 a5 a6 l hl true) ?_
    by_cases hp : 0 ≤ dryS ⟨a0, a1, a2, a3, a4, a5, a6⟩ Sp.lo (toSp l) plan
    · simp only [if_pos (show dryS ⟨a0, a1, a2, a3, a4, a5, a6⟩ Sp.lo (toSp l) plan ≥ 0 from hp), decide_eq_true hp, Bool.true_and]
      refine Ev.bind (a := dryS ⟨a0, a1, a2, a3, a4, a5, a6⟩ Sp.hi (toSp l) plan) ?_ (Ev.now _)
      rw [dryS_pond _ _ _ _ h1.len]
      exact Dry_f a0 a1 a2 a3 a4 a5 a6 a6 _ plan (FineC.ofFine h1 hln) h1.now
    · simp only [if_neg (show ¬ dryS ⟨a0, a1, a2, a3, a4, a5, a6⟩ Sp.lo (toSp l) plan ≥ 0 from hp), decide_eq_false hp, Bool.false_and]
      exact Ev.now _
theorem pondL_tides (m : Mill) (g : Sp → Int) (l : List Sp) : ∀ (p : List Int) (water : Int) (h : Nat), h + p.length ≤ l.length → pondL m water ((l.drop h).map g) p = (tidesL m g l water p h).map (·.left)
  | [], water, h, hl => by cases (l.drop h).map g <;> rfl
  | k :: ks, water, h, hl => by
    rw [List.length_cons] at hl
    rw [List.drop_eq_getElem_cons (show h < l.length by omega), List.map_cons]
    have e : leftA m g l water h k = min m.ho (water + g l[h]) - k * m.T := by rw [leftA, fullA, rdS_nat l h (by omega)]
    simp only [tidesL, pondL, List.map_cons]
    rw [e]
    by_cases hlt : min m.ho (water + g l[h]) - k * m.T < 0
    · rw [if_pos hlt, if_pos hlt]; rfl
    · rw [if_neg hlt, if_neg hlt, pondL_tides m g l ks _ (h + 1) (by omega)]
theorem Levels_l0 (p a b : List Int) (hl : p.length ≤ 1000) (ha : p.length ≤ a.length) (hb : p.length ≤ b.length) : ∀ (d i : Nat) (out : List S23), i + d = p.length → out.length = i → Ev (fun k => rf_Levels.l0 k p a b out (i : Int)) (out ++ ((List.range p.length).drop i).map (fun h => ⟨a.getD h 0, b.getD h 0⟩))
  | 0, i, out, h, ho => by
    refine Ev.up ?_
    simp only [rf_Levels.l0, if_neg (show ¬ (i : Int) < (p.length : Int) by omega)]
    rw [List.drop_eq_nil_of_le (by simp; omega)]
    simpa using Ev.now out
  | d + 1, i, out, h, ho => by
    refine Ev.up ?_
    simp only [rf_Levels.l0, if_pos (show (i : Int) < (p.length : Int) by omega), if_pos (show (0 : Int) ≤ (i : Int) by omega), if_pos (show (i : Int) < (a.length : Int) by omega), if_pos (show (i : Int) < (b.length : Int) by omega), if_pos (show out.length < 8796093022208 by omega), wi i (by omega)]
    rw [List.drop_eq_getElem_cons (show i < (List.range p.length).length by simp; omega), List.map_cons]
    have := Levels_l0 p a b hl ha hb d (i + 1) (out ++ [⟨rd a i, rd b i⟩]) (by omega) (by simp [ho])
    simpa [rd] using this
theorem Levels_f (a0 a1 a2 a3 a4 a5 a6 : Int) (l : List S23) (plan : List Int) (hl : l.length ≤ 1000) (h0 : Fine ⟨a0, a1, a2, a3, a4, a5, a6⟩ Sp.lo (toSp l) plan) (h1 : Fine ⟨a0, a1, a2, a3, a4, a5, a6⟩ Sp.hi (toSp l) plan)
    (hlo : dryS ⟨a0, a1, a2, a3, a4, a5, a6⟩ Sp.lo (toSp l) plan = -1) (hle : ∀ s ∈ toSp l, s.lo ≤ s.hi) (hnow : a5 ≤ a6) :
    Ev (fun k => rf_Levels.f k a0 a1 a2 a3 a4 a5 a6 l plan) (ofSp (levelsL ⟨a0, a1, a2, a3, a4, a5, a6⟩ (toSp l) plan)) := by
  unfold rf_Levels.f
  have hln : (toSp l).length ≤ 1000 := by rw [toSp_len]; exact hl
  have hpl : plan.length ≤ 1000 := by have := h0.len; omega
  have hn := dryS_none _ _ _ _ hlo
  have hn2 := more_water ⟨a0, a1, a2, a3, a4, a5, a6⟩ (toSp l) (by
    intro j
    by_cases hj : j < (toSp l).length
    · rw [rdS_nat _ j hj]; exact hle _ (List.getElem_mem _)
    · simp [rdS, List.getD_eq_getElem?_getD, List.getElem?_eq_none (Nat.le_of_not_lt hj), z_Sp]) plan a5 a6 0 hnow hn
  have hf1 := tidesL_full _ Sp.lo (toSp l) plan _ 0 hn
  have hf2 := tidesL_full _ Sp.hi (toSp l) plan _ 0 hn2
  have e0 := pondL_tides ⟨a0, a1, a2, a3, a4, a5, a6⟩ Sp.lo (toSp l) plan a5 0 (by have := h0.len; omega)
  have e1 := pondL_tides ⟨a0, a1, a2, a3, a4, a5, a6⟩ Sp.hi (toSp l) plan a6 0 (by have := h1.len; omega)
  rw [List.drop_zero] at e0 e1
  refine Ev.bind (Truth_f a0 a1 a2 a3 a4 a5 a6 l hl false) ?_
  refine Ev.bind (Pond_f a0 a1 a2 a3 a4 a5 a6 a5 _ plan (FineC.ofFine h0 hln) h0.now) ?_
  refine Ev.bind (Truth_f a0 a1 a2 a3 a4 a5 a6 l hl true) ?_
  refine Ev.bind (Pond_f a0 a1 a2 a3 a4 a5 a6 a6 _ plan (FineC.ofFine h1 hln) h1.now) ?_
  simp only [show endG false = Sp.lo from rfl, show endG true = Sp.hi from rfl, e0, e1]
  have hL := Levels_l0 plan ((tidesL ⟨a0, a1, a2, a3, a4, a5, a6⟩ Sp.lo (toSp l) a5 plan 0).map (·.left)) ((tidesL ⟨a0, a1, a2, a3, a4, a5, a6⟩ Sp.hi (toSp l) a6 plan 0).map (·.left)) hpl (by rw [List.length_map]; exact Nat.le_of_eq hf1.symm) (by rw [List.length_map]; exact Nat.le_of_eq hf2.symm) plan.length 0 [] (by omega) rfl
  rw [List.drop_zero, List.nil_append] at hL
  have e : ofSp (levelsL ⟨a0, a1, a2, a3, a4, a5, a6⟩ (toSp l) plan) = (List.range plan.length).map (fun h => (⟨((tidesL ⟨a0, a1, a2, a3, a4, a5, a6⟩ Sp.lo (toSp l) a5 plan 0).map (·.left)).getD h 0, ((tidesL ⟨a0, a1, a2, a3, a4, a5, a6⟩ Sp.hi (toSp l) a6 plan 0).map (·.left)).getD h 0⟩ : S23)) := by
    simp only [ofSp, levelsL, List.map_map]
    rfl
  rw [e]
  exact hL
end Go.Proofs.Ytcnlbbmokphjnaa.Q
namespace Go.Proofs.Ytcnlbbmokphjnaa.Q
open Go.RowKit Go.Proofs.YtcnlbbmokphjnaaW.PrintWords
set_option linter.unusedVariables false
set_option linter.unusedSimpArgs false
theorem ofSp_toSp (l : List S23) : ofSp (toSp l) = l := by simp [toSp, ofSp, Function.comp_def]
theorem toSp_ofSp (l : List Sp) : toSp (ofSp l) = l := by simp [toSp, ofSp, Function.comp_def]
theorem rdS_toSp (l : List S23) (i : Nat) (h : i < l.length) : rdS (toSp l) (i : Int) = ⟨l[i].f0, l[i].f1⟩ := by
  rw [rdS_nat _ i (by rw [toSp_len]; exact h)]
  simp [toSp]
theorem dryP_more (m : Mill) : ∀ (ps cs cs' : List Int) (now now' : Int), now ≤ now' → cs.length = cs'.length → (∀ i : Nat, i < cs.length → rd cs i ≤ rd cs' i) → dryP m now cs ps < 0 → dryP m now' cs' ps < 0
  | [], cs, cs', now, now', _, _, _, _ => by cases cs' <;> simp [dryP]
  | p :: ps, cs, [], now, now', _, _, _, _ => by simp [dryP]
  | p :: ps, [], c' :: cs', now, now', _, hl, _, _ => by simp at hl
  | p :: ps, c :: cs, c' :: cs', now, now', hn, hl, hc, h => by
    have h0 : c ≤ c' := by simpa [rd] using hc 0 (by simp)
    simp only [dryP] at h ⊢
    by_cases h1 : min m.ho (now + c) - p * m.T < 0
    · simp [h1] at h
    · have h2 : ¬ min m.ho (now' + c') - p * m.T < 0 := by omega
      simp only [h1, if_false] at h
      simp only [h2, if_false]
      by_cases h3 : dryP m (min m.ho (now + c) - p * m.T) cs ps < 0
      · have h4 := dryP_more m ps cs cs' _ (min m.ho (now' + c') - p * m.T) (by omega) (by simpa using hl) (fun i hi => by
          have := hc (i + 1) (by simp; omega)
          simpa [rd] using this) h3
        simp [h4]
      · simp only [h3, if_false] at h
        omega
theorem rightB_iff (m : Mill) (l : List Sp) (p : List Int) (hl : p.length ≤ l.length) : rightB m l p = true ↔ dryP m m.nl (l.map Sp.lo) p < 0 := by
  unfold rightB
  rw [dryS_pond _ _ _ _ hl]
  have := dryP_lo m p (l.map Sp.lo) m.nl
  simp only [beq_iff_eq]
  constructor
  · intro h; show dryP m m.nl (l.map Sp.lo) p < 0; have h2 : dryP m m.nl (l.map Sp.lo) p = -1 := h; omega
  · intro h; show dryP m m.nl (l.map Sp.lo) p = -1; omega
theorem right_more (m : Mill) (l l' : List Sp) (p : List Int) (hl : p.length ≤ l.length) (hll : l.length = l'.length) (h : ∀ i : Nat, i < l.length → (rdS l i).lo ≤ (rdS l' i).lo) (hr : rightB m l p = true) : rightB m l' p = true := by
  rw [rightB_iff m l' p (by omega)]
  refine dryP_more m p (l.map Sp.lo) (l'.map Sp.lo) _ _ (Int.le_refl _) (by simp [hll]) (fun i hi => ?_) ((rightB_iff m l p hl).1 hr)
  rw [List.length_map] at hi
  have := h i hi
  rw [rdS_nat l i hi, rdS_nat l' i (by omega)] at this
  rw [rdI _ i (by rw [List.length_map]; exact hi), rdI _ i (by rw [List.length_map]; omega)]
  simpa using this
theorem Right_f (a0 a1 a2 a3 a4 a5 a6 : Int) (l : List S23) (plan : List Int) (hl : l.length ≤ 1000) (h0 : Fine ⟨a0, a1, a2, a3, a4, a5, a6⟩ Sp.lo (toSp l) plan) (h1 : Fine ⟨a0, a1, a2, a3, a4, a5, a6⟩ Sp.hi (toSp l) plan) :
    Ev (fun k => rf_Right.f k a0 a1 a2 a3 a4 a5 a6 l plan) (rightB ⟨a0, a1, a2, a3, a4, a5, a6⟩ (toSp l) plan) := by
  unfold rf_Right.f
  refine Ev.bind (Goes_f a0 a1 a2 a3 a4 a5 a6 l plan hl h0 h1) ?_
  have hlo := (dryS_bd ⟨a0, a1, a2, a3, a4, a5, a6⟩ Sp.lo (toSp l) plan).1
  have e : decide (dryS ⟨a0, a1, a2, a3, a4, a5, a6⟩ Sp.lo (toSp l) plan < 0) = rightB ⟨a0, a1, a2, a3, a4, a5, a6⟩ (toSp l) plan := by
    unfold rightB
    rw [Bool.eq_iff_iff]
    simp only [decide_eq_true_eq, beq_iff_eq]
    omega
  simp only [e]
  exact Ev.now _
theorem Held_l0 (l : List S23) (b : Int) (hl : l.length ≤ 1000) (hb : 0 ≤ b ∧ b ≤ 1000) (hf : ∀ s ∈ toSp l, 0 ≤ s.lo ∧ s.lo ≤ 2000 ∧ 0 ≤ s.hi ∧ s.hi ≤ 2000) : ∀ (d i : Nat) (out : List S23), i + d = l.length → out.length = i →
    Ev (fun k => rf_Held.l0 k l b out (i : Int)) (out ++ ofSp (((toSp l).drop i).map (heldSp b)))
  | 0, i, out, h, ho => by
    refine Ev.up ?_
    simp only [rf_Held.l0, if_neg (show ¬ (i : Int) < (l.length : Int) by omega)]
    have e : (toSp l).drop i = [] := List.drop_eq_nil_of_le (by rw [toSp_len]; omega)
    rw [e]
    simpa [ofSp] using Ev.now out
  | d + 1, i, out, h, ho => by
    refine Ev.up ?_
    have h2 := hf (rdS (toSp l) i) (by rw [rdS_nat _ i (by rw [toSp_len]; omega)]; exact List.getElem_mem _)
    rw [rdS_toSp l i (by omega)] at h2
    simp only at h2
    simp only [rf_Held.l0, if_pos (show (i : Int) < (l.length : Int) by omega), if_pos (show (0 : Int) ≤ (i : Int) by omega), if_pos (show out.length < 8796093022208 by omega), wi i (by omega), rd23 l i (by omega)]
    rw [wr (x := l[i].f0 - b) (by omega), wr (x := l[i].f1 - b) (by omega)]
    have ih := Held_l0 l b hl hb hf d (i + 1) (out ++ [⟨mx 0 (l[i].f0 - b), mx 0 (l[i].f1 - b)⟩]) (by omega) (by simp [ho])
    rw [toSp_drop l i (by omega)]
    have e : ofSp (List.map (heldSp b) (⟨l[i].f0, l[i].f1⟩ :: (toSp l).drop (i + 1))) = ⟨mx 0 (l[i].f0 - b), mx 0 (l[i].f1 - b)⟩ :: ofSp (((toSp l).drop (i + 1)).map (heldSp b)) := by
      have e1 : mx 0 (l[i].f0 - b) = max 0 (l[i].f0 - b) := by unfold mx; omega
      have e2 : mx 0 (l[i].f1 - b) = max 0 (l[i].f1 - b) := by unfold mx; omega
      rw [e1, e2]
      rfl
    rw [e]
    simpa using ih
theorem Held_f (l : List S23) (b : Int) (hl : l.length ≤ 1000) (hb : 0 ≤ b ∧ b ≤ 1000) (hf : ∀ s ∈ toSp l, 0 ≤ s.lo ∧ s.lo ≤ 2000 ∧ 0 ≤ s.hi ∧ s.hi ≤ 2000) : Ev (fun k => rf_Held.f k l b) (ofSp (heldL (toSp l) b)) := by
  have h := Held_l0 l b hl hb hf l.length 0 [] (by omega) rfl
  simpa [rf_Held.f, heldL] using h
theorem fine_held_hi {m : Mill} {l : List Sp} {plan : List Int} {b : Int} (h : Fine m Sp.hi l plan) (hb : 0 ≤ b) : Fine m Sp.hi (heldL l b) plan := by
  refine ⟨h.ho, h.T, h.now, fun s hs => ?_, h.pl, by rw [heldL_length]; exact h.len⟩
  obtain ⟨t, ht, rfl⟩ := List.mem_map.1 hs
  have := h.flow t ht
  simp only [heldSp]
  omega
theorem fine_wet_hi {m : Mill} {l : List Sp} {plan : List Int} {i : Nat} {b : Int} (h : Fine m Sp.hi l plan) (hf : ∀ s ∈ l, s.hi ≤ 500) (hi : i < l.length) (hb : 0 ≤ b ∧ b ≤ 1000) : Fine m Sp.hi (wetL l i b) plan := by
  refine ⟨h.ho, h.T, h.now, fun s hs => ?_, h.pl, by rw [wetL_length]; exact h.len⟩
  rcases List.mem_or_eq_of_mem_set hs with h1 | rfl
  · exact h.flow s h1
  · have h1 := h.flow (rdS l i) (by rw [rdS_nat l i hi]; exact List.getElem_mem _)
    have h2 := hf (rdS l i) (by rw [rdS_nat l i hi]; exact List.getElem_mem _)
    simp only
    omega
theorem srch_spec (p : Nat → Bool) (n : Nat) (hm : ∀ i j, i ≤ j → p i = true → p j = true) : srch p n ≤ n ∧ (∀ j, j < srch p n → p j = false) ∧ (∀ j, srch p n ≤ j → j < n → p j = true) := by
  have h1 := bsr_le p n 0 n (Nat.zero_le _)
  have h2 := bsr_spec p n n 0 n (by omega) (Nat.zero_le _) (.inl rfl) (.inl rfl)
  refine ⟨h1.2, fun j hj => ?_, fun j hj hn => ?_⟩
  · rcases h2.1 with h | h
    · rw [show srch p n = bsr p n 0 n from rfl, h] at hj; omega
    · cases hp : p j
      · rfl
      · have := hm j (bsr p n 0 n - 1) (by rw [show srch p n = bsr p n 0 n from rfl] at hj; omega) hp
        rw [h] at this; exact this.symm
  · rcases h2.2 with h | h
    · rw [show srch p n = bsr p n 0 n from rfl, h] at hj; omega
    · exact hm _ j hj h
theorem held_less (l : List Sp) (a b : Int) (h : a ≤ b) (i : Nat) (hi : i < l.length) : (rdS (heldL l b) i).lo ≤ (rdS (heldL l a) i).lo := by
  rw [rdS_nat _ i (by rw [heldL_length]; exact hi), rdS_nat _ i (by rw [heldL_length]; exact hi)]
  simp only [heldL, List.getElem_map, heldSp]
  omega
theorem upP_mono (m : Mill) (l : List Sp) (p : List Int) (hl : p.length ≤ l.length) : ∀ i j : Nat, i ≤ j → upP m l p i = true → upP m l p j = true := by
  intro i j hij h
  unfold upP at h ⊢
  rw [Bool.not_eq_true'] at h ⊢
  cases hr : rightB m (heldL l ((j : Int) + 1)) p
  · rfl
  · have := right_more m (heldL l ((j : Int) + 1)) (heldL l ((i : Int) + 1)) p (by rw [heldL_length]; exact hl) (by rw [heldL_length, heldL_length]) (fun q hq => held_less l _ _ (by omega) q (by rwa [heldL_length] at hq)) hr
    rw [h] at this
    cases this
theorem Upstream_l0 (a0 a1 a2 a3 a4 a5 a6 : Int) (l : List S23) (plan : List Int) (hl : l.length ≤ 1000) (h0 : Fine ⟨a0, a1, a2, a3, a4, a5, a6⟩ Sp.lo (toSp l) plan) (h1 : Fine ⟨a0, a1, a2, a3, a4, a5, a6⟩ Sp.hi (toSp l) plan) : ∀ (d n : Nat), n + d = 500 → n ≤ srch (upP ⟨a0, a1, a2, a3, a4, a5, a6⟩ (toSp l) plan) 500 →
    Ev (fun k => rf_Upstream.l0 k l plan (n : Int) a0 a1 a2 a3 a4 a5 a6) ((srch (upP ⟨a0, a1, a2, a3, a4, a5, a6⟩ (toSp l) plan) 500 : Nat) : Int)
  | 0, n, h, hn => by
    have hs := srch_spec (upP ⟨a0, a1, a2, a3, a4, a5, a6⟩ (toSp l) plan) 500 (upP_mono _ _ _ h0.len)
    refine Ev.up ?_
    simp only [rf_Upstream.l0, if_neg (show ¬ (n : Int) < 500 by omega)]
    rw [show srch (upP ⟨a0, a1, a2, a3, a4, a5, a6⟩ (toSp l) plan) 500 = n by omega]
    exact Ev.now _
  | d + 1, n, h, hn => by
    have hs := srch_spec (upP ⟨a0, a1, a2, a3, a4, a5, a6⟩ (toSp l) plan) 500 (upP_mono _ _ _ h0.len)
    refine Ev.up ?_
    simp only [rf_Upstream.l0, if_pos (show (n : Int) < 500 by omega)]
    rw [wi n (by omega)]
    have hq : ((n + 1 : Nat) : Int) = (n : Int) + 1 := by omega
    refine Ev.bind (Held_f l ((n + 1 : Nat) : Int) hl (by omega) (fun s hs => ⟨(h0.flow s hs).1, (h0.flow s hs).2, (h1.flow s hs).1, (h1.flow s hs).2⟩)) ?_
    have f0 := fine_held (b := ((n + 1 : Nat) : Int)) h0 (by omega)
    have f1 := fine_held_hi (b := ((n + 1 : Nat) : Int)) h1 (by omega)
    rw [← toSp_ofSp (heldL (toSp l) ((n + 1 : Nat) : Int))] at f0 f1
    refine Ev.bind (Right_f a0 a1 a2 a3 a4 a5 a6 _ plan (by rw [ofSp_len, heldL_length, toSp_len]; exact hl) f0 f1) ?_
    rw [toSp_ofSp, hq]
    by_cases hlt : n < srch (upP ⟨a0, a1, a2, a3, a4, a5, a6⟩ (toSp l) plan) 500
    · have hp := hs.2.1 n hlt
      unfold upP at hp
      rw [Bool.not_eq_false'] at hp
      simp only [hp, if_true]
      rw [← hq]
      exact Upstream_l0 a0 a1 a2 a3 a4 a5 a6 l plan hl h0 h1 d (n + 1) (by omega) (by omega)
    · have hp := hs.2.2 n (by omega) (by omega)
      unfold upP at hp
      rw [Bool.not_eq_true'] at hp
      simp only [hp, Bool.false_eq_true, if_false]
      rw [show srch (upP ⟨a0, a1, a2, a3, a4, a5, a6⟩ (toSp l) plan) 500 = n by omega]
      exact Ev.now _
theorem Upstream_f (a0 a1 a2 a3 a4 a5 a6 : Int) (l : List S23) (plan : List Int) (hl : l.length ≤ 1000) (h0 : Fine ⟨a0, a1, a2, a3, a4, a5, a6⟩ Sp.lo (toSp l) plan) (h1 : Fine ⟨a0, a1, a2, a3, a4, a5, a6⟩ Sp.hi (toSp l) plan) :
    Ev (fun k => rf_Upstream.f k a0 a1 a2 a3 a4 a5 a6 l plan) ((srch (upP ⟨a0, a1, a2, a3, a4, a5, a6⟩ (toSp l) plan) 500 : Nat) : Int) := by
  unfold rf_Upstream.f
  exact Upstream_l0 a0 a1 a2 a3 a4 a5 a6 l plan hl h0 h1 500 0 (by omega) (Nat.zero_le _)
end Go.Proofs.Ytcnlbbmokphjnaa.Q
namespace Go.Proofs.Ytcnlbbmokphjnaa.Q
open Go.RowKit Go.Proofs.YtcnlbbmokphjnaaW.PrintWords
set_option linter.unusedVariables false
set_option linter.unusedSimpArgs false
theorem Wetter_f (l : List S23) (i : Nat) (n : Int) (hl : l.length ≤ 1000) (hi : i < l.length) (hn : 0 ≤ n ∧ n ≤ 1000) (hf : ∀ s ∈ toSp l, 0 ≤ s.lo ∧ s.lo ≤ 2000 ∧ 0 ≤ s.hi ∧ s.hi ≤ 2000) : rf_Wetter.f l (i : Int) n = some (ofSp (wetL (toSp l) i n)) := by
  unfold rf_Wetter.f
  rw [if_pos ⟨hl, by omega, by omega, fun s hs => by have := hf s hs; omega⟩, Int.toNat_natCast]
theorem wet_more (l : List Sp) (i : Nat) (a b : Int) (h : a ≤ b) (hi : i < l.length) (q : Nat) (hq : q < l.length) : (rdS (wetL l i a) q).lo ≤ (rdS (wetL l i b) q).lo := by
  unfold wetL
  rw [rdS_set l i q _ hi, rdS_set l i q _ hi]
  split
  · simp only; omega
  · omega
theorem raP_mono (m : Mill) (l : List Sp) (p : List Int) (hl : p.length ≤ l.length) (q : Nat) (hq : q < l.length) : ∀ i j : Nat, i ≤ j → raP m l p q i = true → raP m l p q j = true := by
  intro i j hij h
  unfold raP at h ⊢
  exact right_more m _ _ p (by rw [wetL_length]; exact hl) (by rw [wetL_length, wetL_length]) (fun z hz => wet_more l q _ _ (by omega) hq z (by rwa [wetL_length] at hz)) h
def rs (m : Mill) (l : List Sp) (p : List Int) (i : Nat) : Nat := srch (raP m l p i) 501
theorem rainR_spec (m : Mill) (l : List Sp) (p : List Int) : ∀ k : Nat, (rainR m l p k).2 ≤ 501 ∧ (∀ i, i < k → (rainR m l p k).2 ≤ (rs m l p i : Int)) ∧
    ((rainR m l p k = (0, 501)) ∨ ∃ h : Nat, h < k ∧ rainR m l p k = ((h : Int), (rs m l p h : Int)) ∧ rs m l p h < 501 ∧ ∀ i, i < h → rs m l p h < rs m l p i)
  | 0 => ⟨by simp [rainR], fun i hi => by omega, .inl (by simp [rainR])⟩
  | k + 1 => by
    obtain ⟨h1, h2, h3⟩ := rainR_spec m l p k
    rw [rainR_succ]
    unfold rainStep
    by_cases hlt : ((rs m l p k : Nat) : Int) < (rainR m l p k).2
    · rw [if_pos (by exact hlt)]
      refine ⟨by show ((rs m l p k : Nat) : Int) ≤ 501; omega, fun i hi => ?_, .inr ⟨k, by omega, rfl, by omega, fun i hi => ?_⟩⟩
      · show ((rs m l p k : Nat) : Int) ≤ _
        rcases Nat.lt_or_ge i k with h | h
        · have := h2 i h; omega
        · have : i = k := by omega
          subst this; omega
      · have := h2 i hi; omega
    · rw [if_neg (by exact hlt)]
      refine ⟨h1, fun i hi => ?_, ?_⟩
      · rcases Nat.lt_or_ge i k with h | h
        · exact h2 i h
        · have : i = k := by omega
          subst this; omega
      · rcases h3 with h3 | ⟨h, hh, h4, h5, h6⟩
        · exact .inl h3
        · exact .inr ⟨h, by omega, h4, h5, h6⟩
def rainA (m : Mill) (l : List Sp) (p : List Int) : Int × Int := if (rainR m l p l.length).2 ≤ 500 then rainR m l p l.length else (-1, 0)
section
variable (a0 a1 a2 a3 a4 a5 a6 : Int) (l : List S23) (plan : List Int) (hl : l.length ≤ 1000) (h0 : Fine ⟨a0, a1, a2, a3, a4, a5, a6⟩ Sp.lo (toSp l) plan) (h1 : Fine ⟨a0, a1, a2, a3, a4, a5, a6⟩ Sp.hi (toSp l) plan) (hf : ∀ s ∈ toSp l, s.lo ≤ 500 ∧ s.hi ≤ 500)
include hl h0 h1 hf
theorem Rain_l1 (more : Nat) (hm : 1 ≤ more ∧ more ≤ 500) (hv : (more : Int) ≤ (rainR ⟨a0, a1, a2, a3, a4, a5, a6⟩ (toSp l) plan l.length).2)
    (hnext : (more : Int) + 1 ≤ (rainR ⟨a0, a1, a2, a3, a4, a5, a6⟩ (toSp l) plan l.length).2 → Ev (fun k => rf_Rain.l0 k l plan ((more + 1 : Nat) : Int) a0 a1 a2 a3 a4 a5 a6) (rainA ⟨a0, a1, a2, a3, a4, a5, a6⟩ (toSp l) plan)) :
    ∀ (d i : Nat), i + d = l.length → (∀ j, j < i → more < rs ⟨a0, a1, a2, a3, a4, a5, a6⟩ (toSp l) plan j) → Ev (fun k => rf_Rain.l1 k l plan (more : Int) (i : Int) a0 a1 a2 a3 a4 a5 a6) (rainA ⟨a0, a1, a2, a3, a4, a5, a6⟩ (toSp l) plan)
  | 0, i, h, hj => by
    refine Ev.up ?_
    obtain rfl : i = l.length := by omega
    simp only [rf_Rain.l1, if_neg (show ¬ (l.length : Int) < (l.length : Int) by omega), wi more (by omega)]
    refine hnext ?_
    obtain ⟨q1, q2, q3⟩ := rainR_spec ⟨a0, a1, a2, a3, a4, a5, a6⟩ (toSp l) plan l.length
    rcases q3 with q3 | ⟨h, hh, q4, q5, q6⟩
    · rw [q3]; simp only; omega
    · rw [q4]; have := hj h hh; simp only; omega
  | d + 1, i, h, hj => by
    refine Ev.up ?_
    have hi : i < l.length := by omega
    have hil : i < (toSp l).length := by rw [toSp_len]; omega
    have hs := srch_spec (raP ⟨a0, a1, a2, a3, a4, a5, a6⟩ (toSp l) plan i) 501 (raP_mono _ _ _ h0.len i hil)
    simp only [rf_Rain.l1, if_pos (show (i : Int) < (l.length : Int) by omega), Wetter_f l i (more : Int) hl hi (by omega) (fun s hs => ⟨(h0.flow s hs).1, (h0.flow s hs).2, (h1.flow s hs).1, (h1.flow s hs).2⟩), Option.bind_some, wi i (by omega)]
    have f0 := fine_wet (i := i) (b := (more : Int)) h0 (fun s hs => (hf s hs).1) hil (by omega)
    have f1 := fine_wet_hi (i := i) (b := (more : Int)) h1 (fun s hs => (hf s hs).2) hil (by omega)
    rw [← toSp_ofSp (wetL (toSp l) i (more : Int))] at f0 f1
    refine Ev.bind (Right_f a0 a1 a2 a3 a4 a5 a6 _ plan (by rw [ofSp_len, wetL_length, toSp_len]; exact hl) f0 f1) ?_
    rw [toSp_ofSp]
    have hra : rightB ⟨a0, a1, a2, a3, a4, a5, a6⟩ (wetL (toSp l) i (more : Int)) plan = raP ⟨a0, a1, a2, a3, a4, a5, a6⟩ (toSp l) plan i more := rfl
    rw [hra]
    obtain ⟨q1, q2, q3⟩ := rainR_spec ⟨a0, a1, a2, a3, a4, a5, a6⟩ (toSp l) plan l.length
    by_cases hle : rs ⟨a0, a1, a2, a3, a4, a5, a6⟩ (toSp l) plan i ≤ more
    · have hp := hs.2.2 more hle (by omega)
      simp only [hp, if_true]
      have q7 := q2 i hi
      rcases q3 with q3 | ⟨h', hh, q4, q5, q6⟩
      · rw [q3] at hv q7; simp only at hv q7; omega
      · rw [q4] at hv q7
        simp only at hv q7
        have e1 : h' = i := by
          rcases Nat.lt_trichotomy h' i with q | q | q
          · have := hj h' q; omega
          · exact q
          · have := q6 i q; omega
        subst e1
        have e2 : rs ⟨a0, a1, a2, a3, a4, a5, a6⟩ (toSp l) plan h' = more := by omega
        have e3 : rainA ⟨a0, a1, a2, a3, a4, a5, a6⟩ (toSp l) plan = ((h' : Int), (more : Int)) := by
          unfold rainA
          rw [toSp_len, q4, e2, if_pos (by simp only; omega)]
        rw [e3]
        exact Ev.now _
    · have hp := hs.2.1 more (by show more < rs ⟨a0, a1, a2, a3, a4, a5, a6⟩ (toSp l) plan i; omega)
      simp only [hp, Bool.false_eq_true, if_false]
      exact Rain_l1 more hm hv hnext d (i + 1) (by omega) (fun j hj' => by
        rcases Nat.lt_or_ge j i with q | q
        · exact hj j q
        · have : j = i := by omega
          subst this; omega)
theorem Rain_l0 : ∀ (d more : Nat), more + d = 501 → 1 ≤ more → (more : Int) ≤ (rainR ⟨a0, a1, a2, a3, a4, a5, a6⟩ (toSp l) plan l.length).2 → Ev (fun k => rf_Rain.l0 k l plan (more : Int) a0 a1 a2 a3 a4 a5 a6) (rainA ⟨a0, a1, a2, a3, a4, a5, a6⟩ (toSp l) plan)
  | 0, more, h, h2, hv => by
    refine Ev.up ?_
    simp only [rf_Rain.l0, if_neg (show ¬ (more : Int) ≤ 500 by omega)]
    unfold rainA
    rw [toSp_len, if_neg (by omega)]
    exact Ev.now _
  | d + 1, more, h, h2, hv => by
    refine Ev.up ?_
    simp only [rf_Rain.l0, if_pos (show (more : Int) ≤ 500 by omega)]
    exact Rain_l1 a0 a1 a2 a3 a4 a5 a6 l plan hl h0 h1 hf more (by omega) hv (fun hv2 => Rain_l0 d (more + 1) (by omega) (by omega) (by omega)) l.length 0 (by omega) (fun j hj => by omega)
theorem Rain_f (hr : rightB ⟨a0, a1, a2, a3, a4, a5, a6⟩ (toSp l) plan = false) : Ev (fun k => rf_Rain.f k a0 a1 a2 a3 a4 a5 a6 l plan) (rainA ⟨a0, a1, a2, a3, a4, a5, a6⟩ (toSp l) plan) := by
  unfold rf_Rain.f
  refine Rain_l0 a0 a1 a2 a3 a4 a5 a6 l plan hl h0 h1 hf 500 1 (by omega) (by omega) ?_
  obtain ⟨q1, q2, q3⟩ := rainR_spec ⟨a0, a1, a2, a3, a4, a5, a6⟩ (toSp l) plan l.length
  rcases q3 with q3 | ⟨h', hh, q4, q5, q6⟩
  · rw [q3]; simp
  · rw [q4]
    have hil : h' < (toSp l).length := by rw [toSp_len]; omega
    have hs := srch_spec (raP ⟨a0, a1, a2, a3, a4, a5, a6⟩ (toSp l) plan h') 501 (raP_mono _ _ _ h0.len h' hil)
    have hz : raP ⟨a0, a1, a2, a3, a4, a5, a6⟩ (toSp l) plan h' 0 = false := by
      unfold raP
      rw [← hr]
      congr 1
      unfold wetL
      apply List.ext_getElem (by simp)
      intro j hj1 hj2
      rw [List.getElem_set]
      split
      · rename_i e; subst e; rw [rdS_nat _ h' hil]; simp
      · rfl
    have hne : rs ⟨a0, a1, a2, a3, a4, a5, a6⟩ (toSp l) plan h' ≠ 0 := fun e => by
      have := hs.2.2 0 (by show rs ⟨a0, a1, a2, a3, a4, a5, a6⟩ (toSp l) plan h' ≤ 0; omega) (by omega)
      rw [hz] at this
      cases this
    simp only
    omega
end
theorem StreamUpstreams_ev (a0 a1 a2 a3 a4 a5 a6 : Int) (l1 : List S23) (l2 : List Int) : Ev (fun k => lw_StreamUpstreams.f k a0 a1 a2 a3 a4 a5 a6 l1 l2) true := by
  unfold lw_StreamUpstreams.f
  by_cases h1 : l1.length > 40
  · simp only [if_pos (show (l1.length : Int) > 40 by omega)]
    refine Ev.up ?_
    simp only [lw_StreamUpstreams.j0, if_true, known_f, Option.bind_some]
    exact Ev.now true
  simp only [if_neg (show ¬ (l1.length : Int) > 40 by omega)]
  by_cases h2 : l2.length > 40
  · simp only [decide_eq_true (show (l2.length : Int) > 40 by omega)]
    refine Ev.up ?_
    simp only [lw_StreamUpstreams.j0, if_true, known_f, Option.bind_some]
    exact Ev.now true
  simp only [decide_eq_false (show ¬ (l2.length : Int) > 40 by omega)]
  refine Ev.up ?_
  simp only [lw_StreamUpstreams.j0, Bool.false_eq_true, if_false, Copy_f l1 (by omega), Ints_f l2 (by omega), Option.bind_some, stream_Upstream.f, stream_Rain.f]
  refine Ev.bind (Same_f l1 l1 (by omega)) ?_
  simp only [decide_true, if_true]
  refine Ev.bind (Like_f l2 l2 (by omega)) ?_
  refine Ev.up ?_
  simp only [lw_StreamUpstreams.j1, decide_true, Bool.not_true, Bool.false_eq_true, if_false]
  refine Ev.bind (Check_f a0 a1 a2 a3 a4 a5 a6 l1 (by omega)) ?_
  generalize hM : (⟨a0, a1, a2, a3, a4, a5, a6⟩ : Mill) = M
  have hH : M.H = a0 := by rw [← hM]
  by_cases hc : checkE M (toSp l1) = 0
  · simp only [if_pos hc]
    refine Ev.bind (Plan_f a0 a1 a2 a3 a4 a5 a6 l2 (by omega) _ _) ?_
    rw [← hH]
    cases hp : (inB (l1.length : Int) (l1.length : Int) [(l2.length : Int)] && inB 0 M.H l2)
    · have hE : openE M (toSp l1) l2 ((toSp l1).length : Int) = 4 := by
        unfold openE planB
        rw [if_pos hc, toSp_len, hp]; rfl
      refine Ev.up ?_
      simp only [lw_StreamUpstreams.j2, Bool.not_false, if_true]
      refine Ev.up ?_
      have g1 : upsE M (toSp l1) l2 = 4 := by simp [upsE, hE]
      have g2 : upsI M (toSp l1) l2 = 0 := by simp [upsI, g1]
      have g3 : rainG M (toSp l1) l2 = 4 := by simp [rainG, hE]
      have g4 : rainE M (toSp l1) l2 = 4 := by simp [rainE, g3]
      have g5 : rainH M (toSp l1) l2 = 0 := by simp [rainH, g4]
      have g6 : rainM M (toSp l1) l2 = 0 := by simp [rainM, g4]
      simp only [lw_StreamUpstreams.j3, g1, g2, g4, g5, g6]
      simpa [known_f] using Ev.now true
    · have hE : openE M (toSp l1) l2 ((toSp l1).length : Int) = 0 := by
        unfold openE planB
        rw [if_pos hc, toSp_len, hp]; rfl
      have hv := open_of M (toSp l1) l2 _ hE
      have hlo := fine_lo hv.1 hv.2
      have hhi := fine_hi hv.1 hv.2
      refine Ev.up ?_
      simp only [lw_StreamUpstreams.j2, Bool.not_true, Bool.false_eq_true, if_false]
      refine Ev.up ?_
      simp only [lw_StreamUpstreams.j3, if_pos hc]
      rw [hH]
      subst hM
      refine Ev.bind (Right_f a0 a1 a2 a3 a4 a5 a6 l1 l2 (by omega) hlo hhi) ?_
      cases hr : rightB ⟨a0, a1, a2, a3, a4, a5, a6⟩ (toSp l1) l2
      · have g1 : upsE ⟨a0, a1, a2, a3, a4, a5, a6⟩ (toSp l1) l2 = 9 := by simp [upsE, hE, hr]
        have g2 : upsI ⟨a0, a1, a2, a3, a4, a5, a6⟩ (toSp l1) l2 = 0 := by simp [upsI, g1]
        have g3 : rainG ⟨a0, a1, a2, a3, a4, a5, a6⟩ (toSp l1) l2 = 0 := by simp [rainG, hE, hr]
        simp only [g1, g2, Bool.false_eq_true, if_false, if_true, bne_self_eq_false]
        refine Ev.up ?_
        simp only [lw_StreamUpstreams.j4, Bool.false_eq_true, if_false]
        refine Ev.bind (Rain_f a0 a1 a2 a3 a4 a5 a6 l1 l2 (by omega) hlo hhi (fun s hs => by have := hv.1.flow s hs; omega) hr) ?_
        obtain ⟨q1, q2, q3⟩ := rainR_spec ⟨a0, a1, a2, a3, a4, a5, a6⟩ (toSp l1) l2 (toSp l1).length
        by_cases h5 : (rainR ⟨a0, a1, a2, a3, a4, a5, a6⟩ (toSp l1) l2 (toSp l1).length).2 ≤ 500
        · have g4 : rainE ⟨a0, a1, a2, a3, a4, a5, a6⟩ (toSp l1) l2 = 0 := by rw [rainE, if_pos g3, if_neg (by omega)]
          have g5 : rainH ⟨a0, a1, a2, a3, a4, a5, a6⟩ (toSp l1) l2 = (rainR ⟨a0, a1, a2, a3, a4, a5, a6⟩ (toSp l1) l2 (toSp l1).length).1 := by rw [rainH, if_pos g4]
          have g6 : rainM ⟨a0, a1, a2, a3, a4, a5, a6⟩ (toSp l1) l2 = (rainR ⟨a0, a1, a2, a3, a4, a5, a6⟩ (toSp l1) l2 (toSp l1).length).2 := by rw [rainM, if_pos g4]
          have g7 : rainA ⟨a0, a1, a2, a3, a4, a5, a6⟩ (toSp l1) l2 = rainR ⟨a0, a1, a2, a3, a4, a5, a6⟩ (toSp l1) l2 (toSp l1).length := by rw [rainA, if_pos h5]
          have g8 : ¬ (rainR ⟨a0, a1, a2, a3, a4, a5, a6⟩ (toSp l1) l2 (toSp l1).length).1 < 0 := by
            rcases q3 with q3 | ⟨h', hh, q4, q5, q6⟩
            · rw [q3]; simp
            · rw [q4]; simp only; omega
          simp only [g4, g5, g6, g7, if_neg g8, if_true, known_f, Option.bind_some]
          exact Ev.now true
        · have g4 : rainE ⟨a0, a1, a2, a3, a4, a5, a6⟩ (toSp l1) l2 = 7 := by rw [rainE, if_pos g3, if_pos (by omega)]
          have g5 : rainH ⟨a0, a1, a2, a3, a4, a5, a6⟩ (toSp l1) l2 = 0 := by simp [rainH, g4]
          have g6 : rainM ⟨a0, a1, a2, a3, a4, a5, a6⟩ (toSp l1) l2 = 0 := by simp [rainM, g4]
          have g7 : rainA ⟨a0, a1, a2, a3, a4, a5, a6⟩ (toSp l1) l2 = (-1, 0) := by rw [rainA, if_neg h5]
          simp only [g4, g5, g6, g7]
          simpa [known_f] using Ev.now true
      · have g1 : upsE ⟨a0, a1, a2, a3, a4, a5, a6⟩ (toSp l1) l2 = 0 := by simp [upsE, hE, hr]
        have g2 : upsI ⟨a0, a1, a2, a3, a4, a5, a6⟩ (toSp l1) l2 = ((srch (upP ⟨a0, a1, a2, a3, a4, a5, a6⟩ (toSp l1) l2) 500 : Nat) : Int) := by rw [upsI, if_pos g1]
        have g3 : rainG ⟨a0, a1, a2, a3, a4, a5, a6⟩ (toSp l1) l2 = 6 := by simp [rainG, hE, hr]
        have g4 : rainE ⟨a0, a1, a2, a3, a4, a5, a6⟩ (toSp l1) l2 = 6 := by simp [rainE, g3]
        have g5 : rainH ⟨a0, a1, a2, a3, a4, a5, a6⟩ (toSp l1) l2 = 0 := by simp [rainH, g4]
        have g6 : rainM ⟨a0, a1, a2, a3, a4, a5, a6⟩ (toSp l1) l2 = 0 := by simp [rainM, g4]
        simp only [g1, if_true]
        refine Ev.bind (Upstream_f a0 a1 a2 a3 a4 a5 a6 l1 l2 (by omega) hlo hhi) ?_
        simp only [g2, g4, g5, g6, if_true, known_f, Option.bind_some]
        exact Ev.now true
  · simp only [if_neg hc]
    have hE : openE M (toSp l1) l2 ((toSp l1).length : Int) = checkE M (toSp l1) := by unfold openE; rw [if_neg hc]
    have hE0 : ¬ openE M (toSp l1) l2 ((toSp l1).length : Int) = 0 := by rw [hE]; exact hc
    refine Ev.up ?_
    simp only [lw_StreamUpstreams.j2, Bool.false_eq_true, if_false]
    refine Ev.up ?_
    have g1 : upsE M (toSp l1) l2 = checkE M (toSp l1) := by rw [upsE, if_neg hE0, hE]
    have g2 : upsI M (toSp l1) l2 = 0 := by rw [upsI, g1, if_neg hc]
    have g3 : rainG M (toSp l1) l2 = checkE M (toSp l1) := by rw [rainG, if_neg hE0, hE]
    have g4 : rainE M (toSp l1) l2 = checkE M (toSp l1) := by rw [rainE, g3, if_neg hc]
    have g5 : rainH M (toSp l1) l2 = 0 := by rw [rainH, g4, if_neg hc]
    have g6 : rainM M (toSp l1) l2 = 0 := by rw [rainM, g4, if_neg hc]
    simp only [lw_StreamUpstreams.j3, if_neg hc, g1, g2, g4, g5, g6]
    simpa [known_f] using Ev.now true
theorem StreamUpstreams_pure (a0 a1 a2 a3 a4 a5 a6 : Int) (l1 : List S23) (l2 : List Int) : ∃ k, lw_StreamUpstreams.f k a0 a1 a2 a3 a4 a5 a6 l1 l2 = some true := (StreamUpstreams_ev a0 a1 a2 a3 a4 a5 a6 l1 l2).rounds
end Go.Proofs.Ytcnlbbmokphjnaa.Q
