/- The walks of this program's functions. No condition. -/
import Derived.Test.YtemingmeidmjkaaDoorX0
import Derived.OrdersIn
import Derived.StillTailTactics
import Derived.RangeFuncNested
import Derived.RangeFuncBound
import Derived.RangeFuncCalls
import Derived.Lib.SliceRun
import Derived.Maps.RangeWalk
set_option linter.unusedVariables false
set_option linter.unusedSimpArgs false
namespace Go.Proofs.YtemingmeidmjkaaDoor.Q
open Go.RowKit Go.Proofs.YtemingmeidmjkaaDoorW.PrintWords Go.Proofs.YtemingmeidmjkaaDoorW.PrintLast Go.Proofs.YtemingmeidmjkaaDoorW.PrintMore
attribute [local go_sem] max2_int min2_int max_two min_two max_three min_three max_four min_four   -- for this text's walks alone
set_option linter.unusedVariables false
set_option linter.unusedSimpArgs false
def wool_road_on.f (l0_0 : List (S41)) (l0_1 : List (S80)) (a1 : Int) (a2_0 : Int) (a2_1 : Int) : Option (Int × Int) := (wool_some_isNone.f a2_0 a2_1).bind fun t112 => (if t112 = true then (some (a2_0, a2_1)) else ((wool_road_left.f l0_0 l0_1 a1 a2_0).bind fun bt113 => ((wool_road_left.f l0_0 l0_1 a1 a2_1).bind fun bt115 => (some (bt113.1, bt115.2)))))
def wool_road_on.T3 : Bool × List (List Nat × List Nat) := (true, [([], []), ([], []), ([], []), ([2], [2]), ([0, 1, 3], [0, 1, 3]), ([4], [4]), ([], []), ([], []), ([], []), ([8], [8]), ([6, 7, 9, 4], [6, 7, 9]), ([10], [10]), ([5, 11], [5, 11]), ([12, 10, 0, 1, 2, 3, 4, 5, 6, 7, 8, 9, 10, 11, 12], [12])])
def wool_road_on.B3 : List Nat := [0, 0, 0, 4, 15, 31, 0, 0, 0, 256, 991, 2015, 4095, 8191]
theorem wool_road_on.tab3 : rtab .any (opsOf Tryd.f101 3) = wool_road_on.T3 := by kernel_rfl
theorem wool_road_on.bits3 : waitsOk wool_road_on.T3.2 wool_road_on.B3 = true := by kernel_rfl
set_option maxHeartbeats 8000000 in
set_option maxRecDepth 100000 in
theorem wool_road_on.calls (A0_0 : Option Addr) (c0_0 : Nat) (l0_0 : List (S41)) (A0_1 : Option Addr) (c0_1 : Nat) (l0_1 : List (S80)) (a1 : Int) (a2_0 : Int) (a2_1 : Int) (r1 : Int) (r2 : Int) (w : World) (hr0_0 : Kd.C k41 w A0_0 l0_0.length l0_0) (hc0_0 : l0_0.length ≤ c0_0) (hr0_1 : Kd.C k80 w A0_1 l0_1.length l0_1) (hc0_1 : l0_1.length ≤ c0_1) (h : wool_road_on.f l0_0 l0_1 a1 a2_0 a2_1 = some (r1, r2)) :
  Calls Tryd.prog 101 #[.agg #[.slice A0_0 l0_0.length c0_0, .slice A0_1 l0_1.length c0_1], .int .i64 a1, .agg #[.int .i64 a2_0, .int .i64 a2_1]] w fun e w' => e = .returned (.agg #[.int .i64 r1, .int .i64 r2]) ∧ Below w.heap.size w w' := by
 have hu95 := Tryd.underlying95; have hu100 := Tryd.underlying100
 have hfd0_ : ∀ (w_ : World) (a0_ a1_ : Int), (Instr.field 100 (.agg #[.int .i64 a0_, .int .i64 a1_]) 0).run Tryd.prog w_ = .ok (.int .i64 a0_) w_ := by intros; kernel_rfl
 have hfd1_ : ∀ (w_ : World) (a0_ a1_ : Int), (Instr.field 100 (.agg #[.int .i64 a0_, .int .i64 a1_]) 1).run Tryd.prog w_ = .ok (.int .i64 a1_) w_ := by intros; kernel_rfl
 have HR0_0 := Aside0.mk hr0_0; have HC0_0 := Aside0.mk hc0_0; clear hr0_0 hc0_0; have HR0_1 := Aside0.mk hr0_1; have HC0_1 := Aside0.mk hc0_1; clear hr0_1 hc0_1; have HB := Aside0.mk (Below.refl w.heap.size w); have H : ((wool_some_isNone.f a2_0 a2_1).bind fun t112 => (if t112 = true then (some (a2_0, a2_1)) else ((wool_road_left.f l0_0 l0_1 a1 a2_0).bind fun bt113 => ((wool_road_left.f l0_0 l0_1 a1 a2_1).bind fun bt115 => (some (bt113.1, bt115.2)))))) = some (r1, r2) := h; clear h; obtain ⟨t112, A40, H⟩ := Option.bind_eq_some_iff.mp H; have A4 := Aside0.mk A40; clear A40
 by_cases c5 : t112 = true
 ·subst c5
  rw [if_pos rfl] at H; simp only [Option.some.injEq, Prod.mk.injEq] at H; obtain ⟨rfl, rfl⟩ := H
  go_enter Tryd.func101, Tryd.ntmps101
  go_wp2_with (first | ((with_reducible refine gate_dst (N := 3) rfl ?_); refine box_event ?hg (N := 3) ?hd (cs := #[.slice A0_0 l0_0.length c0_0, .slice A0_1 l0_1.length c0_1]) (t := 95) ?hr ?_; (case hd => rfl); (case hg => rfl); (case hr => first | (go_simp; done) | (go_simp; rfl)); intro gb109 hg w6 hbox hb; have BK109 := Aside0.mk (hbox); have GW109 := Aside0.mk (sqZ hg HB); have GE109 := Aside0.mk (sqZ hg HB); replace HB := sqb hb HB; clear hb hbox hg) | ((with_reducible refine gate_dst (N := 5) rfl ?_); refine box_event ?hg (N := 5) ?hd (cs := #[.int .i64 a2_0, .int .i64 a2_1]) (t := 100) ?hr ?_; (case hd => rfl); (case hg => rfl); (case hr => first | (go_simp; done) | (go_simp; rfl)); intro gb110 hg w7 hbox hb; have BK110 := Aside0.mk (hbox); have GW110 := Aside0.mk (sqZ hg HB); have GE110 := Aside0.mk (sqZ hg HB); replace HB := sqb hb HB; have NB109_110 := Aside0.mk (sqL hg BK109); have NB110_109 := Aside0.mk (sqG hg BK109); replace BK109 := sqk BK109 hb; clear hb hbox hg) | ((with_reducible refine gate_dst (N := 6) rfl ?_); refine box_event ?hg (N := 6) ?hd (cs := #[.int .i64 0, .int .i64 0]) (t := 100) ?hr ?_; (case hd => rfl); (case hg => rfl); (case hr => first | (go_simp; done) | (go_simp; rfl)); intro gb111 hg w8 hbox hb; have BK111 := Aside0.mk (hbox); have GW111 := Aside0.mk (sqZ hg HB); have GE111 := Aside0.mk (sqZ hg HB); replace HB := sqb hb HB; have NB109_111 := Aside0.mk (sqL hg BK109); have NB111_109 := Aside0.mk (sqG hg BK109); replace BK109 := sqk BK109 hb; have NB110_111 := Aside0.mk (sqL hg BK110); have NB111_110 := Aside0.mk (sqG hg BK110); replace BK110 := sqk BK110 hb; clear hb hbox hg; have hnb9 := NB110_109.out; have hnc9 := NB109_110.out; have hnb10 := NB110_111.out; have hnc10 := NB111_110.out; have hcz11_0 := sqc0 BK110; have hcz11_1 := sqc1 BK110; have hfz11_0 := blk_frozen BK110.out 0; have hfz11_1 := blk_frozen BK110.out 1) | ((with_reducible refine gate_callee (f := 82) rfl ?_); refine goesL_ (some 8) rfl rfl Tryd.func82 sqF rfl #[.agg #[.int .i64 a2_0, .int .i64 a2_1]] rfl sqM ?_; (with_reducible refine (wool_some_isNone.calls a2_0 a2_1 true _ A4.out).mono ?_); rintro e w12 ⟨rfl, hb⟩; refine ⟨_, rfl, ?_⟩; replace BK109 := sqk BK109 hb; replace BK110 := sqk BK110 hb; replace BK111 := sqk BK111 hb; replace HB := sqb hb HB; (try clear hb); (try clear hb2); (try clear hk); (try clear hi); have hcz13_0 := sqc0 BK110; have hcz13_1 := sqc1 BK110; have hfz13_0 := blk_frozen BK110.out 0; have hfz13_1 := blk_frozen BK110.out 1; have hnb14 := NB111_109.out; have hnc14 := NB109_111.out; have hcz15_0 := sqc0 BK111; have hcz15_1 := sqc1 BK111; have hfz15_0 := blk_frozen BK111.out 0; have hfz15_1 := blk_frozen BK111.out 1))
  refine bodyPost_ret (results_cell_row rfl _ _ gb111 100 #[.int .i64 a2_0, .int .i64 a2_1] (0, 0) _ rfl (by (with_reducible repeat (first | refine blk_drewN ?_ _ | refine blk_drew ?_ | refine blk_alloc ?_ _)); refine blk_put (cs := #[.int .i64 a2_0, .int .i64 0]) ?_ 1 _ rfl; (with_reducible repeat (first | refine blk_drewN ?_ _ | refine blk_drew ?_ | refine blk_alloc ?_ _)); refine blk_put (cs := #[.int .i64 0, .int .i64 0]) ?_ 0 _ rfl; (with_reducible repeat (first | refine blk_drewN ?_ _ | refine blk_drew ?_ | refine blk_alloc ?_ _)); exact BK111.out) Tryd.underlying100 rfl sqF) rfl ?_; exact ⟨by first | rfl | (simp [errW_none, errW_some] <;> rfl) | (simp [*, errW_none, errW_some] <;> rfl), sqB HB⟩
 ·replace c5 := Bool.eq_false_iff.mpr c5
  subst c5; rw [if_neg Bool.false_ne_true] at H; obtain ⟨⟨t113, t114⟩, A160, H⟩ := Option.bind_eq_some_iff.mp H; replace H : ((wool_road_left.f l0_0 l0_1 a1 a2_1).bind fun bt115 => (some (t113, bt115.2))) = some (r1, r2) := H; have A16 := Aside0.mk A160; clear A160; obtain ⟨⟨t115, t116⟩, A170, H⟩ := Option.bind_eq_some_iff.mp H; replace H : (some (t113, t116)) = some (r1, r2) := H; have A17 := Aside0.mk A170; clear A170; simp only [Option.some.injEq, Prod.mk.injEq] at H; obtain ⟨rfl, rfl⟩ := H
  go_enter Tryd.func101, Tryd.ntmps101
  try go_wp2_with (first | ((with_reducible refine gate_dst (N := 3) rfl ?_); refine box_event ?hg (N := 3) ?hd (cs := #[.slice A0_0 l0_0.length c0_0, .slice A0_1 l0_1.length c0_1]) (t := 95) ?hr ?_; (case hd => rfl); (case hg => rfl); (case hr => first | (go_simp; done) | (go_simp; rfl)); intro gb109 hg w18 hbox hb; have BK109 := Aside0.mk (hbox); have GW109 := Aside0.mk (sqZ hg HB); have GE109 := Aside0.mk (sqZ hg HB); replace HB := sqb hb HB; clear hb hbox hg) | ((with_reducible refine gate_dst (N := 5) rfl ?_); refine box_event ?hg (N := 5) ?hd (cs := #[.int .i64 a2_0, .int .i64 a2_1]) (t := 100) ?hr ?_; (case hd => rfl); (case hg => rfl); (case hr => first | (go_simp; done) | (go_simp; rfl)); intro gb110 hg w19 hbox hb; have BK110 := Aside0.mk (hbox); have GW110 := Aside0.mk (sqZ hg HB); have GE110 := Aside0.mk (sqZ hg HB); replace HB := sqb hb HB; have NB109_110 := Aside0.mk (sqL hg BK109); have NB110_109 := Aside0.mk (sqG hg BK109); replace BK109 := sqk BK109 hb; clear hb hbox hg) | ((with_reducible refine gate_dst (N := 6) rfl ?_); refine box_event ?hg (N := 6) ?hd (cs := #[.int .i64 0, .int .i64 0]) (t := 100) ?hr ?_; (case hd => rfl); (case hg => rfl); (case hr => first | (go_simp; done) | (go_simp; rfl)); intro gb111 hg w20 hbox hb; have BK111 := Aside0.mk (hbox); have GW111 := Aside0.mk (sqZ hg HB); have GE111 := Aside0.mk (sqZ hg HB); replace HB := sqb hb HB; have NB109_111 := Aside0.mk (sqL hg BK109); have NB111_109 := Aside0.mk (sqG hg BK109); replace BK109 := sqk BK109 hb; have NB110_111 := Aside0.mk (sqL hg BK110); have NB111_110 := Aside0.mk (sqG hg BK110); replace BK110 := sqk BK110 hb; clear hb hbox hg; have hnb21 := NB110_109.out; have hnc21 := NB109_110.out; have hnb22 := NB110_111.out; have hnc22 := NB111_110.out; have hcz23_0 := sqc0 BK110; have hcz23_1 := sqc1 BK110; have hfz23_0 := blk_frozen BK110.out 0; have hfz23_1 := blk_frozen BK110.out 1) | ((with_reducible refine gate_callee (f := 82) rfl ?_); refine goesL_ (some 8) rfl rfl Tryd.func82 sqF rfl #[.agg #[.int .i64 a2_0, .int .i64 a2_1]] rfl sqM ?_; (with_reducible refine (wool_some_isNone.calls a2_0 a2_1 false _ A4.out).mono ?_); rintro e w24 ⟨rfl, hb⟩; refine ⟨_, rfl, ?_⟩; replace BK109 := sqk BK109 hb; replace BK110 := sqk BK110 hb; replace BK111 := sqk BK111 hb; replace HB := sqb hb HB; (try clear hb); (try clear hb2); (try clear hk); (try clear hi)))
  have n0_ := Aside0.mk (blk_drew BK109.out); have n1_ := Aside0.mk (blk_drew BK110.out); have n2_ := Aside0.mk (blk_drew BK111.out); have n3_ := Aside0.mk (below_drew1 HB.out); clear BK109 BK110 BK111 HB; have BK109 := n0_; have BK110 := n1_; have BK111 := n2_; have HB := n3_; clear n0_ n1_ n2_ n3_; refine start_ (n := 14) (S := fun w' => w'.cell? ⟨gb109, 0, none⟩ = some (.slice A0_0 l0_0.length c0_0) ∧ w'.cell? ⟨gb109, 1, none⟩ = some (.slice A0_1 l0_1.length c0_1) ∧ w'.cell? ⟨gb110, 0, none⟩ = some (.int .i64 a2_0) ∧ w'.cell? ⟨gb110, 1, none⟩ = some (.int .i64 a2_1)) (ds := []) (bm 14 0) sqF rfl rfl ⟨(blk_cell BK109.out 0).trans rfl, (blk_cell BK109.out 1).trans rfl, (blk_cell BK110.out 0).trans rfl, (blk_cell BK110.out 1).trans rfl⟩ (fun hHeld => ?_); refine with_tabW wool_road_on.tab3 wool_road_on.bits3 (fun HT_ HW_ => ?_)
  generalize w24.drew = w25 at BK109 BK110 BK111 HB hHeld ⊢
  refine pure_ (i := 1) (N := some 11) (v := ?_) (a' := ?_) (bm 14 2) rfl rfl (any_of HT_.out sqF) (fun _ _ _ h => h) (Or.inl ⟨by rfl, ?_⟩) ?_ ?_
  rotate_left
  ·intro w'
   go_simp; with_reducible rfl
  rotate_left
  ·simp only [Act.put, sqA, i64_w, i32_w]; rfl
  refine pure_ (i := 2) (N := some 12) (v := ?_) (a' := ?_) (bm 14 6) rfl rfl (any_of HT_.out sqF) (fun _ _ _ h => h) (Or.inl ⟨by rfl, ?_⟩) ?_ ?_
  rotate_left
  ·intro w'
   go_simp; with_reducible rfl
  rotate_left
  ·simp only [Act.put, sqA, i64_w, i32_w]; rfl
  refine pure_ (i := 7) (N := some 17) (v := ?_) (a' := ?_) (bm 14 134) rfl rfl (any_of HT_.out sqF) (fun _ _ _ h => h) (Or.inl ⟨by rfl, ?_⟩) ?_ ?_
  rotate_left
  ·intro w'
   go_simp; with_reducible rfl
  rotate_left
  ·simp only [Act.put, sqA, i64_w, i32_w]; rfl
  refine pure_ (i := 8) (N := some 18) (v := ?_) (a' := ?_) (bm 14 390) rfl rfl (any_of HT_.out sqF) (fun _ _ _ h => h) (Or.inl ⟨by rfl, ?_⟩) ?_ ?_
  rotate_left
  ·intro w'
   go_simp; with_reducible rfl
  rotate_left
  ·simp only [Act.put, sqA, i64_w, i32_w]; rfl
  refine take_ (i := 0) (N := some 10) (v := ?_) (a' := ?_) (bm 14 391) rfl rfl (take_ofW HT_.out HW_.out sqF) (fun _ _ _ h => h) (Or.inl ⟨by rfl, ?_⟩) hHeld ?_ ?_
  rotate_left
  ·rintro w' ⟨s0, s1, s2, s3⟩
   go_simp; with_reducible rfl
  rotate_left
  ·simp only [Act.put, sqA, i64_w, i32_w]; rfl
  refine take_ (i := 3) (N := some 13) (v := ?_) (a' := ?_) (bm 14 399) rfl rfl (take_ofW HT_.out HW_.out sqF) (fun _ _ _ h => h) (Or.inl ⟨by rfl, ?_⟩) hHeld ?_ ?_
  rotate_left
  ·rintro w' ⟨s0, s1, s2, s3⟩
   go_simp; with_reducible rfl
  rotate_left
  ·simp only [Act.put, sqA, i64_w, i32_w]; rfl
  refine take_ (i := 6) (N := some 16) (v := ?_) (a' := ?_) (bm 14 463) rfl rfl (take_ofW HT_.out HW_.out sqF) (fun _ _ _ h => h) (Or.inl ⟨by rfl, ?_⟩) hHeld ?_ ?_
  rotate_left
  ·rintro w' ⟨s0, s1, s2, s3⟩
   go_simp; with_reducible rfl
  rotate_left
  ·simp only [Act.put, sqA, i64_w, i32_w]; rfl
  refine take_ (i := 9) (N := some 19) (v := ?_) (a' := ?_) (bm 14 975) rfl rfl (take_ofW HT_.out HW_.out sqF) (fun _ _ _ h => h) (Or.inl ⟨by rfl, ?_⟩) hHeld ?_ ?_
  rotate_left
  ·rintro w' ⟨s0, s1, s2, s3⟩
   go_simp; with_reducible rfl
  rotate_left
  ·simp only [Act.put, sqA, i64_w, i32_w]; rfl
  refine one_ (i := 4) (N := some 14) (bm 14 991) rfl rfl (one_of HT_.out sqF) (by decide) (fun K hK => ?_); refine goes_ Tryd.func62 sqF rfl #[.agg #[.slice A0_0 l0_0.length c0_0, .slice A0_1 l0_1.length c0_1], .int .i64 a1, .int .i64 a2_0] (by rfl) rfl rfl sqM ?_
  with_reducible refine (wool_road_left.calls _ _ l0_0 _ _ l0_1 a1 a2_0 t113 t114 _ ?side1 ?side2 ?side3 ?side4 A16.out).mono ?_
  (case side1 => exact sqQ HR0_0 HB)
  (case side2 => exact HC0_0.out)
  (case side3 => exact sqQ HR0_1 HB)
  (case side4 => exact HC0_1.out)
  rintro e w26 ⟨rfl, hb⟩; refine ⟨_, rfl, ?_⟩; have n0_ := Aside0.mk (blk_below (g := gb109) (o := .cells #[.slice A0_0 l0_0.length c0_0, .slice A0_1 l0_1.length c0_1] 95 (0, 0)) (sqK BK109) hb); have n1_ := Aside0.mk (blk_below (g := gb110) (o := .cells #[.int .i64 a2_0, .int .i64 a2_1] 100 (0, 0)) (sqK BK110) hb); have n2_ := Aside0.mk (blk_below (g := gb111) (o := .cells #[.int .i64 0, .int .i64 0] 100 (0, 0)) (sqK BK111) hb); have n3_ := Aside0.mk (below_step (sqB HB) hb); clear BK109 BK110 BK111 HB; have BK109 := n0_; have BK110 := n1_; have BK111 := n2_; have HB := n3_; clear n0_ n1_ n2_ n3_; (try clear hb); (try clear hb2); (try clear hk); (try clear hi); refine hK.out _ _ ⟨(blk_cell BK109.out 0).trans rfl, (blk_cell BK109.out 1).trans rfl, (blk_cell BK110.out 0).trans rfl, (blk_cell BK110.out 1).trans rfl⟩ (fun hHeld => ?_); clear hK K; refine norm_ (a' := ?_) ?_ ?_
  rotate_left
  ·show Act.put _ (some 14) _ = _
   simp only [Act.put, sqA, i64_w, i32_w]; rfl
  refine pure_ (i := 5) (N := some 15) (v := ?_) (a' := ?_) (bm 14 1023) rfl rfl (any_of HT_.out sqF) (fun _ _ _ h => h) (Or.inl ⟨by rfl, ?_⟩) ?_ ?_
  rotate_left
  ·intro w'
   go_simp; with_reducible rfl
  rotate_left
  ·simp only [Act.put, sqA, i64_w, i32_w]; rfl
  refine one_ (i := 10) (N := some 20) (bm 14 2047) rfl rfl (one_of HT_.out sqF) (by decide) (fun K hK => ?_); refine goes_ Tryd.func62 sqF rfl #[.agg #[.slice A0_0 l0_0.length c0_0, .slice A0_1 l0_1.length c0_1], .int .i64 a1, .int .i64 a2_1] (by rfl) rfl rfl sqM ?_
  with_reducible refine (wool_road_left.calls _ _ l0_0 _ _ l0_1 a1 a2_1 t115 t116 _ ?side1 ?side2 ?side3 ?side4 A17.out).mono ?_
  (case side1 => exact sqQ HR0_0 HB)
  (case side2 => exact HC0_0.out)
  (case side3 => exact sqQ HR0_1 HB)
  (case side4 => exact HC0_1.out)
  rintro e w27 ⟨rfl, hb⟩; refine ⟨_, rfl, ?_⟩; have n0_ := Aside0.mk (blk_below (g := gb109) (o := .cells #[.slice A0_0 l0_0.length c0_0, .slice A0_1 l0_1.length c0_1] 95 (0, 0)) (sqK BK109) hb); have n1_ := Aside0.mk (blk_below (g := gb110) (o := .cells #[.int .i64 a2_0, .int .i64 a2_1] 100 (0, 0)) (sqK BK110) hb); have n2_ := Aside0.mk (blk_below (g := gb111) (o := .cells #[.int .i64 0, .int .i64 0] 100 (0, 0)) (sqK BK111) hb); have n3_ := Aside0.mk (below_step (sqB HB) hb); clear BK109 BK110 BK111 HB; have BK109 := n0_; have BK110 := n1_; have BK111 := n2_; have HB := n3_; clear n0_ n1_ n2_ n3_; (try clear hb); (try clear hb2); (try clear hk); (try clear hi); refine hK.out _ _ ⟨(blk_cell BK109.out 0).trans rfl, (blk_cell BK109.out 1).trans rfl, (blk_cell BK110.out 0).trans rfl, (blk_cell BK110.out 1).trans rfl⟩ (fun hHeld => ?_); clear hK K; refine norm_ (a' := ?_) ?_ ?_
  rotate_left
  ·show Act.put _ (some 20) _ = _
   simp only [Act.put, sqA, i64_w, i32_w]; rfl
  refine pure_ (i := 11) (N := some 21) (v := ?_) (a' := ?_) (bm 14 4095) rfl rfl (any_of HT_.out sqF) (fun _ _ _ h => h) (Or.inl ⟨by rfl, ?_⟩) ?_ ?_
  rotate_left
  ·intro w'
   go_simp; with_reducible rfl
  rotate_left
  ·simp only [Act.put, sqA, i64_w, i32_w]; rfl
  refine pure_ (i := 12) (N := some 22) (v := ?_) (a' := ?_) (bm 14 8191) rfl rfl (any_of HT_.out sqF) (fun _ _ _ h => h) (Or.inl ⟨by rfl, ?_⟩) ?_ ?_
  rotate_left
  ·intro w'
   go_simp; with_reducible rfl
  rotate_left
  ·simp only [Act.put, sqA, i64_w, i32_w]; rfl
  refine one_ (i := 13) (N := none) (bm 14 16383) rfl rfl (one_of HT_.out sqF) (by decide) (fun K hK => ?_); have hs28 : w27.cell? ⟨gb111, 0, none⟩ = some (.int .i64 0) := (blk_cell BK111.out 0).trans rfl; have hfs28 := blk_frozen BK111.out 0; have hns28_0 := NB109_111.out; have hns28_1 := NB110_111.out; have hms28_0 := NB111_109.out; have hms28_1 := NB111_110.out; have hs29 : w27.cell? ⟨gb111, 1, none⟩ = some (.int .i64 0) := (blk_cell BK111.out 1).trans rfl; have hfs29 := blk_frozen BK111.out 1; have hns29_0 := NB109_111.out; have hns29_1 := NB110_111.out; have hms29_0 := NB111_109.out; have hms29_1 := NB111_110.out; refine skip_ (w1 := ?_) (by rfl) rfl ?_ ?_
  rotate_left
  ·go_simp
   rfl
  refine hK.out _ _ ⟨((cell_far (p := ⟨gb111, _, none⟩) NB109_111.out _).trans (((cell_far (p := ⟨gb111, _, none⟩) NB109_111.out _).trans (hHeld.1)))), ((cell_far (p := ⟨gb111, _, none⟩) NB109_111.out _).trans (((cell_far (p := ⟨gb111, _, none⟩) NB109_111.out _).trans (hHeld.2.1)))), ((cell_far (p := ⟨gb111, _, none⟩) NB110_111.out _).trans (((cell_far (p := ⟨gb111, _, none⟩) NB110_111.out _).trans (hHeld.2.2.1)))), ((cell_far (p := ⟨gb111, _, none⟩) NB110_111.out _).trans (((cell_far (p := ⟨gb111, _, none⟩) NB110_111.out _).trans (hHeld.2.2.2))))⟩ (fun hHeld => ?_); clear hK K; refine done_ (done_of HT_.out sqF) ?_
  try go_wp2
  refine bodyPost_ret (results_cell_row rfl _ _ gb111 100 #[.int .i64 t113, .int .i64 t116] (0, 0) _ rfl (by (with_reducible repeat (first | refine blk_drewN ?_ _ | refine blk_drew ?_ | refine blk_alloc ?_ _)); refine blk_put (cs := #[.int .i64 t113, .int .i64 0]) ?_ 1 _ rfl; (with_reducible repeat (first | refine blk_drewN ?_ _ | refine blk_drew ?_ | refine blk_alloc ?_ _)); refine blk_put (cs := #[.int .i64 0, .int .i64 0]) ?_ 0 _ rfl; (with_reducible repeat (first | refine blk_drewN ?_ _ | refine blk_drew ?_ | refine blk_alloc ?_ _)); exact BK111.out) Tryd.underlying100 rfl sqF) rfl ?_; exact ⟨by first | rfl | (simp [errW_none, errW_some] <;> rfl) | (simp [*, errW_none, errW_some] <;> rfl), sqB HB⟩
end Go.Proofs.YtemingmeidmjkaaDoor.Q
namespace Go.Proofs.YtemingmeidmjkaaDoor.Q
open Go.RowKit Go.Proofs.YtemingmeidmjkaaDoorW.PrintWords Go.Proofs.YtemingmeidmjkaaDoorW.PrintLast Go.Proofs.YtemingmeidmjkaaDoorW.PrintMore
attribute [local go_sem] max2_int min2_int max_two min_two max_three min_three max_four min_four   -- for this text's walks alone
set_option linter.unusedVariables false
set_option linter.unusedSimpArgs false
def wool_road_come.l0 : Nat → List (S100) → Int → Int → List (S41) → List (S80) → Option ((List (S100)))
 | 0, _, _, _, _, _ => none
 | k + 1, x3, x11, x12, x118000, x118001 => if x12 < x11 then (if 0 ≤ x12 then (if x12 < (x3.length : Int) then ((wool_road_on.f x118000 x118001 x12 ((rd_T100 x3 x12).f0) ((rd_T100 x3 x12).f1)).bind fun bt124 => ((wool_road_seen.f x118000 x118001 (wrap64 (x12 + 1))).bind fun bt126 => ((wool_some_and.f bt124.1 bt124.2 bt126.1 bt126.2).bind fun bt128 => (if x3.length < 8796093022208 then (wool_road_come.l0 k (x3 ++ [(⟨bt128.1, bt128.2⟩ : S100)]) x11 (wrap64 (x12 + 1)) x118000 x118001) else (none))))) else (none)) else (none)) else (some x3)
def wool_road_come.f (k : Nat) (l0_0 : List (S41)) (l0_1 : List (S80)) : Option ((List (S100))) := (wool_road_seen.f l0_0 l0_1 0).bind fun bt118 => (wool_road_come.l0 k (([(⟨bt118.1, bt118.2⟩ : S100)] : List (S100))) (l0_0.length : Int) 0 l0_0 l0_1)
def wool_road_come.T5 : Bool × List (List Nat × List Nat) := (true, [([], []), ([], []), ([], []), ([], []), ([], []), ([3, 4], [3, 4]), ([5], [5]), ([1, 2, 6], [1, 2, 6]), ([], []), ([], []), ([9], [9]), ([8, 10, 7], [8, 10]), ([7, 11, 11], [7, 11]), ([12], [12]), ([0, 13, 12], [0, 13]), ([14, 14, 0, 1, 2, 3, 4, 5, 6, 7, 8, 9, 10, 11, 12, 13, 14], [0, 3, 14])])
def wool_road_come.B5 : List Nat := [0, 0, 0, 0, 0, 24, 56, 126, 0, 0, 512, 2046, 4094, 8190, 16383, 32767]
theorem wool_road_come.tab5 : rtab .any (opsOf Tryd.f100 5) = wool_road_come.T5 := by kernel_rfl
theorem wool_road_come.bits5 : waitsOk wool_road_come.T5.2 wool_road_come.B5 = true := by kernel_rfl
set_option maxHeartbeats 8000000 in
set_option maxRecDepth 100000 in
theorem wool_road_come.calls (k : Nat) (A0_0 : Option Addr) (c0_0 : Nat) (l0_0 : List (S41)) (A0_1 : Option Addr) (c0_1 : Nat) (l0_1 : List (S80)) (r : List (S100)) (w : World) (hG : GL w) (hr0_0 : Kd.C k41 w A0_0 l0_0.length l0_0) (hc0_0 : l0_0.length ≤ c0_0) (hr0_1 : Kd.C k80 w A0_1 l0_1.length l0_1) (hc0_1 : l0_1.length ≤ c0_1) (h : wool_road_come.f k l0_0 l0_1 = some r) :
  Calls Tryd.prog 100 #[.agg #[.slice A0_0 l0_0.length c0_0, .slice A0_1 l0_1.length c0_1]] w fun e w' => ∃ v0_ : Value, e = .returned (v0_) ∧ Kd.R k100 100 w' w.heap.size (fun _ => True) v0_ r ∧ Below w.heap.size w w' := by
 have hu95 := Tryd.underlying95; have hu100 := Tryd.underlying100; have HR0_0 := Aside0.mk hr0_0; have HC0_0 := Aside0.mk hc0_0; clear hr0_0 hc0_0; have HR0_1 := Aside0.mk hr0_1; have HC0_1 := Aside0.mk hc0_1; clear hr0_1 hc0_1; have HB := Aside0.mk (Below.refl w.heap.size w); have HGL := Aside0.mk hG; clear hG; have H : ((wool_road_seen.f l0_0 l0_1 0).bind fun bt118 => (wool_road_come.l0 k (([(⟨bt118.1, bt118.2⟩ : S100)] : List (S100))) (l0_0.length : Int) 0 l0_0 l0_1)) = some r := h; clear h; obtain ⟨⟨t118, t119⟩, A20, H⟩ := Option.bind_eq_some_iff.mp H; replace H : (wool_road_come.l0 k (([(⟨t118, t119⟩ : S100)] : List (S100))) (l0_0.length : Int) 0 l0_0 l0_1) = some r := H; have A2 := Aside0.mk A20; clear A20; replace H : ∃ y_ : List (S100), y_ = (([(⟨t118, t119⟩ : S100)] : List (S100))) ∧ (wool_road_come.l0 k y_ (l0_0.length : Int) 0 l0_0 l0_1) = some r := ⟨_, rfl, sqJ H⟩; obtain ⟨y120, hy120, H⟩ := H; have Ny120 := Aside0.mk hy120; clear hy120; have H' := Aside0.mk H; clear H; go_enter Tryd.func100, Tryd.ntmps100
 go_wp2_with (first | ((with_reducible refine gate_dst (N := 1) rfl ?_); refine box_event ?hg (N := 1) ?hd (cs := #[.slice A0_0 l0_0.length c0_0, .slice A0_1 l0_1.length c0_1]) (t := 95) ?hr ?_; (case hd => rfl); (case hg => rfl); (case hr => first | (go_simp; done) | (go_simp; rfl)); intro gb117 hg w3 hbox hb; have BK117 := Aside0.mk (hbox); have GW117 := Aside0.mk (sqZ hg HB); have GE117 := Aside0.mk (sqZ hg HB); replace HB := sqb hb HB; clear hb hbox hg; have hcz4_0 := sqc0 BK117; have hcz4_1 := sqc1 BK117; have hfz4_0 := blk_frozen BK117.out 0; have hfz4_1 := blk_frozen BK117.out 1) | ((with_reducible refine gate_callee (f := 68) rfl ?_); refine goesL_ (some 6) rfl rfl Tryd.func68 sqF rfl #[.agg #[.slice A0_0 l0_0.length c0_0, .slice A0_1 l0_1.length c0_1], .int .i64 0] rfl sqM ?_; (with_reducible refine (wool_road_seen.calls _ _ l0_0 _ _ l0_1 0 t118 t119 _ ?sideG ?side1 ?side2 ?side3 ?side4 A2.out).mono ?_); (case sideG => exact sqQ HGL HB); (case side1 => exact sqQ HR0_0 HB); (case side2 => exact HC0_0.out); (case side3 => exact sqQ HR0_1 HB); (case side4 => exact HC0_1.out); rintro e w5 ⟨rfl, hb⟩; refine ⟨_, rfl, ?_⟩; replace BK117 := sqk BK117 hb; replace HB := sqb hb HB; (try clear hb); (try clear hb2); (try clear hk); (try clear hi)) | ((with_reducible refine gate_dst (N := 7) rfl ?_); refine Kd.R_lit k100 _ 100 ?hg (N := 7) ?hd (xs := ([(⟨t118, t119⟩ : S100)] : List (S100))) (inner := [.int .i64 t118, .int .i64 t119]) (ok := fun _ => True) (okp := fun _ => True) ?hr ?hp (fun _ hk => hk) trivial (Below.refl _ _) (Nat.le_refl _) (by simp) ?_; (case hd => rfl); (case hg => rfl); (case hr => first | (go_simp; done) | (go_simp; rfl)); (case hp => exact (Reps.c2 (show Kd.M k100 _ _ _ (⟨t118, t119⟩ : S100) [.int .i64 t118, .int .i64 t119] from (k100_mkM _ _ _ (⟨t118, t119⟩ : S100) )) (Reps.none _ _))); intro v121 w6 ho7 hb hg_ hnew_; clear hg_ hnew_; (first | rw [← Ny120.out] at ho7 | (simp only [Int.reduceToNat] at ho7; rw [← Ny120.out] at ho7)); have HO122 := Aside0.mk (Kd.R_lower ho7 (below_size (sqB HB))); replace BK117 := sqk BK117 hb; replace HB := sqb hb HB; clear hb ho7; have hcz8_0 := sqc0 BK117; have hcz8_1 := sqc1 BK117; have hfz8_0 := blk_frozen BK117.out 0; have hfz8_1 := blk_frozen BK117.out 1))
 go_loopg [3, 12] k (fun kq v3 v12 w' => ∃ (x3_1 : List (S100)) (x12_1 : Int), v12 = .int .i64 x12_1 ∧ Aside0 (wool_road_come.l0 kq x3_1 (l0_0.length : Int) x12_1 l0_0 l0_1 = some r) ∧ Aside0 (kq ≤ k) ∧ Aside0 (Kd.R k100 100 w' w.heap.size (fun _ => True) v3 x3_1) ∧ Aside0 (w'.heap[gb117]? = some (.cells #[(.slice A0_0 l0_0.length c0_0), (.slice A0_1 l0_1.length c0_1)] 95 (0, 0))) ∧ Aside0 (Below w.heap.size w w'))
 case atStart => exact ⟨(y120), (0), sqE, H', ⟨Nat.le_refl _⟩, ⟨sqR HO122⟩, ⟨sqK BK117⟩, ⟨sqB HB⟩⟩
 case round =>
  clear H'; try clear c2
  (try clear hcz4_0); (try clear hcz4_1); (try clear hcz8_0); (try clear hcz8_1); (try clear hfz4_0); (try clear hfz4_1); (try clear hfz8_0); (try clear hfz8_1); obtain ⟨x3_1, x12_1, rfl, HA, HK1, HO_3, BK117, HB⟩ := hrel
  cases gk with
  | zero => exact absurd HA.out (by simp [wool_road_come.l0])
  | succ k1 =>
   have H := HA.out; clear HA; simp only [wool_road_come.l0] at H
   by_cases c9 : x12_1 < (l0_0.length : Int)
   ·rw [if_pos c9] at H
    have c9b0 : decide (x12_1 < (l0_0.length : Int)) = true := decide_eq_true c9; clear c9
    by_cases c10 : 0 ≤ x12_1
    ·rw [if_pos c10] at H
     have c10b0 : decide (0 ≤ x12_1) = true := decide_eq_true c10; clear c10
     by_cases c11 : x12_1 < (x3_1.length : Int)
     ·rw [if_pos c11] at H
      have c11b0 : decide (x12_1 < (x3_1.length : Int)) = true := decide_eq_true c11; clear c11; obtain ⟨⟨t124, t125⟩, A120, H⟩ := Option.bind_eq_some_iff.mp H; replace H : ((wool_road_seen.f l0_0 l0_1 (wrap64 (x12_1 + 1))).bind fun bt126 => ((wool_some_and.f t124 t125 bt126.1 bt126.2).bind fun bt128 => (if x3_1.length < 8796093022208 then (wool_road_come.l0 k1 (x3_1 ++ [(⟨bt128.1, bt128.2⟩ : S100)]) (l0_0.length : Int) (wrap64 (x12_1 + 1)) l0_0 l0_1) else (none)))) = some r := H; have A12 := Aside0.mk A120; clear A120; obtain ⟨⟨t126, t127⟩, A130, H⟩ := Option.bind_eq_some_iff.mp H; replace H : ((wool_some_and.f t124 t125 t126 t127).bind fun bt128 => (if x3_1.length < 8796093022208 then (wool_road_come.l0 k1 (x3_1 ++ [(⟨bt128.1, bt128.2⟩ : S100)]) (l0_0.length : Int) (wrap64 (x12_1 + 1)) l0_0 l0_1) else (none))) = some r := H; have A13 := Aside0.mk A130; clear A130; obtain ⟨⟨t128, t129⟩, A140, H⟩ := Option.bind_eq_some_iff.mp H; replace H : (if x3_1.length < 8796093022208 then (wool_road_come.l0 k1 (x3_1 ++ [(⟨t128, t129⟩ : S100)]) (l0_0.length : Int) (wrap64 (x12_1 + 1)) l0_0 l0_1) else (none)) = some r := H; have A14 := Aside0.mk A140; clear A140
      by_cases c15 : x3_1.length < 8796093022208
      ·rw [if_pos c15] at H
       have LMc15 := Aside0.mk c15; clear c15; replace H : ∃ y_ : List (S100), y_ = (x3_1 ++ [(⟨t128, t129⟩ : S100)]) ∧ (wool_road_come.l0 k1 y_ (l0_0.length : Int) (wrap64 (x12_1 + 1)) l0_0 l0_1) = some r := ⟨_, rfl, sqJ H⟩; obtain ⟨y130, hy130, H⟩ := H; have Ny130 := Aside0.mk hy130; clear hy130; have H' := Aside0.mk H
       clear H; try go_wp2
       have n0_ := Aside0.mk (Kd.R_drew HO_3.out); have n1_ := Aside0.mk (blk_drew BK117.out); have n2_ := Aside0.mk (below_drew1 HB.out); clear HO_3 BK117 HB; have HO_3 := n0_; have BK117 := n1_; have HB := n2_; clear n0_ n1_ n2_; obtain ⟨Ao17, co17, eo17⟩ := Kd.R_slice HO_3.out
       (first | subst eo17 | (injection eo17 with f1_ f2_ f3_; have f4_ := f1_.symm; have f5_ := f3_.symm; clear f1_ f2_ f3_; subst f4_; subst f5_))
       have p123 : 0 ≤ (x12_1 : Int) := sqD; have q123 : x12_1 < (x3_1.length : Int) := sqD; obtain ⟨ad123, e123, hx123_0, hx123_1⟩ := at_T100 (Kd.R_reads' HO_3.out).2.2 x12_1 p123 q123
       cases e123
       replace p123 := eq_true p123; replace q123 := eq_true q123; refine start_ (n := 16) (S := fun w' => w'.cell? ⟨gb117, 0, none⟩ = some (.slice A0_0 l0_0.length c0_0) ∧ w'.cell? ⟨gb117, 1, none⟩ = some (.slice A0_1 l0_1.length c0_1) ∧ w'.cell? (ad123.add ((x12_1).toNat * 2)) = some (.int .i64 ((rd_T100 x3_1 x12_1).f0)) ∧ w'.cell? ⟨(ad123.add ((x12_1).toNat * 2)).block, (ad123.add ((x12_1).toNat * 2)).off + 1, none⟩ = some (.int .i64 ((rd_T100 x3_1 x12_1).f1))) (ds := [13, 14]) (bm 16 0) sqF rfl rfl ⟨(blk_cell BK117.out 0).trans rfl, (blk_cell BK117.out 1).trans rfl, hx123_0, hx123_1⟩ (fun hHeld => ?_); refine with_tabW wool_road_come.tab5 wool_road_come.bits5 (fun HT_ HW_ => ?_)
       generalize wr.drew = w16 at HO_3 BK117 HB hx123_0 hx123_1 hHeld ⊢
       refine pure_ (i := 0) (N := some 15) (v := ?_) (a' := ?_) (bm 16 1) rfl rfl (any_of HT_.out sqF) (fun _ _ _ h => h) (Or.inl ⟨by rfl, ?_⟩) ?_ ?_
       rotate_left
       ·intro w'
        go_simp; with_reducible rfl
       rotate_left
       ·simp only [Act.put, sqA, i64_w, i32_w]; rfl
       refine pure_ (i := 2) (N := some 17) (v := ?_) (a' := ?_) (bm 16 5) rfl rfl (any_of HT_.out sqF) (fun _ _ _ h => h) (Or.inl ⟨by rfl, ?_⟩) ?_ ?_
       rotate_left
       ·intro w'
        go_simp; with_reducible rfl
       rotate_left
       ·simp only [Act.put, sqA, i64_w, i32_w]; rfl
       refine pure_ (i := 3) (N := some 18) (v := ?_) (a' := ?_) (bm 16 13) rfl rfl (any_of HT_.out sqF) (fun _ _ _ h => h) (Or.inl ⟨by rfl, ?_⟩) ?_ ?_
       rotate_left
       ·intro w'
        go_simp; with_reducible rfl
       rotate_left
       ·simp only [Act.put, sqA, i64_w, i32_w]; rfl
       refine pure_ (i := 4) (N := some 19) (v := ?_) (a' := ?_) (bm 16 29) rfl rfl (any_of HT_.out sqF) (fun _ _ _ h => h) (Or.inl ⟨by rfl, ?_⟩) ?_ ?_
       rotate_left
       ·intro w'
        go_simp; with_reducible rfl
       rotate_left
       ·simp only [Act.put, sqA, i64_w, i32_w]; rfl
       refine pure_ (i := 5) (N := some 20) (v := ?_) (a' := ?_) (bm 16 61) rfl rfl (any_of HT_.out sqF) (fun _ _ _ h => h) (Or.inl ⟨by rfl, ?_⟩) ?_ ?_
       rotate_left
       ·intro w'
        go_simp; with_reducible rfl
       rotate_left
       ·simp only [Act.put, sqA, i64_w, i32_w]; rfl
       refine pure_ (i := 9) (N := some 24) (v := ?_) (a' := ?_) (bm 16 573) rfl rfl (any_of HT_.out sqF) (fun _ _ _ h => h) (Or.inl ⟨by rfl, ?_⟩) ?_ ?_
       rotate_left
       ·intro w'
        go_simp; with_reducible rfl
       rotate_left
       ·simp only [Act.put, sqA, i64_w, i32_w]; rfl
       refine pure_ (i := 10) (N := some 25) (v := ?_) (a' := ?_) (bm 16 1597) rfl rfl (any_of HT_.out sqF) (fun _ _ _ h => h) (Or.inl ⟨by rfl, ?_⟩) ?_ ?_
       rotate_left
       ·intro w'
        go_simp; with_reducible rfl
       rotate_left
       ·simp only [Act.put, sqA, i64_w, i32_w]; rfl
       refine take_ (i := 1) (N := some 16) (v := ?_) (a' := ?_) (bm 16 1599) rfl rfl (take_ofW HT_.out HW_.out sqF) (fun _ _ _ h => h) (Or.inl ⟨by rfl, ?_⟩) hHeld ?_ ?_
       rotate_left
       ·rintro w' ⟨s0, s1, s2, s3⟩
        go_simp; with_reducible rfl
       rotate_left
       ·simp only [Act.put, sqA, i64_w, i32_w]; rfl
       refine take_ (i := 6) (N := some 21) (v := ?_) (a' := ?_) (bm 16 1663) rfl rfl (take_ofW HT_.out HW_.out sqF) (fun _ _ _ h => h) (Or.inl ⟨by rfl, ?_⟩) hHeld ?_ ?_
       rotate_left
       ·rintro w' ⟨s0, s1, s2, s3⟩
        go_simp; with_reducible rfl
       rotate_left
       ·simp only [Act.put, sqA, i64_w, i32_w]; rfl
       refine take_ (i := 8) (N := some 23) (v := ?_) (a' := ?_) (bm 16 1919) rfl rfl (take_ofW HT_.out HW_.out sqF) (fun _ _ _ h => h) (Or.inl ⟨by rfl, ?_⟩) hHeld ?_ ?_
       rotate_left
       ·rintro w' ⟨s0, s1, s2, s3⟩
        go_simp; with_reducible rfl
       rotate_left
       ·simp only [Act.put, sqA, i64_w, i32_w]; rfl
       refine one_ (i := 7) (N := some 22) (bm 16 2047) rfl rfl (one_of HT_.out sqF) (by decide) (fun K hK => ?_); refine goes_ Tryd.func101 sqF rfl #[.agg #[.slice A0_0 l0_0.length c0_0, .slice A0_1 l0_1.length c0_1], .int .i64 x12_1, .agg #[.int .i64 ((rd_T100 x3_1 x12_1).f0), .int .i64 ((rd_T100 x3_1 x12_1).f1)]] (by rfl) rfl rfl sqM ?_
       with_reducible refine (wool_road_on.calls _ _ l0_0 _ _ l0_1 x12_1 ((rd_T100 x3_1 x12_1).f0) ((rd_T100 x3_1 x12_1).f1) t124 t125 _ ?side1 ?side2 ?side3 ?side4 A12.out).mono ?_
       (case side1 => exact sqQ HR0_0 HB)
       (case side2 => exact HC0_0.out)
       (case side3 => exact sqQ HR0_1 HB)
       (case side4 => exact HC0_1.out)
       rintro e w18 ⟨rfl, hb⟩; have HS2_ := (hb.cell (World.block_lt_of_cell? _ _ (hHeld.2.2.1))).trans (hHeld.2.2.1); have HS3_ := (hb.cell (World.block_lt_of_cell? _ _ (hHeld.2.2.2))).trans (hHeld.2.2.2); refine ⟨_, rfl, ?_⟩; have n0_ := Aside0.mk (Kd.R_below (sqR HO_3) hb); have n1_ := Aside0.mk (blk_below (g := gb117) (o := .cells #[.slice A0_0 l0_0.length c0_0, .slice A0_1 l0_1.length c0_1] 95 (0, 0)) (sqK BK117) hb); have n2_ := Aside0.mk (below_step (sqB HB) hb); clear HO_3 BK117 HB; have HO_3 := n0_; have BK117 := n1_; have HB := n2_; clear n0_ n1_ n2_; (try clear hb); (try clear hb2); (try clear hk); (try clear hi); refine hK.out _ _ ⟨(blk_cell BK117.out 0).trans rfl, (blk_cell BK117.out 1).trans rfl, HS2_, HS3_⟩ (fun hHeld => ?_); clear hK K; refine norm_ (a' := ?_) ?_ ?_
       rotate_left
       ·show Act.put _ (some 22) _ = _
        simp only [Act.put, sqA, i64_w, i32_w]; rfl
       refine one_ (i := 11) (N := some 26) (bm 16 4095) rfl rfl (one_of HT_.out sqF) (by decide) (fun K hK => ?_); refine goes_ Tryd.func68 sqF rfl #[.agg #[.slice A0_0 l0_0.length c0_0, .slice A0_1 l0_1.length c0_1], .int .i64 (wrap64 (x12_1 + 1))] (by rfl) rfl rfl sqM ?_
       with_reducible refine (wool_road_seen.calls _ _ l0_0 _ _ l0_1 (wrap64 (x12_1 + 1)) t126 t127 _ ?sideG ?side1 ?side2 ?side3 ?side4 A13.out).mono ?_
       (case sideG => exact sqQ HGL HB)
       (case side1 => exact sqQ HR0_0 HB)
       (case side2 => exact HC0_0.out)
       (case side3 => exact sqQ HR0_1 HB)
       (case side4 => exact HC0_1.out)
       rintro e w19 ⟨rfl, hb⟩; have HS2_ := (hb.cell (World.block_lt_of_cell? _ _ (hHeld.2.2.1))).trans (hHeld.2.2.1); have HS3_ := (hb.cell (World.block_lt_of_cell? _ _ (hHeld.2.2.2))).trans (hHeld.2.2.2); refine ⟨_, rfl, ?_⟩; have n0_ := Aside0.mk (Kd.R_below (sqR HO_3) hb); have n1_ := Aside0.mk (blk_below (g := gb117) (o := .cells #[.slice A0_0 l0_0.length c0_0, .slice A0_1 l0_1.length c0_1] 95 (0, 0)) (sqK BK117) hb); have n2_ := Aside0.mk (below_step (sqB HB) hb); clear HO_3 BK117 HB; have HO_3 := n0_; have BK117 := n1_; have HB := n2_; clear n0_ n1_ n2_; (try clear hb); (try clear hb2); (try clear hk); (try clear hi); refine hK.out _ _ ⟨(blk_cell BK117.out 0).trans rfl, (blk_cell BK117.out 1).trans rfl, HS2_, HS3_⟩ (fun hHeld => ?_); clear hK K; refine norm_ (a' := ?_) ?_ ?_
       rotate_left
       ·show Act.put _ (some 26) _ = _
        simp only [Act.put, sqA, i64_w, i32_w]; rfl
       refine one_ (i := 12) (N := some 27) (bm 16 8191) rfl rfl (one_of HT_.out sqF) (by decide) (fun K hK => ?_); refine goes_ Tryd.func63 sqF rfl #[.agg #[.int .i64 t124, .int .i64 t125], .agg #[.int .i64 t126, .int .i64 t127]] (by rfl) rfl rfl sqM ?_
       with_reducible refine (wool_some_and.calls t124 t125 t126 t127 t128 t129 _ A14.out).mono ?_
       rintro e w20 ⟨rfl, hb⟩; have HS2_ := (hb.cell (World.block_lt_of_cell? _ _ (hHeld.2.2.1))).trans (hHeld.2.2.1); have HS3_ := (hb.cell (World.block_lt_of_cell? _ _ (hHeld.2.2.2))).trans (hHeld.2.2.2); refine ⟨_, rfl, ?_⟩; have n0_ := Aside0.mk (Kd.R_below (sqR HO_3) hb); have n1_ := Aside0.mk (blk_below (g := gb117) (o := .cells #[.slice A0_0 l0_0.length c0_0, .slice A0_1 l0_1.length c0_1] 95 (0, 0)) (sqK BK117) hb); have n2_ := Aside0.mk (below_step (sqB HB) hb); clear HO_3 BK117 HB; have HO_3 := n0_; have BK117 := n1_; have HB := n2_; clear n0_ n1_ n2_; (try clear hb); (try clear hb2); (try clear hk); (try clear hi); refine hK.out _ _ ⟨(blk_cell BK117.out 0).trans rfl, (blk_cell BK117.out 1).trans rfl, HS2_, HS3_⟩ (fun hHeld => ?_); clear hK K; refine norm_ (a' := ?_) ?_ ?_
       rotate_left
       ·show Act.put _ (some 27) _ = _
        simp only [Act.put, sqA, i64_w, i32_w]; rfl
       refine last_ (i := 13) (N := some 28) (bm 16 16383) rfl rfl (one_of HT_.out sqF) (by decide) (fun K hK => ?_); refine value_ (w1 := ?_) (v := ?_) (by rfl) rfl ?_ ?_
       rotate_left 2
       ·go_simp
        constructor
        ·rfl
        ·rfl
       refine hK.out _ _ ?_; clear hK K; refine norm_ (a' := ?_) ?_ ?_
       rotate_left
       ·show Act.put _ (some 28) _ = _
        simp only [Act.put, sqA, i64_w, i32_w]; rfl
       refine last_ (i := 14) (N := some 29) (bm 16 32767) rfl rfl (one_of HT_.out sqF) (by decide) (fun K hK => ?_); refine Kd.R_append_step k100 (w0 := w) w.heap.size (by rfl) (.tmp 15) (.tmp 28) 96 100 (.agg #[(.int .i64 0), (.int .i64 0)]) 16 rfl Tryd.underlying96 info100 rfl (by decide) (by omega) (.slice (some ad123) x3_1.length co17) x3_1 (⟨t128, t129⟩ : S100) [.int .i64 t128, .int .i64 t129] (fun _ => True) (fun _ => False) rfl rfl ?aP (fun _ hk => hk.elim) ?aF ?aO ?aB ?aS ?aL ?_
       (case aP => exact k100_mkM _ _ _ (⟨t128, t129⟩ : S100))
       (case aB => exact (sqB HB))
       (case aF => exact (fun _ _ => trivial))
       (case aO => exact (sqR HO_3))
       (case aS => exact (below_size (sqB HB)))
       (case aL => have := LMc15.out; omega)
       intro v131 w21 ho hb hg hat; rw [← Ny130.out] at ho; have n0_ := Aside0.mk (blk_grown (g := gb117) (o := .cells #[.slice A0_0 l0_0.length c0_0, .slice A0_1 l0_1.length c0_1] 95 (0, 0)) (sqK BK117) hg (Kd.R_ne HO_3.out BK117.out (by decide))); have n1_ := Aside0.mk (hb); have n2_ := Aside0.mk (ho); clear BK117 HB HO_3; have BK117 := n0_; have HB := n1_; have HO132 := n2_; clear n0_ n1_ n2_ ho hb hg hat; refine hK.out _ _ ?_; clear hK K; refine norm_ (a' := ?_) ?_ ?_
       rotate_left
       ·show Act.put _ (some 29) _ = _
        simp only [Act.put, sqA, i64_w, i32_w]; rfl
       refine pure_ (i := 15) (N := some 3) (v := ?_) (a' := ?_) (bm 16 65535) rfl rfl (any_of HT_.out sqF) (fun _ _ _ h => h) (Or.inl ⟨by rfl, ?_⟩) ?_ ?_
       rotate_left
       ·intro w'
        go_simp; with_reducible rfl
       rotate_left
       ·simp only [Act.put, sqA, i64_w, i32_w]; rfl
       refine done_ (done_of HT_.out sqF) ?_
       try go_wp2
       go_roundg k1
       case measure => have := HK1.out; omega
       case rel => exact ⟨(y130), (wrap64 (x12_1 + 1)), sqE, H', ⟨by have := HK1.out; omega⟩, ⟨sqR HO132⟩, ⟨sqK BK117⟩, ⟨sqB HB⟩⟩
      ·rw [if_neg c15] at H
       exact absurd H (by simp)
     ·rw [if_neg c11] at H
      exact absurd H (by simp)
    ·rw [if_neg c10] at H
     exact absurd H (by simp)
   ·rw [if_neg c9] at H
    have c9b0 : decide (x12_1 < (l0_0.length : Int)) = false := decide_eq_false c9; clear c9; obtain rfl := Option.some.inj H
    go_wp2
    go_ret
    exact ⟨_, by first | rfl | (simp [errW_none, errW_some] <;> rfl) | (simp [*, errW_none, errW_some] <;> rfl), by (with_reducible repeat (first | apply Kd.R_alloc | apply Kd.R_drewN | apply Kd.R_drew)); exact HO_3.out, sqB HB⟩
end Go.Proofs.YtemingmeidmjkaaDoor.Q
namespace Go.Proofs.YtemingmeidmjkaaDoor.Q
open Go.RowKit Go.Proofs.YtemingmeidmjkaaDoorW.PrintWords Go.Proofs.YtemingmeidmjkaaDoorW.PrintLast Go.Proofs.YtemingmeidmjkaaDoorW.PrintMore
attribute [local go_sem] max2_int min2_int max_two min_two max_three min_three max_four min_four   -- for this text's walks alone
set_option linter.unusedVariables false
set_option linter.unusedSimpArgs false
mutual
def wool_road_back.j1 : Nat → Int → List (S41) → List (S80) → Int → Int → Int → Int → Option (Int × Int)
 | 0, _, _, _, _, _, _, _ => none
 | k + 1, x1, x134000, x134001, x135000, x135001, x136000, x136001 => wool_road_back.l1 k x1 x134000 x134001 x135000 x135001 x136000 x136001
def wool_road_back.l1 : Nat → Int → List (S41) → List (S80) → Int → Int → Int → Int → Option (Int × Int)
 | 0, _, _, _, _, _, _, _ => none
 | k + 1, x1, x134000, x134001, x135000, x135001, x136000, x136001 => (wool_some_isNone.f x135000 x135001).bind fun t140 => (if t140 = true then ((wool_some_isNone.f x136000 x136001).bind fun t141 => (if t141 = true then (some (x136000, x136001)) else (some (x135000, x135001)))) else ((wool_road_left.f x134000 x134001 x1 x135001).bind fun bt142 => (if bt142.1 > x136001 then (wool_road_back.l1 k x1 x134000 x134001 x135000 (wrap64 (x135001 - 1)) x136000 x136001) else ((wool_some_isNone.f x136000 x136001).bind fun t144 => (if t144 = true then (some (x136000, x136001)) else (some (x135000, x135001)))))))
def wool_road_back.l0 : Nat → Int → List (S41) → List (S80) → Int → Int → Int → Int → Option (Int × Int)
 | 0, _, _, _, _, _, _, _ => none
 | k + 1, x1, x134000, x134001, x135000, x135001, x136000, x136001 => (wool_some_isNone.f x135000 x135001).bind fun t137 => (if t137 = true then (wool_road_back.j1 k x1 x134000 x134001 x135000 x135001 x136000 x136001) else ((wool_road_left.f x134000 x134001 x1 x135000).bind fun bt138 => (if bt138.2 < x136000 then (wool_road_back.l0 k x1 x134000 x134001 (wrap64 (x135000 + 1)) x135001 x136000 x136001) else (wool_road_back.j1 k x1 x134000 x134001 x135000 x135001 x136000 x136001))))
end
def wool_road_back.f (k : Nat) (l0_0 : List (S41)) (l0_1 : List (S80)) (a1 : Int) (a2_0 : Int) (a2_1 : Int) (a3_0 : Int) (a3_1 : Int) : Option (Int × Int) := wool_road_back.l0 k a1 l0_0 l0_1 a2_0 a2_1 a3_0 a3_1
def wool_road_back.T1 : Bool × List (List Nat × List Nat) := (true, [([], []), ([0], [0]), ([1], [1]), ([2, 1], [2]), ([3], [3]), ([3], [3]), ([3], [3]), ([6, 3], [3, 6]), ([4, 5, 7, 3, 3], [3, 4, 5, 7]), ([8, 3], [3, 8]), ([3], [3]), ([10, 3], [3, 10]), ([9, 11, 3], [3, 9, 11]), ([3, 12], [3, 12])])
def wool_road_back.B1 : List Nat := [0, 1, 3, 7, 15, 15, 15, 79, 255, 511, 15, 1039, 4095, 8191]
theorem wool_road_back.tab1 : rtab .any (opsOf Tryd.f103 1) = wool_road_back.T1 := by kernel_rfl
theorem wool_road_back.bits1 : waitsOk wool_road_back.T1.2 wool_road_back.B1 = true := by kernel_rfl
def wool_road_back.T3 : Bool × List (List Nat × List Nat) := (true, [([], []), ([0], [0]), ([1], [1]), ([2, 1], [2]), ([3], [3]), ([3], [3]), ([3], [3]), ([6, 3], [3, 6]), ([4, 5, 7, 3, 3], [3, 4, 5, 7]), ([8, 3], [3, 8]), ([3], [3]), ([10, 3], [3, 10]), ([9, 11, 3], [3, 9, 11]), ([3, 12], [3, 12])])
def wool_road_back.B3 : List Nat := [0, 1, 3, 7, 15, 15, 15, 79, 255, 511, 15, 1039, 4095, 8191]
theorem wool_road_back.tab3 : rtab .any (opsOf Tryd.f103 3) = wool_road_back.T3 := by kernel_rfl
theorem wool_road_back.bits3 : waitsOk wool_road_back.T3.2 wool_road_back.B3 = true := by kernel_rfl
set_option maxHeartbeats 8000000 in
set_option maxRecDepth 100000 in
theorem wool_road_back.calls (k : Nat) (A0_0 : Option Addr) (c0_0 : Nat) (l0_0 : List (S41)) (A0_1 : Option Addr) (c0_1 : Nat) (l0_1 : List (S80)) (a1 : Int) (a2_0 : Int) (a2_1 : Int) (a3_0 : Int) (a3_1 : Int) (r1 : Int) (r2 : Int) (w : World) (hr0_0 : Kd.C k41 w A0_0 l0_0.length l0_0) (hc0_0 : l0_0.length ≤ c0_0) (hr0_1 : Kd.C k80 w A0_1 l0_1.length l0_1) (hc0_1 : l0_1.length ≤ c0_1) (h : wool_road_back.f k l0_0 l0_1 a1 a2_0 a2_1 a3_0 a3_1 = some (r1, r2)) :
  Calls Tryd.prog 103 #[.agg #[.slice A0_0 l0_0.length c0_0, .slice A0_1 l0_1.length c0_1], .int .i64 a1, .agg #[.int .i64 a2_0, .int .i64 a2_1], .agg #[.int .i64 a3_0, .int .i64 a3_1]] w fun e w' => e = .returned (.agg #[.int .i64 r1, .int .i64 r2]) ∧ Below w.heap.size w w' := by
 have hu95 := Tryd.underlying95; have hu100 := Tryd.underlying100
 have hfd0_ : ∀ (w_ : World) (a0_ a1_ : Int), (Instr.field 100 (.agg #[.int .i64 a0_, .int .i64 a1_]) 0).run Tryd.prog w_ = .ok (.int .i64 a0_) w_ := by intros; kernel_rfl
 have hfd1_ : ∀ (w_ : World) (a0_ a1_ : Int), (Instr.field 100 (.agg #[.int .i64 a0_, .int .i64 a1_]) 1).run Tryd.prog w_ = .ok (.int .i64 a1_) w_ := by intros; kernel_rfl
 have HR0_0 := Aside0.mk hr0_0; have HC0_0 := Aside0.mk hc0_0; clear hr0_0 hc0_0; have HR0_1 := Aside0.mk hr0_1; have HC0_1 := Aside0.mk hc0_1; clear hr0_1 hc0_1; have HB := Aside0.mk (Below.refl w.heap.size w); have H : (wool_road_back.l0 k a1 l0_0 l0_1 a2_0 a2_1 a3_0 a3_1) = some (r1, r2) := h; clear h; have HC5 := Aside0.mk H; clear H; go_enter Tryd.func103, Tryd.ntmps103
 go_upto_block 0 with (first | ((with_reducible refine gate_dst (N := 4) rfl ?_); refine box_event ?hg (N := 4) ?hd (cs := #[.slice A0_0 l0_0.length c0_0, .slice A0_1 l0_1.length c0_1]) (t := 95) ?hr ?_; (case hd => rfl); (case hg => rfl); (case hr => first | (go_simp; done) | (go_simp; rfl)); intro gb133 hg w6 hbox hb; have BK133 := Aside0.mk (hbox); have GW133 := Aside0.mk (sqZ hg HB); have GE133 := Aside0.mk (sqZ hg HB); replace HB := sqb hb HB; clear hb hbox hg) | ((with_reducible refine gate_dst (N := 6) rfl ?_); refine box_event ?hg (N := 6) ?hd (cs := #[.int .i64 a2_0, .int .i64 a2_1]) (t := 100) ?hr ?_; (case hd => rfl); (case hg => rfl); (case hr => first | (go_simp; done) | (go_simp; rfl)); intro gb134 hg w7 hbox hb; have BK134 := Aside0.mk (hbox); have GW134 := Aside0.mk (sqZ hg HB); have GE134 := Aside0.mk (sqZ hg HB); replace HB := sqb hb HB; have NB133_134 := Aside0.mk (sqL hg BK133); have NB134_133 := Aside0.mk (sqG hg BK133); replace BK133 := sqk BK133 hb; clear hb hbox hg) | ((with_reducible refine gate_dst (N := 7) rfl ?_); refine box_event ?hg (N := 7) ?hd (cs := #[.int .i64 a3_0, .int .i64 a3_1]) (t := 100) ?hr ?_; (case hd => rfl); (case hg => rfl); (case hr => first | (go_simp; done) | (go_simp; rfl)); intro gb135 hg w8 hbox hb; have BK135 := Aside0.mk (hbox); have GW135 := Aside0.mk (sqZ hg HB); have GE135 := Aside0.mk (sqZ hg HB); replace HB := sqb hb HB; have NB133_135 := Aside0.mk (sqL hg BK133); have NB135_133 := Aside0.mk (sqG hg BK133); replace BK133 := sqk BK133 hb; have NB134_135 := Aside0.mk (sqL hg BK134); have NB135_134 := Aside0.mk (sqG hg BK134); replace BK134 := sqk BK134 hb; clear hb hbox hg) | ((with_reducible refine gate_dst (N := 8) rfl ?_); refine box_event ?hg (N := 8) ?hd (cs := #[.int .i64 0, .int .i64 0]) (t := 100) ?hr ?_; (case hd => rfl); (case hg => rfl); (case hr => first | (go_simp; done) | (go_simp; rfl)); intro gb136 hg w9 hbox hb; have BK136 := Aside0.mk (hbox); have GW136 := Aside0.mk (sqZ hg HB); have GE136 := Aside0.mk (sqZ hg HB); replace HB := sqb hb HB; have NB133_136 := Aside0.mk (sqL hg BK133); have NB136_133 := Aside0.mk (sqG hg BK133); replace BK133 := sqk BK133 hb; have NB134_136 := Aside0.mk (sqL hg BK134); have NB136_134 := Aside0.mk (sqG hg BK134); replace BK134 := sqk BK134 hb; have NB135_136 := Aside0.mk (sqL hg BK135); have NB136_135 := Aside0.mk (sqG hg BK135); replace BK135 := sqk BK135 hb; clear hb hbox hg))
 (try simp only [Act.put, sqA])
 go_cut [] (fun wc => ∃ (kq : Nat) (x135000_4 : Int), Aside0 (wool_road_back.j1 kq a1 l0_0 l0_1 x135000_4 a2_1 a3_0 a3_1 = some (r1, r2)) ∧ Aside0 (kq ≤ k) ∧ Aside0 (wc.heap[gb133]? = some (.cells #[(.slice A0_0 l0_0.length c0_0), (.slice A0_1 l0_1.length c0_1)] 95 (0, 0))) ∧ Aside0 (wc.heap[gb134]? = some (.cells #[.int .i64 x135000_4, .int .i64 a2_1] 100 (0, 0))) ∧ Aside0 (wc.heap[gb135]? = some (.cells #[.int .i64 a3_0, .int .i64 a3_1] 100 (0, 0))) ∧ Aside0 (wc.heap[gb136]? = some (.cells #[.int .i64 0, .int .i64 0] 100 (0, 0))) ∧ Aside0 (Below w.heap.size w wc))
 case first =>
  have H := HC5.out; clear HC5; have H' := Aside0.mk H; clear H; go_wp2
  go_loopg [] k (fun kq w' => ∃ (x135000_1 : Int), Aside0 (wool_road_back.l0 kq a1 l0_0 l0_1 x135000_1 a2_1 a3_0 a3_1 = some (r1, r2)) ∧ Aside0 (kq ≤ k) ∧ Aside0 (w'.heap[gb133]? = some (.cells #[(.slice A0_0 l0_0.length c0_0), (.slice A0_1 l0_1.length c0_1)] 95 (0, 0))) ∧ Aside0 (w'.heap[gb134]? = some (.cells #[.int .i64 x135000_1, .int .i64 a2_1] 100 (0, 0))) ∧ Aside0 (w'.heap[gb135]? = some (.cells #[.int .i64 a3_0, .int .i64 a3_1] 100 (0, 0))) ∧ Aside0 (w'.heap[gb136]? = some (.cells #[.int .i64 0, .int .i64 0] 100 (0, 0))) ∧ Aside0 (Below w.heap.size w w'))
  case atStart => exact ⟨(a2_0), H', ⟨Nat.le_refl _⟩, ⟨sqK BK133⟩, ⟨sqK BK134⟩, ⟨sqK BK135⟩, ⟨sqK BK136⟩, ⟨sqB HB⟩⟩
  case round =>
   clear H'; obtain ⟨x135000_1, HA, HK1, BK133, BK134, BK135, BK136, HB⟩ := hrel
   cases gk with
   | zero => exact absurd HA.out (by simp [wool_road_back.l0])
   | succ k1 =>
    have H := HA.out; clear HA; simp only [wool_road_back.l0] at H; obtain ⟨t137, A100, H⟩ := Option.bind_eq_some_iff.mp H; have A10 := Aside0.mk A100; clear A100
    by_cases c11 : t137 = true
    ·subst c11
     rw [if_pos rfl] at H; have H' := Aside0.mk H
     clear H; try go_wp2
     have n0_ := Aside0.mk (blk_drew BK133.out); have n1_ := Aside0.mk (blk_drew BK134.out); have n2_ := Aside0.mk (blk_drew BK135.out); have n3_ := Aside0.mk (blk_drew BK136.out); have n4_ := Aside0.mk (below_drew1 HB.out); clear BK133 BK134 BK135 BK136 HB; have BK133 := n0_; have BK134 := n1_; have BK135 := n2_; have BK136 := n3_; have HB := n4_; clear n0_ n1_ n2_ n3_ n4_; refine start_ (n := 14) (S := fun w' => w'.cell? ⟨gb134, 0, none⟩ = some (.int .i64 x135000_1) ∧ w'.cell? ⟨gb134, 1, none⟩ = some (.int .i64 a2_1)) (ds := []) (bm 14 0) sqF rfl rfl ⟨(blk_cell BK134.out 0).trans rfl, (blk_cell BK134.out 1).trans rfl⟩ (fun hHeld => ?_); refine with_tabW wool_road_back.tab1 wool_road_back.bits1 (fun HT_ HW_ => ?_)
     generalize wr.drew = w12 at BK133 BK134 BK135 BK136 HB hHeld ⊢
     refine take_ (i := 0) (N := some 9) (v := ?_) (a' := ?_) (bm 14 1) rfl rfl (take_ofW HT_.out HW_.out sqF) (fun _ _ _ h => h) (Or.inl ⟨by rfl, ?_⟩) hHeld ?_ ?_
     rotate_left
     ·rintro w' ⟨s0, s1⟩
      go_simp; with_reducible rfl
     rotate_left
     ·simp only [Act.put, sqA, i64_w, i32_w]; rfl
     refine one_ (i := 1) (N := some 10) (bm 14 3) rfl rfl (one_of HT_.out sqF) (by decide) (fun K hK => ?_); refine goes_ Tryd.func82 sqF rfl #[.agg #[.int .i64 x135000_1, .int .i64 a2_1]] (by rfl) rfl rfl sqM ?_
     with_reducible refine (wool_some_isNone.calls x135000_1 a2_1 true _ A10.out).mono ?_
     rintro e w13 ⟨rfl, hb⟩; refine ⟨_, rfl, ?_⟩; have n0_ := Aside0.mk (blk_below (g := gb133) (o := .cells #[.slice A0_0 l0_0.length c0_0, .slice A0_1 l0_1.length c0_1] 95 (0, 0)) (sqK BK133) hb); have n1_ := Aside0.mk (blk_below (g := gb134) (o := .cells #[.int .i64 x135000_1, .int .i64 a2_1] 100 (0, 0)) (sqK BK134) hb); have n2_ := Aside0.mk (blk_below (g := gb135) (o := .cells #[.int .i64 a3_0, .int .i64 a3_1] 100 (0, 0)) (sqK BK135) hb); have n3_ := Aside0.mk (blk_below (g := gb136) (o := .cells #[.int .i64 0, .int .i64 0] 100 (0, 0)) (sqK BK136) hb); have n4_ := Aside0.mk (below_step (sqB HB) hb); clear BK133 BK134 BK135 BK136 HB; have BK133 := n0_; have BK134 := n1_; have BK135 := n2_; have BK136 := n3_; have HB := n4_; clear n0_ n1_ n2_ n3_ n4_; (try clear hb); (try clear hb2); (try clear hk); (try clear hi); refine hK.out _ _ ⟨(blk_cell BK134.out 0).trans rfl, (blk_cell BK134.out 1).trans rfl⟩ (fun hHeld => ?_); clear hK K; refine norm_ (a' := ?_) ?_ ?_
     rotate_left
     ·show Act.put _ (some 10) _ = _
      simp only [Act.put, sqA, i64_w, i32_w]; rfl
     refine pure_ (i := 2) (N := some 11) (v := ?_) (a' := ?_) (bm 14 7) rfl rfl (any_of HT_.out sqF) (fun _ _ _ h => h) (Or.inl ⟨by rfl, ?_⟩) ?_ ?_
     rotate_left
     ·intro w'
      go_simp; with_reducible rfl
     rotate_left
     ·simp only [Act.put, sqA, i64_w, i32_w]; rfl
     refine pure_ (i := 3) (N := some 12) (v := ?_) (a' := ?_) (bm 14 15) rfl rfl (any_of HT_.out sqF) (fun _ _ _ h => h) (Or.inl ⟨by rfl, ?_⟩) ?_ ?_
     rotate_left
     ·intro w'
      go_simp; with_reducible rfl
     rotate_left
     ·simp only [Act.put, sqA, i64_w, i32_w]; rfl
     refine pure_ (i := 4) (N := some 13) (v := undef) (a' := ?_) (bm 14 31) rfl rfl (any_of HT_.out sqF) (fun _ _ _ h => h) (Or.inr ⟨by rfl, rfl⟩) ?_ ?_
     rotate_left
     ·simp only [Act.put, sqA, i64_w, i32_w]; rfl
     refine pure_ (i := 5) (N := some 14) (v := undef) (a' := ?_) (bm 14 63) rfl rfl (any_of HT_.out sqF) (fun _ _ _ h => h) (Or.inr ⟨by rfl, rfl⟩) ?_ ?_
     rotate_left
     ·simp only [Act.put, sqA, i64_w, i32_w]; rfl
     refine pure_ (i := 6) (N := some 15) (v := undef) (a' := ?_) (bm 14 127) rfl rfl (any_of HT_.out sqF) (fun _ _ _ h => h) (Or.inr ⟨by rfl, rfl⟩) ?_ ?_
     rotate_left
     ·simp only [Act.put, sqA, i64_w, i32_w]; rfl
     refine pure_ (i := 7) (N := some 16) (v := undef) (a' := ?_) (bm 14 255) rfl rfl (any_of HT_.out sqF) (fun _ _ _ h => h) (Or.inr ⟨by rfl, rfl⟩) ?_ ?_
     rotate_left
     ·simp only [Act.put, sqA, i64_w, i32_w]; rfl
     refine pure_ (i := 8) (N := some 17) (v := undef) (a' := ?_) (bm 14 511) rfl rfl (any_of HT_.out sqF) (fun _ _ _ h => h) (Or.inr ⟨by rfl, rfl⟩) ?_ ?_
     rotate_left
     ·simp only [Act.put, sqA, i64_w, i32_w]; rfl
     refine pure_ (i := 9) (N := some 18) (v := undef) (a' := ?_) (bm 14 1023) rfl rfl (any_of HT_.out sqF) (fun _ _ _ h => h) (Or.inr ⟨by rfl, rfl⟩) ?_ ?_
     rotate_left
     ·simp only [Act.put, sqA, i64_w, i32_w]; rfl
     refine pure_ (i := 10) (N := some 19) (v := undef) (a' := ?_) (bm 14 2047) rfl rfl (any_of HT_.out sqF) (fun _ _ _ h => h) (Or.inr ⟨by rfl, rfl⟩) ?_ ?_
     rotate_left
     ·simp only [Act.put, sqA, i64_w, i32_w]; rfl
     refine pure_ (i := 11) (N := some 20) (v := undef) (a' := ?_) (bm 14 4095) rfl rfl (any_of HT_.out sqF) (fun _ _ _ h => h) (Or.inr ⟨by rfl, rfl⟩) ?_ ?_
     rotate_left
     ·simp only [Act.put, sqA, i64_w, i32_w]; rfl
     refine pure_ (i := 12) (N := some 21) (v := undef) (a' := ?_) (bm 14 8191) rfl rfl (any_of HT_.out sqF) (fun _ _ _ h => h) (Or.inr ⟨by rfl, rfl⟩) ?_ ?_
     rotate_left
     ·simp only [Act.put, sqA, i64_w, i32_w]; rfl
     refine pure_ (i := 13) (N := some 22) (v := ?_) (a' := ?_) (bm 14 16383) rfl rfl (any_of HT_.out sqF) (fun _ _ _ h => h) (Or.inl ⟨by rfl, ?_⟩) ?_ ?_
     rotate_left
     ·intro w'
      go_simp; with_reducible rfl
     rotate_left
     ·simp only [Act.put, sqA, i64_w, i32_w]; rfl
     refine done_ (done_of HT_.out sqF) ?_
     try go_wp2
     go_meet
     case rel => exact ⟨_, (x135000_1), H', ⟨by have := HK1.out; first | omega | exact Nat.le_refl _⟩, ⟨sqK BK133⟩, ⟨sqK BK134⟩, ⟨sqK BK135⟩, ⟨sqK BK136⟩, ⟨sqB HB⟩⟩
    ·replace c11 := Bool.eq_false_iff.mpr c11
     subst c11; rw [if_neg Bool.false_ne_true] at H; obtain ⟨⟨t138, t139⟩, A140, H⟩ := Option.bind_eq_some_iff.mp H; replace H : (if t139 < a3_0 then (wool_road_back.l0 k1 a1 l0_0 l0_1 (wrap64 (x135000_1 + 1)) a2_1 a3_0 a3_1) else (wool_road_back.j1 k1 a1 l0_0 l0_1 x135000_1 a2_1 a3_0 a3_1)) = some (r1, r2) := H; have A14 := Aside0.mk A140; clear A140
     by_cases c15 : t139 < a3_0
     ·rw [if_pos c15] at H
      have c15b0 : decide (t139 < a3_0) = true := decide_eq_true c15; clear c15
      (first | rw [c15b0] | (simp only [i64_w, i32_w]; rw [c15b0]) | skip)
      have H' := Aside0.mk H
      clear H; try go_wp2
      have n0_ := Aside0.mk (blk_drew BK133.out); have n1_ := Aside0.mk (blk_drew BK134.out); have n2_ := Aside0.mk (blk_drew BK135.out); have n3_ := Aside0.mk (blk_drew BK136.out); have n4_ := Aside0.mk (below_drew1 HB.out); clear BK133 BK134 BK135 BK136 HB; have BK133 := n0_; have BK134 := n1_; have BK135 := n2_; have BK136 := n3_; have HB := n4_; clear n0_ n1_ n2_ n3_ n4_; refine start_ (n := 14) (S := fun w' => w'.cell? ⟨gb134, 0, none⟩ = some (.int .i64 x135000_1) ∧ w'.cell? ⟨gb134, 1, none⟩ = some (.int .i64 a2_1) ∧ w'.cell? ⟨gb133, 0, none⟩ = some (.slice A0_0 l0_0.length c0_0) ∧ w'.cell? ⟨gb133, 1, none⟩ = some (.slice A0_1 l0_1.length c0_1) ∧ w'.cell? ⟨gb135, 0, none⟩ = some (.int .i64 a3_0) ∧ w'.cell? ⟨gb135, 1, none⟩ = some (.int .i64 a3_1)) (ds := []) (bm 14 0) sqF rfl rfl ⟨(blk_cell BK134.out 0).trans rfl, (blk_cell BK134.out 1).trans rfl, (blk_cell BK133.out 0).trans rfl, (blk_cell BK133.out 1).trans rfl, (blk_cell BK135.out 0).trans rfl, (blk_cell BK135.out 1).trans rfl⟩ (fun hHeld => ?_); refine with_tabW wool_road_back.tab1 wool_road_back.bits1 (fun HT_ HW_ => ?_)
      generalize wr.drew = w16 at BK133 BK134 BK135 BK136 HB hHeld ⊢
      refine take_ (i := 0) (N := some 9) (v := ?_) (a' := ?_) (bm 14 1) rfl rfl (take_ofW HT_.out HW_.out sqF) (fun _ _ _ h => h) (Or.inl ⟨by rfl, ?_⟩) hHeld ?_ ?_
      rotate_left
      ·rintro w' ⟨s0, s1, s2, s3, s4, s5⟩
       go_simp; with_reducible rfl
      rotate_left
      ·simp only [Act.put, sqA, i64_w, i32_w]; rfl
      refine one_ (i := 1) (N := some 10) (bm 14 3) rfl rfl (one_of HT_.out sqF) (by decide) (fun K hK => ?_); refine goes_ Tryd.func82 sqF rfl #[.agg #[.int .i64 x135000_1, .int .i64 a2_1]] (by rfl) rfl rfl sqM ?_
      with_reducible refine (wool_some_isNone.calls x135000_1 a2_1 false _ A10.out).mono ?_
      rintro e w17 ⟨rfl, hb⟩; refine ⟨_, rfl, ?_⟩; have n0_ := Aside0.mk (blk_below (g := gb133) (o := .cells #[.slice A0_0 l0_0.length c0_0, .slice A0_1 l0_1.length c0_1] 95 (0, 0)) (sqK BK133) hb); have n1_ := Aside0.mk (blk_below (g := gb134) (o := .cells #[.int .i64 x135000_1, .int .i64 a2_1] 100 (0, 0)) (sqK BK134) hb); have n2_ := Aside0.mk (blk_below (g := gb135) (o := .cells #[.int .i64 a3_0, .int .i64 a3_1] 100 (0, 0)) (sqK BK135) hb); have n3_ := Aside0.mk (blk_below (g := gb136) (o := .cells #[.int .i64 0, .int .i64 0] 100 (0, 0)) (sqK BK136) hb); have n4_ := Aside0.mk (below_step (sqB HB) hb); clear BK133 BK134 BK135 BK136 HB; have BK133 := n0_; have BK134 := n1_; have BK135 := n2_; have BK136 := n3_; have HB := n4_; clear n0_ n1_ n2_ n3_ n4_; (try clear hb); (try clear hb2); (try clear hk); (try clear hi); refine hK.out _ _ ⟨(blk_cell BK134.out 0).trans rfl, (blk_cell BK134.out 1).trans rfl, (blk_cell BK133.out 0).trans rfl, (blk_cell BK133.out 1).trans rfl, (blk_cell BK135.out 0).trans rfl, (blk_cell BK135.out 1).trans rfl⟩ (fun hHeld => ?_); clear hK K; refine norm_ (a' := ?_) ?_ ?_
      rotate_left
      ·show Act.put _ (some 10) _ = _
       simp only [Act.put, sqA, i64_w, i32_w]; rfl
      refine pure_ (i := 2) (N := some 11) (v := ?_) (a' := ?_) (bm 14 7) rfl rfl (any_of HT_.out sqF) (fun _ _ _ h => h) (Or.inl ⟨by rfl, ?_⟩) ?_ ?_
      rotate_left
      ·intro w'
       go_simp; with_reducible rfl
      rotate_left
      ·simp only [Act.put, sqA, i64_w, i32_w]; rfl
      refine pure_ (i := 3) (N := some 12) (v := ?_) (a' := ?_) (bm 14 15) rfl rfl (any_of HT_.out sqF) (fun _ _ _ h => h) (Or.inl ⟨by rfl, ?_⟩) ?_ ?_
      rotate_left
      ·intro w'
       go_simp; with_reducible rfl
      rotate_left
      ·simp only [Act.put, sqA, i64_w, i32_w]; rfl
      refine pure_ (i := 5) (N := some 14) (v := ?_) (a' := ?_) (bm 14 47) rfl rfl (any_of HT_.out sqF) (fun _ _ _ h => h) (Or.inl ⟨by rfl, ?_⟩) ?_ ?_
      rotate_left
      ·intro w'
       go_simp; with_reducible rfl
      rotate_left
      ·simp only [Act.put, sqA, i64_w, i32_w]; rfl
      refine pure_ (i := 6) (N := some 15) (v := ?_) (a' := ?_) (bm 14 111) rfl rfl (any_of HT_.out sqF) (fun _ _ _ h => h) (Or.inl ⟨by rfl, ?_⟩) ?_ ?_
      rotate_left
      ·intro w'
       go_simp; with_reducible rfl
      rotate_left
      ·simp only [Act.put, sqA, i64_w, i32_w]; rfl
      refine pure_ (i := 10) (N := some 19) (v := ?_) (a' := ?_) (bm 14 1135) rfl rfl (any_of HT_.out sqF) (fun _ _ _ h => h) (Or.inl ⟨by rfl, ?_⟩) ?_ ?_
      rotate_left
      ·intro w'
       go_simp; with_reducible rfl
      rotate_left
      ·simp only [Act.put, sqA, i64_w, i32_w]; rfl
      refine take_ (i := 4) (N := some 13) (v := ?_) (a' := ?_) (bm 14 1151) rfl rfl (take_ofW HT_.out HW_.out sqF) (fun _ _ _ h => h) (Or.inl ⟨by rfl, ?_⟩) hHeld ?_ ?_
      rotate_left
      ·rintro w' ⟨s0, s1, s2, s3, s4, s5⟩
       go_simp; with_reducible rfl
      rotate_left
      ·simp only [Act.put, sqA, i64_w, i32_w]; rfl
      refine take_ (i := 7) (N := some 16) (v := ?_) (a' := ?_) (bm 14 1279) rfl rfl (take_ofW HT_.out HW_.out sqF) (fun _ _ _ h => h) (Or.inl ⟨by rfl, ?_⟩) hHeld ?_ ?_
      rotate_left
      ·rintro w' ⟨s0, s1, s2, s3, s4, s5⟩
       go_simp; with_reducible rfl
      rotate_left
      ·simp only [Act.put, sqA, i64_w, i32_w]; rfl
      refine take_ (i := 11) (N := some 20) (v := ?_) (a' := ?_) (bm 14 3327) rfl rfl (take_ofW HT_.out HW_.out sqF) (fun _ _ _ h => h) (Or.inl ⟨by rfl, ?_⟩) hHeld ?_ ?_
      rotate_left
      ·rintro w' ⟨s0, s1, s2, s3, s4, s5⟩
       go_simp; with_reducible rfl
      rotate_left
      ·simp only [Act.put, sqA, i64_w, i32_w]; rfl
      refine one_ (i := 8) (N := some 17) (bm 14 3583) rfl rfl (one_of HT_.out sqF) (by decide) (fun K hK => ?_); refine goes_ Tryd.func62 sqF rfl #[.agg #[.slice A0_0 l0_0.length c0_0, .slice A0_1 l0_1.length c0_1], .int .i64 a1, .int .i64 x135000_1] (by rfl) rfl rfl sqM ?_
      with_reducible refine (wool_road_left.calls _ _ l0_0 _ _ l0_1 a1 x135000_1 t138 t139 _ ?side1 ?side2 ?side3 ?side4 A14.out).mono ?_
      (case side1 => exact sqQ HR0_0 HB)
      (case side2 => exact HC0_0.out)
      (case side3 => exact sqQ HR0_1 HB)
      (case side4 => exact HC0_1.out)
      rintro e w18 ⟨rfl, hb⟩; refine ⟨_, rfl, ?_⟩; have n0_ := Aside0.mk (blk_below (g := gb133) (o := .cells #[.slice A0_0 l0_0.length c0_0, .slice A0_1 l0_1.length c0_1] 95 (0, 0)) (sqK BK133) hb); have n1_ := Aside0.mk (blk_below (g := gb134) (o := .cells #[.int .i64 x135000_1, .int .i64 a2_1] 100 (0, 0)) (sqK BK134) hb); have n2_ := Aside0.mk (blk_below (g := gb135) (o := .cells #[.int .i64 a3_0, .int .i64 a3_1] 100 (0, 0)) (sqK BK135) hb); have n3_ := Aside0.mk (blk_below (g := gb136) (o := .cells #[.int .i64 0, .int .i64 0] 100 (0, 0)) (sqK BK136) hb); have n4_ := Aside0.mk (below_step (sqB HB) hb); clear BK133 BK134 BK135 BK136 HB; have BK133 := n0_; have BK134 := n1_; have BK135 := n2_; have BK136 := n3_; have HB := n4_; clear n0_ n1_ n2_ n3_ n4_; (try clear hb); (try clear hb2); (try clear hk); (try clear hi); refine hK.out _ _ ⟨(blk_cell BK134.out 0).trans rfl, (blk_cell BK134.out 1).trans rfl, (blk_cell BK133.out 0).trans rfl, (blk_cell BK133.out 1).trans rfl, (blk_cell BK135.out 0).trans rfl, (blk_cell BK135.out 1).trans rfl⟩ (fun hHeld => ?_); clear hK K; refine norm_ (a' := ?_) ?_ ?_
      rotate_left
      ·show Act.put _ (some 17) _ = _
       simp only [Act.put, sqA, i64_w, i32_w]; rfl
      refine pure_ (i := 9) (N := some 18) (v := ?_) (a' := ?_) (bm 14 4095) rfl rfl (any_of HT_.out sqF) (fun _ _ _ h => h) (Or.inl ⟨by rfl, ?_⟩) ?_ ?_
      rotate_left
      ·intro w'
       go_simp; with_reducible rfl
      rotate_left
      ·simp only [Act.put, sqA, i64_w, i32_w]; rfl
      refine pure_ (i := 12) (N := some 21) (v := ?_) (a' := ?_) (bm 14 8191) rfl rfl (any_of HT_.out sqF) (fun _ _ _ h => h) (Or.inl ⟨by rfl, ?_⟩) ?_ ?_
      rotate_left
      ·intro w'
       go_simp; with_reducible rfl
      rotate_left
      ·simp only [Act.put, sqA, i64_w, i32_w]; rfl
      refine pure_ (i := 13) (N := some 22) (v := ?_) (a' := ?_) (bm 14 16383) rfl rfl (any_of HT_.out sqF) (fun _ _ _ h => h) (Or.inl ⟨by rfl, ?_⟩) ?_ ?_
      rotate_left
      ·intro w'
       go_simp; with_reducible rfl
      rotate_left
      ·simp only [Act.put, sqA, i64_w, i32_w]; rfl
      refine done_ (done_of HT_.out sqF) ?_; have hnb19 := NB134_133.out; have hnc19 := NB133_134.out; have hnb20 := NB134_135.out; have hnc20 := NB135_134.out; have hnb21 := NB134_136.out; have hnc21 := NB136_134.out; have hcz22_0 := sqc0 BK134; have hcz22_1 := sqc1 BK134; have hfz22_0 := blk_frozen BK134.out 0; have hfz22_1 := blk_frozen BK134.out 1
      try go_wp2
      go_roundg k1
      case measure => have := HK1.out; omega
      case rel => exact ⟨(wrap64 (x135000_1 + 1)), H', ⟨by have := HK1.out; omega⟩, ⟨sqX⟩, ⟨by (with_reducible repeat (first | refine blk_drewN ?_ _ | refine blk_drew ?_ | refine blk_alloc ?_ _)); refine blk_put (cs := #[.int .i64 x135000_1, .int .i64 a2_1]) ?_ 0 _ rfl; (with_reducible repeat (first | refine blk_drewN ?_ _ | refine blk_drew ?_ | refine blk_alloc ?_ _)); exact BK134.out⟩, ⟨sqX⟩, ⟨sqX⟩, ⟨sqB HB⟩⟩
     ·rw [if_neg c15] at H
      have c15b0 : decide (t139 < a3_0) = false := decide_eq_false c15; clear c15
      (first | rw [c15b0] | (simp only [i64_w, i32_w]; rw [c15b0]) | skip)
      have H' := Aside0.mk H
      clear H; try go_wp2
      have n0_ := Aside0.mk (blk_drew BK133.out); have n1_ := Aside0.mk (blk_drew BK134.out); have n2_ := Aside0.mk (blk_drew BK135.out); have n3_ := Aside0.mk (blk_drew BK136.out); have n4_ := Aside0.mk (below_drew1 HB.out); clear BK133 BK134 BK135 BK136 HB; have BK133 := n0_; have BK134 := n1_; have BK135 := n2_; have BK136 := n3_; have HB := n4_; clear n0_ n1_ n2_ n3_ n4_; refine start_ (n := 14) (S := fun w' => w'.cell? ⟨gb134, 0, none⟩ = some (.int .i64 x135000_1) ∧ w'.cell? ⟨gb134, 1, none⟩ = some (.int .i64 a2_1) ∧ w'.cell? ⟨gb133, 0, none⟩ = some (.slice A0_0 l0_0.length c0_0) ∧ w'.cell? ⟨gb133, 1, none⟩ = some (.slice A0_1 l0_1.length c0_1) ∧ w'.cell? ⟨gb135, 0, none⟩ = some (.int .i64 a3_0) ∧ w'.cell? ⟨gb135, 1, none⟩ = some (.int .i64 a3_1)) (ds := []) (bm 14 0) sqF rfl rfl ⟨(blk_cell BK134.out 0).trans rfl, (blk_cell BK134.out 1).trans rfl, (blk_cell BK133.out 0).trans rfl, (blk_cell BK133.out 1).trans rfl, (blk_cell BK135.out 0).trans rfl, (blk_cell BK135.out 1).trans rfl⟩ (fun hHeld => ?_); refine with_tabW wool_road_back.tab1 wool_road_back.bits1 (fun HT_ HW_ => ?_)
      generalize wr.drew = w23 at BK133 BK134 BK135 BK136 HB hHeld ⊢
      refine take_ (i := 0) (N := some 9) (v := ?_) (a' := ?_) (bm 14 1) rfl rfl (take_ofW HT_.out HW_.out sqF) (fun _ _ _ h => h) (Or.inl ⟨by rfl, ?_⟩) hHeld ?_ ?_
      rotate_left
      ·rintro w' ⟨s0, s1, s2, s3, s4, s5⟩
       go_simp; with_reducible rfl
      rotate_left
      ·simp only [Act.put, sqA, i64_w, i32_w]; rfl
      refine one_ (i := 1) (N := some 10) (bm 14 3) rfl rfl (one_of HT_.out sqF) (by decide) (fun K hK => ?_); refine goes_ Tryd.func82 sqF rfl #[.agg #[.int .i64 x135000_1, .int .i64 a2_1]] (by rfl) rfl rfl sqM ?_
      with_reducible refine (wool_some_isNone.calls x135000_1 a2_1 false _ A10.out).mono ?_
      rintro e w24 ⟨rfl, hb⟩; refine ⟨_, rfl, ?_⟩; have n0_ := Aside0.mk (blk_below (g := gb133) (o := .cells #[.slice A0_0 l0_0.length c0_0, .slice A0_1 l0_1.length c0_1] 95 (0, 0)) (sqK BK133) hb); have n1_ := Aside0.mk (blk_below (g := gb134) (o := .cells #[.int .i64 x135000_1, .int .i64 a2_1] 100 (0, 0)) (sqK BK134) hb); have n2_ := Aside0.mk (blk_below (g := gb135) (o := .cells #[.int .i64 a3_0, .int .i64 a3_1] 100 (0, 0)) (sqK BK135) hb); have n3_ := Aside0.mk (blk_below (g := gb136) (o := .cells #[.int .i64 0, .int .i64 0] 100 (0, 0)) (sqK BK136) hb); have n4_ := Aside0.mk (below_step (sqB HB) hb); clear BK133 BK134 BK135 BK136 HB; have BK133 := n0_; have BK134 := n1_; have BK135 := n2_; have BK136 := n3_; have HB := n4_; clear n0_ n1_ n2_ n3_ n4_; (try clear hb); (try clear hb2); (try clear hk); (try clear hi); refine hK.out _ _ ⟨(blk_cell BK134.out 0).trans rfl, (blk_cell BK134.out 1).trans rfl, (blk_cell BK133.out 0).trans rfl, (blk_cell BK133.out 1).trans rfl, (blk_cell BK135.out 0).trans rfl, (blk_cell BK135.out 1).trans rfl⟩ (fun hHeld => ?_); clear hK K; refine norm_ (a' := ?_) ?_ ?_
      rotate_left
      ·show Act.put _ (some 10) _ = _
       simp only [Act.put, sqA, i64_w, i32_w]; rfl
      refine pure_ (i := 2) (N := some 11) (v := ?_) (a' := ?_) (bm 14 7) rfl rfl (any_of HT_.out sqF) (fun _ _ _ h => h) (Or.inl ⟨by rfl, ?_⟩) ?_ ?_
      rotate_left
      ·intro w'
       go_simp; with_reducible rfl
      rotate_left
      ·simp only [Act.put, sqA, i64_w, i32_w]; rfl
      refine pure_ (i := 3) (N := some 12) (v := ?_) (a' := ?_) (bm 14 15) rfl rfl (any_of HT_.out sqF) (fun _ _ _ h => h) (Or.inl ⟨by rfl, ?_⟩) ?_ ?_
      rotate_left
      ·intro w'
       go_simp; with_reducible rfl
      rotate_left
      ·simp only [Act.put, sqA, i64_w, i32_w]; rfl
      refine pure_ (i := 5) (N := some 14) (v := ?_) (a' := ?_) (bm 14 47) rfl rfl (any_of HT_.out sqF) (fun _ _ _ h => h) (Or.inl ⟨by rfl, ?_⟩) ?_ ?_
      rotate_left
      ·intro w'
       go_simp; with_reducible rfl
      rotate_left
      ·simp only [Act.put, sqA, i64_w, i32_w]; rfl
      refine pure_ (i := 6) (N := some 15) (v := ?_) (a' := ?_) (bm 14 111) rfl rfl (any_of HT_.out sqF) (fun _ _ _ h => h) (Or.inl ⟨by rfl, ?_⟩) ?_ ?_
      rotate_left
      ·intro w'
       go_simp; with_reducible rfl
      rotate_left
      ·simp only [Act.put, sqA, i64_w, i32_w]; rfl
      refine pure_ (i := 10) (N := some 19) (v := ?_) (a' := ?_) (bm 14 1135) rfl rfl (any_of HT_.out sqF) (fun _ _ _ h => h) (Or.inl ⟨by rfl, ?_⟩) ?_ ?_
      rotate_left
      ·intro w'
       go_simp; with_reducible rfl
      rotate_left
      ·simp only [Act.put, sqA, i64_w, i32_w]; rfl
      refine take_ (i := 4) (N := some 13) (v := ?_) (a' := ?_) (bm 14 1151) rfl rfl (take_ofW HT_.out HW_.out sqF) (fun _ _ _ h => h) (Or.inl ⟨by rfl, ?_⟩) hHeld ?_ ?_
      rotate_left
      ·rintro w' ⟨s0, s1, s2, s3, s4, s5⟩
       go_simp; with_reducible rfl
      rotate_left
      ·simp only [Act.put, sqA, i64_w, i32_w]; rfl
      refine take_ (i := 7) (N := some 16) (v := ?_) (a' := ?_) (bm 14 1279) rfl rfl (take_ofW HT_.out HW_.out sqF) (fun _ _ _ h => h) (Or.inl ⟨by rfl, ?_⟩) hHeld ?_ ?_
      rotate_left
      ·rintro w' ⟨s0, s1, s2, s3, s4, s5⟩
       go_simp; with_reducible rfl
      rotate_left
      ·simp only [Act.put, sqA, i64_w, i32_w]; rfl
      refine take_ (i := 11) (N := some 20) (v := ?_) (a' := ?_) (bm 14 3327) rfl rfl (take_ofW HT_.out HW_.out sqF) (fun _ _ _ h => h) (Or.inl ⟨by rfl, ?_⟩) hHeld ?_ ?_
      rotate_left
      ·rintro w' ⟨s0, s1, s2, s3, s4, s5⟩
       go_simp; with_reducible rfl
      rotate_left
      ·simp only [Act.put, sqA, i64_w, i32_w]; rfl
      refine one_ (i := 8) (N := some 17) (bm 14 3583) rfl rfl (one_of HT_.out sqF) (by decide) (fun K hK => ?_); refine goes_ Tryd.func62 sqF rfl #[.agg #[.slice A0_0 l0_0.length c0_0, .slice A0_1 l0_1.length c0_1], .int .i64 a1, .int .i64 x135000_1] (by rfl) rfl rfl sqM ?_
      with_reducible refine (wool_road_left.calls _ _ l0_0 _ _ l0_1 a1 x135000_1 t138 t139 _ ?side1 ?side2 ?side3 ?side4 A14.out).mono ?_
      (case side1 => exact sqQ HR0_0 HB)
      (case side2 => exact HC0_0.out)
      (case side3 => exact sqQ HR0_1 HB)
      (case side4 => exact HC0_1.out)
      rintro e w25 ⟨rfl, hb⟩; refine ⟨_, rfl, ?_⟩; have n0_ := Aside0.mk (blk_below (g := gb133) (o := .cells #[.slice A0_0 l0_0.length c0_0, .slice A0_1 l0_1.length c0_1] 95 (0, 0)) (sqK BK133) hb); have n1_ := Aside0.mk (blk_below (g := gb134) (o := .cells #[.int .i64 x135000_1, .int .i64 a2_1] 100 (0, 0)) (sqK BK134) hb); have n2_ := Aside0.mk (blk_below (g := gb135) (o := .cells #[.int .i64 a3_0, .int .i64 a3_1] 100 (0, 0)) (sqK BK135) hb); have n3_ := Aside0.mk (blk_below (g := gb136) (o := .cells #[.int .i64 0, .int .i64 0] 100 (0, 0)) (sqK BK136) hb); have n4_ := Aside0.mk (below_step (sqB HB) hb); clear BK133 BK134 BK135 BK136 HB; have BK133 := n0_; have BK134 := n1_; have BK135 := n2_; have BK136 := n3_; have HB := n4_; clear n0_ n1_ n2_ n3_ n4_; (try clear hb); (try clear hb2); (try clear hk); (try clear hi); refine hK.out _ _ ⟨(blk_cell BK134.out 0).trans rfl, (blk_cell BK134.out 1).trans rfl, (blk_cell BK133.out 0).trans rfl, (blk_cell BK133.out 1).trans rfl, (blk_cell BK135.out 0).trans rfl, (blk_cell BK135.out 1).trans rfl⟩ (fun hHeld => ?_); clear hK K; refine norm_ (a' := ?_) ?_ ?_
      rotate_left
      ·show Act.put _ (some 17) _ = _
       simp only [Act.put, sqA, i64_w, i32_w]; rfl
      refine pure_ (i := 9) (N := some 18) (v := ?_) (a' := ?_) (bm 14 4095) rfl rfl (any_of HT_.out sqF) (fun _ _ _ h => h) (Or.inl ⟨by rfl, ?_⟩) ?_ ?_
      rotate_left
      ·intro w'
       go_simp; with_reducible rfl
      rotate_left
      ·simp only [Act.put, sqA, i64_w, i32_w]; rfl
      refine pure_ (i := 12) (N := some 21) (v := ?_) (a' := ?_) (bm 14 8191) rfl rfl (any_of HT_.out sqF) (fun _ _ _ h => h) (Or.inl ⟨by rfl, ?_⟩) ?_ ?_
      rotate_left
      ·intro w'
       go_simp; with_reducible rfl
      rotate_left
      ·simp only [Act.put, sqA, i64_w, i32_w]; rfl
      refine pure_ (i := 13) (N := some 22) (v := ?_) (a' := ?_) (bm 14 16383) rfl rfl (any_of HT_.out sqF) (fun _ _ _ h => h) (Or.inl ⟨by rfl, ?_⟩) ?_ ?_
      rotate_left
      ·intro w'
       go_simp; with_reducible rfl
      rotate_left
      ·simp only [Act.put, sqA, i64_w, i32_w]; rfl
      refine done_ (done_of HT_.out sqF) ?_
      try go_wp2
      go_meet
      case rel => exact ⟨_, (x135000_1), H', ⟨by have := HK1.out; first | omega | exact Nat.le_refl _⟩, ⟨sqK BK133⟩, ⟨sqK BK134⟩, ⟨sqK BK135⟩, ⟨sqK BK136⟩, ⟨sqB HB⟩⟩
 case rest =>
  clear HC5; obtain ⟨kq, x135000_4, HA, HJ4, BK133, BK134, BK135, BK136, HB⟩ := hcut
  cases kq with
  | zero => exact absurd HA.out (by simp [wool_road_back.j1])
  | succ kj4 =>
   have H := HA.out; clear HA; simp only [wool_road_back.j1] at H; have H' := Aside0.mk H; clear H; go_wp2
   go_loopg [] kj4 (fun kq w' => ∃ (x135001_2 : Int), Aside0 (wool_road_back.l1 kq a1 l0_0 l0_1 x135000_4 x135001_2 a3_0 a3_1 = some (r1, r2)) ∧ Aside0 (kq ≤ kj4) ∧ Aside0 (w'.heap[gb133]? = some (.cells #[(.slice A0_0 l0_0.length c0_0), (.slice A0_1 l0_1.length c0_1)] 95 (0, 0))) ∧ Aside0 (w'.heap[gb134]? = some (.cells #[.int .i64 x135000_4, .int .i64 x135001_2] 100 (0, 0))) ∧ Aside0 (w'.heap[gb135]? = some (.cells #[.int .i64 a3_0, .int .i64 a3_1] 100 (0, 0))) ∧ Aside0 (w'.heap[gb136]? = some (.cells #[.int .i64 0, .int .i64 0] 100 (0, 0))) ∧ Aside0 (Below w.heap.size w w'))
   case atStart => exact ⟨(a2_1), H', ⟨Nat.le_refl _⟩, ⟨sqK BK133⟩, ⟨sqK BK134⟩, ⟨sqK BK135⟩, ⟨sqK BK136⟩, ⟨sqB HB⟩⟩
   case round =>
    clear H'; obtain ⟨x135001_2, HA, HK2, BK133, BK134, BK135, BK136, HB⟩ := hrel
    cases gk with
    | zero => exact absurd HA.out (by simp [wool_road_back.l1])
    | succ k2 =>
     have H := HA.out; clear HA; simp only [wool_road_back.l1] at H; obtain ⟨t140, A260, H⟩ := Option.bind_eq_some_iff.mp H; have A26 := Aside0.mk A260; clear A260
     by_cases c27 : t140 = true
     ·subst c27
      rw [if_pos rfl] at H; obtain ⟨t141, A280, H⟩ := Option.bind_eq_some_iff.mp H; have A28 := Aside0.mk A280; clear A280
      by_cases c29 : t141 = true
      ·subst c29
       rw [if_pos rfl] at H; simp only [Option.some.injEq, Prod.mk.injEq] at H; obtain ⟨rfl, rfl⟩ := H
       try go_wp2
       have n0_ := Aside0.mk (blk_drew BK133.out); have n1_ := Aside0.mk (blk_drew BK134.out); have n2_ := Aside0.mk (blk_drew BK135.out); have n3_ := Aside0.mk (blk_drew BK136.out); have n4_ := Aside0.mk (below_drew1 HB.out); clear BK133 BK134 BK135 BK136 HB; have BK133 := n0_; have BK134 := n1_; have BK135 := n2_; have BK136 := n3_; have HB := n4_; clear n0_ n1_ n2_ n3_ n4_; refine start_ (n := 14) (S := fun w' => w'.cell? ⟨gb134, 0, none⟩ = some (.int .i64 x135000_4) ∧ w'.cell? ⟨gb134, 1, none⟩ = some (.int .i64 x135001_2)) (ds := []) (bm 14 0) sqF rfl rfl ⟨(blk_cell BK134.out 0).trans rfl, (blk_cell BK134.out 1).trans rfl⟩ (fun hHeld => ?_); refine with_tabW wool_road_back.tab3 wool_road_back.bits3 (fun HT_ HW_ => ?_)
       generalize wr.drew = w30 at BK133 BK134 BK135 BK136 HB hHeld ⊢
       refine take_ (i := 0) (N := some 27) (v := ?_) (a' := ?_) (bm 14 1) rfl rfl (take_ofW HT_.out HW_.out sqF) (fun _ _ _ h => h) (Or.inl ⟨by rfl, ?_⟩) hHeld ?_ ?_
       rotate_left
       ·rintro w' ⟨s0, s1⟩
        go_simp; with_reducible rfl
       rotate_left
       ·simp only [Act.put, sqA, i64_w, i32_w]; rfl
       refine one_ (i := 1) (N := some 28) (bm 14 3) rfl rfl (one_of HT_.out sqF) (by decide) (fun K hK => ?_); refine goes_ Tryd.func82 sqF rfl #[.agg #[.int .i64 x135000_4, .int .i64 x135001_2]] (by rfl) rfl rfl sqM ?_
       with_reducible refine (wool_some_isNone.calls x135000_4 x135001_2 true _ A26.out).mono ?_
       rintro e w31 ⟨rfl, hb⟩; refine ⟨_, rfl, ?_⟩; have n0_ := Aside0.mk (blk_below (g := gb133) (o := .cells #[.slice A0_0 l0_0.length c0_0, .slice A0_1 l0_1.length c0_1] 95 (0, 0)) (sqK BK133) hb); have n1_ := Aside0.mk (blk_below (g := gb134) (o := .cells #[.int .i64 x135000_4, .int .i64 x135001_2] 100 (0, 0)) (sqK BK134) hb); have n2_ := Aside0.mk (blk_below (g := gb135) (o := .cells #[.int .i64 a3_0, .int .i64 a3_1] 100 (0, 0)) (sqK BK135) hb); have n3_ := Aside0.mk (blk_below (g := gb136) (o := .cells #[.int .i64 0, .int .i64 0] 100 (0, 0)) (sqK BK136) hb); have n4_ := Aside0.mk (below_step (sqB HB) hb); clear BK133 BK134 BK135 BK136 HB; have BK133 := n0_; have BK134 := n1_; have BK135 := n2_; have BK136 := n3_; have HB := n4_; clear n0_ n1_ n2_ n3_ n4_; (try clear hb); (try clear hb2); (try clear hk); (try clear hi); refine hK.out _ _ ⟨(blk_cell BK134.out 0).trans rfl, (blk_cell BK134.out 1).trans rfl⟩ (fun hHeld => ?_); clear hK K; refine norm_ (a' := ?_) ?_ ?_
       rotate_left
       ·show Act.put _ (some 28) _ = _
        simp only [Act.put, sqA, i64_w, i32_w]; rfl
       refine pure_ (i := 2) (N := some 29) (v := ?_) (a' := ?_) (bm 14 7) rfl rfl (any_of HT_.out sqF) (fun _ _ _ h => h) (Or.inl ⟨by rfl, ?_⟩) ?_ ?_
       rotate_left
       ·intro w'
        go_simp; with_reducible rfl
       rotate_left
       ·simp only [Act.put, sqA, i64_w, i32_w]; rfl
       refine pure_ (i := 3) (N := some 30) (v := ?_) (a' := ?_) (bm 14 15) rfl rfl (any_of HT_.out sqF) (fun _ _ _ h => h) (Or.inl ⟨by rfl, ?_⟩) ?_ ?_
       rotate_left
       ·intro w'
        go_simp; with_reducible rfl
       rotate_left
       ·simp only [Act.put, sqA, i64_w, i32_w]; rfl
       refine pure_ (i := 4) (N := some 31) (v := undef) (a' := ?_) (bm 14 31) rfl rfl (any_of HT_.out sqF) (fun _ _ _ h => h) (Or.inr ⟨by rfl, rfl⟩) ?_ ?_
       rotate_left
       ·simp only [Act.put, sqA, i64_w, i32_w]; rfl
       refine pure_ (i := 5) (N := some 32) (v := undef) (a' := ?_) (bm 14 63) rfl rfl (any_of HT_.out sqF) (fun _ _ _ h => h) (Or.inr ⟨by rfl, rfl⟩) ?_ ?_
       rotate_left
       ·simp only [Act.put, sqA, i64_w, i32_w]; rfl
       refine pure_ (i := 6) (N := some 33) (v := undef) (a' := ?_) (bm 14 127) rfl rfl (any_of HT_.out sqF) (fun _ _ _ h => h) (Or.inr ⟨by rfl, rfl⟩) ?_ ?_
       rotate_left
       ·simp only [Act.put, sqA, i64_w, i32_w]; rfl
       refine pure_ (i := 7) (N := some 34) (v := undef) (a' := ?_) (bm 14 255) rfl rfl (any_of HT_.out sqF) (fun _ _ _ h => h) (Or.inr ⟨by rfl, rfl⟩) ?_ ?_
       rotate_left
       ·simp only [Act.put, sqA, i64_w, i32_w]; rfl
       refine pure_ (i := 8) (N := some 35) (v := undef) (a' := ?_) (bm 14 511) rfl rfl (any_of HT_.out sqF) (fun _ _ _ h => h) (Or.inr ⟨by rfl, rfl⟩) ?_ ?_
       rotate_left
       ·simp only [Act.put, sqA, i64_w, i32_w]; rfl
       refine pure_ (i := 9) (N := some 36) (v := undef) (a' := ?_) (bm 14 1023) rfl rfl (any_of HT_.out sqF) (fun _ _ _ h => h) (Or.inr ⟨by rfl, rfl⟩) ?_ ?_
       rotate_left
       ·simp only [Act.put, sqA, i64_w, i32_w]; rfl
       refine pure_ (i := 10) (N := some 37) (v := undef) (a' := ?_) (bm 14 2047) rfl rfl (any_of HT_.out sqF) (fun _ _ _ h => h) (Or.inr ⟨by rfl, rfl⟩) ?_ ?_
       rotate_left
       ·simp only [Act.put, sqA, i64_w, i32_w]; rfl
       refine pure_ (i := 11) (N := some 38) (v := undef) (a' := ?_) (bm 14 4095) rfl rfl (any_of HT_.out sqF) (fun _ _ _ h => h) (Or.inr ⟨by rfl, rfl⟩) ?_ ?_
       rotate_left
       ·simp only [Act.put, sqA, i64_w, i32_w]; rfl
       refine pure_ (i := 12) (N := some 39) (v := undef) (a' := ?_) (bm 14 8191) rfl rfl (any_of HT_.out sqF) (fun _ _ _ h => h) (Or.inr ⟨by rfl, rfl⟩) ?_ ?_
       rotate_left
       ·simp only [Act.put, sqA, i64_w, i32_w]; rfl
       refine pure_ (i := 13) (N := some 40) (v := ?_) (a' := ?_) (bm 14 16383) rfl rfl (any_of HT_.out sqF) (fun _ _ _ h => h) (Or.inl ⟨by rfl, ?_⟩) ?_ ?_
       rotate_left
       ·intro w'
        go_simp; with_reducible rfl
       rotate_left
       ·simp only [Act.put, sqA, i64_w, i32_w]; rfl
       refine done_ (done_of HT_.out sqF) ?_; have hnb32 := NB135_133.out; have hnc32 := NB133_135.out; have hnb33 := NB135_134.out; have hnc33 := NB134_135.out; have hnb34 := NB135_136.out; have hnc34 := NB136_135.out; have hcz35_0 := sqc0 BK135; have hcz35_1 := sqc1 BK135; have hfz35_0 := blk_frozen BK135.out 0; have hfz35_1 := blk_frozen BK135.out 1
       try go_wp2_with (first | ((with_reducible refine gate_callee (f := 82) rfl ?_); refine goesL_ (some 46) rfl rfl Tryd.func82 sqF rfl #[.agg #[.int .i64 a3_0, .int .i64 a3_1]] rfl sqM ?_; (with_reducible refine (wool_some_isNone.calls a3_0 a3_1 true _ A28.out).mono ?_); rintro e w36 ⟨rfl, hb⟩; refine ⟨_, rfl, ?_⟩; replace BK133 := sqk BK133 hb; replace BK134 := sqk BK134 hb; replace BK135 := sqk BK135 hb; replace BK136 := sqk BK136 hb; replace HB := sqb hb HB; (try clear hb); (try clear hb2); (try clear hk); (try clear hi); have hcz37_0 := sqc0 BK135; have hcz37_1 := sqc1 BK135; have hfz37_0 := blk_frozen BK135.out 0; have hfz37_1 := blk_frozen BK135.out 1; have hnb38 := NB136_133.out; have hnc38 := NB133_136.out; have hnb39 := NB136_134.out; have hnc39 := NB134_136.out; have hcz40_0 := sqc0 BK136; have hcz40_1 := sqc1 BK136; have hfz40_0 := blk_frozen BK136.out 0; have hfz40_1 := blk_frozen BK136.out 1))
       refine bodyPost_ret (results_cell_row rfl _ _ gb136 100 #[.int .i64 a3_0, .int .i64 a3_1] (0, 0) _ rfl (by (with_reducible repeat (first | refine blk_drewN ?_ _ | refine blk_drew ?_ | refine blk_alloc ?_ _)); refine blk_put (cs := #[.int .i64 a3_0, .int .i64 0]) ?_ 1 _ rfl; (with_reducible repeat (first | refine blk_drewN ?_ _ | refine blk_drew ?_ | refine blk_alloc ?_ _)); refine blk_put (cs := #[.int .i64 0, .int .i64 0]) ?_ 0 _ rfl; (with_reducible repeat (first | refine blk_drewN ?_ _ | refine blk_drew ?_ | refine blk_alloc ?_ _)); exact BK136.out) Tryd.underlying100 rfl sqF) rfl ?_; exact ⟨by first | rfl | (simp [errW_none, errW_some] <;> rfl) | (simp [*, errW_none, errW_some] <;> rfl), sqB HB⟩
      ·replace c29 := Bool.eq_false_iff.mpr c29
       subst c29; rw [if_neg Bool.false_ne_true] at H; simp only [Option.some.injEq, Prod.mk.injEq] at H; obtain ⟨rfl, rfl⟩ := H
       try go_wp2
       have n0_ := Aside0.mk (blk_drew BK133.out); have n1_ := Aside0.mk (blk_drew BK134.out); have n2_ := Aside0.mk (blk_drew BK135.out); have n3_ := Aside0.mk (blk_drew BK136.out); have n4_ := Aside0.mk (below_drew1 HB.out); clear BK133 BK134 BK135 BK136 HB; have BK133 := n0_; have BK134 := n1_; have BK135 := n2_; have BK136 := n3_; have HB := n4_; clear n0_ n1_ n2_ n3_ n4_; refine start_ (n := 14) (S := fun w' => w'.cell? ⟨gb134, 0, none⟩ = some (.int .i64 x135000_4) ∧ w'.cell? ⟨gb134, 1, none⟩ = some (.int .i64 x135001_2)) (ds := []) (bm 14 0) sqF rfl rfl ⟨(blk_cell BK134.out 0).trans rfl, (blk_cell BK134.out 1).trans rfl⟩ (fun hHeld => ?_); refine with_tabW wool_road_back.tab3 wool_road_back.bits3 (fun HT_ HW_ => ?_)
       generalize wr.drew = w41 at BK133 BK134 BK135 BK136 HB hHeld ⊢
       refine take_ (i := 0) (N := some 27) (v := ?_) (a' := ?_) (bm 14 1) rfl rfl (take_ofW HT_.out HW_.out sqF) (fun _ _ _ h => h) (Or.inl ⟨by rfl, ?_⟩) hHeld ?_ ?_
       rotate_left
       ·rintro w' ⟨s0, s1⟩
        go_simp; with_reducible rfl
       rotate_left
       ·simp only [Act.put, sqA, i64_w, i32_w]; rfl
       refine one_ (i := 1) (N := some 28) (bm 14 3) rfl rfl (one_of HT_.out sqF) (by decide) (fun K hK => ?_); refine goes_ Tryd.func82 sqF rfl #[.agg #[.int .i64 x135000_4, .int .i64 x135001_2]] (by rfl) rfl rfl sqM ?_
       with_reducible refine (wool_some_isNone.calls x135000_4 x135001_2 true _ A26.out).mono ?_
       rintro e w42 ⟨rfl, hb⟩; refine ⟨_, rfl, ?_⟩; have n0_ := Aside0.mk (blk_below (g := gb133) (o := .cells #[.slice A0_0 l0_0.length c0_0, .slice A0_1 l0_1.length c0_1] 95 (0, 0)) (sqK BK133) hb); have n1_ := Aside0.mk (blk_below (g := gb134) (o := .cells #[.int .i64 x135000_4, .int .i64 x135001_2] 100 (0, 0)) (sqK BK134) hb); have n2_ := Aside0.mk (blk_below (g := gb135) (o := .cells #[.int .i64 a3_0, .int .i64 a3_1] 100 (0, 0)) (sqK BK135) hb); have n3_ := Aside0.mk (blk_below (g := gb136) (o := .cells #[.int .i64 0, .int .i64 0] 100 (0, 0)) (sqK BK136) hb); have n4_ := Aside0.mk (below_step (sqB HB) hb); clear BK133 BK134 BK135 BK136 HB; have BK133 := n0_; have BK134 := n1_; have BK135 := n2_; have BK136 := n3_; have HB := n4_; clear n0_ n1_ n2_ n3_ n4_; (try clear hb); (try clear hb2); (try clear hk); (try clear hi); refine hK.out _ _ ⟨(blk_cell BK134.out 0).trans rfl, (blk_cell BK134.out 1).trans rfl⟩ (fun hHeld => ?_); clear hK K; refine norm_ (a' := ?_) ?_ ?_
       rotate_left
       ·show Act.put _ (some 28) _ = _
        simp only [Act.put, sqA, i64_w, i32_w]; rfl
       refine pure_ (i := 2) (N := some 29) (v := ?_) (a' := ?_) (bm 14 7) rfl rfl (any_of HT_.out sqF) (fun _ _ _ h => h) (Or.inl ⟨by rfl, ?_⟩) ?_ ?_
       rotate_left
       ·intro w'
        go_simp; with_reducible rfl
       rotate_left
       ·simp only [Act.put, sqA, i64_w, i32_w]; rfl
       refine pure_ (i := 3) (N := some 30) (v := ?_) (a' := ?_) (bm 14 15) rfl rfl (any_of HT_.out sqF) (fun _ _ _ h => h) (Or.inl ⟨by rfl, ?_⟩) ?_ ?_
       rotate_left
       ·intro w'
        go_simp; with_reducible rfl
       rotate_left
       ·simp only [Act.put, sqA, i64_w, i32_w]; rfl
       refine pure_ (i := 4) (N := some 31) (v := undef) (a' := ?_) (bm 14 31) rfl rfl (any_of HT_.out sqF) (fun _ _ _ h => h) (Or.inr ⟨by rfl, rfl⟩) ?_ ?_
       rotate_left
       ·simp only [Act.put, sqA, i64_w, i32_w]; rfl
       refine pure_ (i := 5) (N := some 32) (v := undef) (a' := ?_) (bm 14 63) rfl rfl (any_of HT_.out sqF) (fun _ _ _ h => h) (Or.inr ⟨by rfl, rfl⟩) ?_ ?_
       rotate_left
       ·simp only [Act.put, sqA, i64_w, i32_w]; rfl
       refine pure_ (i := 6) (N := some 33) (v := undef) (a' := ?_) (bm 14 127) rfl rfl (any_of HT_.out sqF) (fun _ _ _ h => h) (Or.inr ⟨by rfl, rfl⟩) ?_ ?_
       rotate_left
       ·simp only [Act.put, sqA, i64_w, i32_w]; rfl
       refine pure_ (i := 7) (N := some 34) (v := undef) (a' := ?_) (bm 14 255) rfl rfl (any_of HT_.out sqF) (fun _ _ _ h => h) (Or.inr ⟨by rfl, rfl⟩) ?_ ?_
       rotate_left
       ·simp only [Act.put, sqA, i64_w, i32_w]; rfl
       refine pure_ (i := 8) (N := some 35) (v := undef) (a' := ?_) (bm 14 511) rfl rfl (any_of HT_.out sqF) (fun _ _ _ h => h) (Or.inr ⟨by rfl, rfl⟩) ?_ ?_
       rotate_left
       ·simp only [Act.put, sqA, i64_w, i32_w]; rfl
       refine pure_ (i := 9) (N := some 36) (v := undef) (a' := ?_) (bm 14 1023) rfl rfl (any_of HT_.out sqF) (fun _ _ _ h => h) (Or.inr ⟨by rfl, rfl⟩) ?_ ?_
       rotate_left
       ·simp only [Act.put, sqA, i64_w, i32_w]; rfl
       refine pure_ (i := 10) (N := some 37) (v := undef) (a' := ?_) (bm 14 2047) rfl rfl (any_of HT_.out sqF) (fun _ _ _ h => h) (Or.inr ⟨by rfl, rfl⟩) ?_ ?_
       rotate_left
       ·simp only [Act.put, sqA, i64_w, i32_w]; rfl
       refine pure_ (i := 11) (N := some 38) (v := undef) (a' := ?_) (bm 14 4095) rfl rfl (any_of HT_.out sqF) (fun _ _ _ h => h) (Or.inr ⟨by rfl, rfl⟩) ?_ ?_
       rotate_left
       ·simp only [Act.put, sqA, i64_w, i32_w]; rfl
       refine pure_ (i := 12) (N := some 39) (v := undef) (a' := ?_) (bm 14 8191) rfl rfl (any_of HT_.out sqF) (fun _ _ _ h => h) (Or.inr ⟨by rfl, rfl⟩) ?_ ?_
       rotate_left
       ·simp only [Act.put, sqA, i64_w, i32_w]; rfl
       refine pure_ (i := 13) (N := some 40) (v := ?_) (a' := ?_) (bm 14 16383) rfl rfl (any_of HT_.out sqF) (fun _ _ _ h => h) (Or.inl ⟨by rfl, ?_⟩) ?_ ?_
       rotate_left
       ·intro w'
        go_simp; with_reducible rfl
       rotate_left
       ·simp only [Act.put, sqA, i64_w, i32_w]; rfl
       refine done_ (done_of HT_.out sqF) ?_; have hnb43 := NB135_133.out; have hnc43 := NB133_135.out; have hnb44 := NB135_134.out; have hnc44 := NB134_135.out; have hnb45 := NB135_136.out; have hnc45 := NB136_135.out; have hcz46_0 := sqc0 BK135; have hcz46_1 := sqc1 BK135; have hfz46_0 := blk_frozen BK135.out 0; have hfz46_1 := blk_frozen BK135.out 1
       try go_wp2_with (first | ((with_reducible refine gate_callee (f := 82) rfl ?_); refine goesL_ (some 46) rfl rfl Tryd.func82 sqF rfl #[.agg #[.int .i64 a3_0, .int .i64 a3_1]] rfl sqM ?_; (with_reducible refine (wool_some_isNone.calls a3_0 a3_1 false _ A28.out).mono ?_); rintro e w47 ⟨rfl, hb⟩; refine ⟨_, rfl, ?_⟩; replace BK133 := sqk BK133 hb; replace BK134 := sqk BK134 hb; replace BK135 := sqk BK135 hb; replace BK136 := sqk BK136 hb; replace HB := sqb hb HB; (try clear hb); (try clear hb2); (try clear hk); (try clear hi); have hnb48 := NB134_133.out; have hnc48 := NB133_134.out; have hnb49 := NB134_136.out; have hnc49 := NB136_134.out; have hcz50_0 := sqc0 BK134; have hcz50_1 := sqc1 BK134; have hfz50_0 := blk_frozen BK134.out 0; have hfz50_1 := blk_frozen BK134.out 1; have hnb51 := NB136_133.out; have hnc51 := NB133_136.out; have hcz52_0 := sqc0 BK136; have hcz52_1 := sqc1 BK136; have hfz52_0 := blk_frozen BK136.out 0; have hfz52_1 := blk_frozen BK136.out 1))
       refine bodyPost_ret (results_cell_row rfl _ _ gb136 100 #[.int .i64 x135000_4, .int .i64 x135001_2] (0, 0) _ rfl (by (with_reducible repeat (first | refine blk_drewN ?_ _ | refine blk_drew ?_ | refine blk_alloc ?_ _)); refine blk_put (cs := #[.int .i64 x135000_4, .int .i64 0]) ?_ 1 _ rfl; (with_reducible repeat (first | refine blk_drewN ?_ _ | refine blk_drew ?_ | refine blk_alloc ?_ _)); refine blk_put (cs := #[.int .i64 0, .int .i64 0]) ?_ 0 _ rfl; (with_reducible repeat (first | refine blk_drewN ?_ _ | refine blk_drew ?_ | refine blk_alloc ?_ _)); exact BK136.out) Tryd.underlying100 rfl sqF) rfl ?_; exact ⟨by first | rfl | (simp [errW_none, errW_some] <;> rfl) | (simp [*, errW_none, errW_some] <;> rfl), sqB HB⟩
     ·replace c27 := Bool.eq_false_iff.mpr c27
      subst c27; rw [if_neg Bool.false_ne_true] at H; obtain ⟨⟨t142, t143⟩, A530, H⟩ := Option.bind_eq_some_iff.mp H; replace H : (if t142 > a3_1 then (wool_road_back.l1 k2 a1 l0_0 l0_1 x135000_4 (wrap64 (x135001_2 - 1)) a3_0 a3_1) else ((wool_some_isNone.f a3_0 a3_1).bind fun t144 => (if t144 = true then (some (a3_0, a3_1)) else (some (x135000_4, x135001_2))))) = some (r1, r2) := H; have A53 := Aside0.mk A530; clear A530
      by_cases c54 : t142 > a3_1
      ·rw [if_pos c54] at H
       have c54b0 : decide (a3_1 < t142) = true := decide_eq_true c54; clear c54; have H' := Aside0.mk H
       clear H; try go_wp2
       have n0_ := Aside0.mk (blk_drew BK133.out); have n1_ := Aside0.mk (blk_drew BK134.out); have n2_ := Aside0.mk (blk_drew BK135.out); have n3_ := Aside0.mk (blk_drew BK136.out); have n4_ := Aside0.mk (below_drew1 HB.out); clear BK133 BK134 BK135 BK136 HB; have BK133 := n0_; have BK134 := n1_; have BK135 := n2_; have BK136 := n3_; have HB := n4_; clear n0_ n1_ n2_ n3_ n4_; refine start_ (n := 14) (S := fun w' => w'.cell? ⟨gb134, 0, none⟩ = some (.int .i64 x135000_4) ∧ w'.cell? ⟨gb134, 1, none⟩ = some (.int .i64 x135001_2) ∧ w'.cell? ⟨gb133, 0, none⟩ = some (.slice A0_0 l0_0.length c0_0) ∧ w'.cell? ⟨gb133, 1, none⟩ = some (.slice A0_1 l0_1.length c0_1) ∧ w'.cell? ⟨gb135, 0, none⟩ = some (.int .i64 a3_0) ∧ w'.cell? ⟨gb135, 1, none⟩ = some (.int .i64 a3_1)) (ds := []) (bm 14 0) sqF rfl rfl ⟨(blk_cell BK134.out 0).trans rfl, (blk_cell BK134.out 1).trans rfl, (blk_cell BK133.out 0).trans rfl, (blk_cell BK133.out 1).trans rfl, (blk_cell BK135.out 0).trans rfl, (blk_cell BK135.out 1).trans rfl⟩ (fun hHeld => ?_); refine with_tabW wool_road_back.tab3 wool_road_back.bits3 (fun HT_ HW_ => ?_)
       generalize wr.drew = w55 at BK133 BK134 BK135 BK136 HB hHeld ⊢
       refine take_ (i := 0) (N := some 27) (v := ?_) (a' := ?_) (bm 14 1) rfl rfl (take_ofW HT_.out HW_.out sqF) (fun _ _ _ h => h) (Or.inl ⟨by rfl, ?_⟩) hHeld ?_ ?_
       rotate_left
       ·rintro w' ⟨s0, s1, s2, s3, s4, s5⟩
        go_simp; with_reducible rfl
       rotate_left
       ·simp only [Act.put, sqA, i64_w, i32_w]; rfl
       refine one_ (i := 1) (N := some 28) (bm 14 3) rfl rfl (one_of HT_.out sqF) (by decide) (fun K hK => ?_); refine goes_ Tryd.func82 sqF rfl #[.agg #[.int .i64 x135000_4, .int .i64 x135001_2]] (by rfl) rfl rfl sqM ?_
       with_reducible refine (wool_some_isNone.calls x135000_4 x135001_2 false _ A26.out).mono ?_
       rintro e w56 ⟨rfl, hb⟩; refine ⟨_, rfl, ?_⟩; have n0_ := Aside0.mk (blk_below (g := gb133) (o := .cells #[.slice A0_0 l0_0.length c0_0, .slice A0_1 l0_1.length c0_1] 95 (0, 0)) (sqK BK133) hb); have n1_ := Aside0.mk (blk_below (g := gb134) (o := .cells #[.int .i64 x135000_4, .int .i64 x135001_2] 100 (0, 0)) (sqK BK134) hb); have n2_ := Aside0.mk (blk_below (g := gb135) (o := .cells #[.int .i64 a3_0, .int .i64 a3_1] 100 (0, 0)) (sqK BK135) hb); have n3_ := Aside0.mk (blk_below (g := gb136) (o := .cells #[.int .i64 0, .int .i64 0] 100 (0, 0)) (sqK BK136) hb); have n4_ := Aside0.mk (below_step (sqB HB) hb); clear BK133 BK134 BK135 BK136 HB; have BK133 := n0_; have BK134 := n1_; have BK135 := n2_; have BK136 := n3_; have HB := n4_; clear n0_ n1_ n2_ n3_ n4_; (try clear hb); (try clear hb2); (try clear hk); (try clear hi); refine hK.out _ _ ⟨(blk_cell BK134.out 0).trans rfl, (blk_cell BK134.out 1).trans rfl, (blk_cell BK133.out 0).trans rfl, (blk_cell BK133.out 1).trans rfl, (blk_cell BK135.out 0).trans rfl, (blk_cell BK135.out 1).trans rfl⟩ (fun hHeld => ?_); clear hK K; refine norm_ (a' := ?_) ?_ ?_
       rotate_left
       ·show Act.put _ (some 28) _ = _
        simp only [Act.put, sqA, i64_w, i32_w]; rfl
       refine pure_ (i := 2) (N := some 29) (v := ?_) (a' := ?_) (bm 14 7) rfl rfl (any_of HT_.out sqF) (fun _ _ _ h => h) (Or.inl ⟨by rfl, ?_⟩) ?_ ?_
       rotate_left
       ·intro w'
        go_simp; with_reducible rfl
       rotate_left
       ·simp only [Act.put, sqA, i64_w, i32_w]; rfl
       refine pure_ (i := 3) (N := some 30) (v := ?_) (a' := ?_) (bm 14 15) rfl rfl (any_of HT_.out sqF) (fun _ _ _ h => h) (Or.inl ⟨by rfl, ?_⟩) ?_ ?_
       rotate_left
       ·intro w'
        go_simp; with_reducible rfl
       rotate_left
       ·simp only [Act.put, sqA, i64_w, i32_w]; rfl
       refine pure_ (i := 5) (N := some 32) (v := ?_) (a' := ?_) (bm 14 47) rfl rfl (any_of HT_.out sqF) (fun _ _ _ h => h) (Or.inl ⟨by rfl, ?_⟩) ?_ ?_
       rotate_left
       ·intro w'
        go_simp; with_reducible rfl
       rotate_left
       ·simp only [Act.put, sqA, i64_w, i32_w]; rfl
       refine pure_ (i := 6) (N := some 33) (v := ?_) (a' := ?_) (bm 14 111) rfl rfl (any_of HT_.out sqF) (fun _ _ _ h => h) (Or.inl ⟨by rfl, ?_⟩) ?_ ?_
       rotate_left
       ·intro w'
        go_simp; with_reducible rfl
       rotate_left
       ·simp only [Act.put, sqA, i64_w, i32_w]; rfl
       refine pure_ (i := 10) (N := some 37) (v := ?_) (a' := ?_) (bm 14 1135) rfl rfl (any_of HT_.out sqF) (fun _ _ _ h => h) (Or.inl ⟨by rfl, ?_⟩) ?_ ?_
       rotate_left
       ·intro w'
        go_simp; with_reducible rfl
       rotate_left
       ·simp only [Act.put, sqA, i64_w, i32_w]; rfl
       refine take_ (i := 4) (N := some 31) (v := ?_) (a' := ?_) (bm 14 1151) rfl rfl (take_ofW HT_.out HW_.out sqF) (fun _ _ _ h => h) (Or.inl ⟨by rfl, ?_⟩) hHeld ?_ ?_
       rotate_left
       ·rintro w' ⟨s0, s1, s2, s3, s4, s5⟩
        go_simp; with_reducible rfl
       rotate_left
       ·simp only [Act.put, sqA, i64_w, i32_w]; rfl
       refine take_ (i := 7) (N := some 34) (v := ?_) (a' := ?_) (bm 14 1279) rfl rfl (take_ofW HT_.out HW_.out sqF) (fun _ _ _ h => h) (Or.inl ⟨by rfl, ?_⟩) hHeld ?_ ?_
       rotate_left
       ·rintro w' ⟨s0, s1, s2, s3, s4, s5⟩
        go_simp; with_reducible rfl
       rotate_left
       ·simp only [Act.put, sqA, i64_w, i32_w]; rfl
       refine take_ (i := 11) (N := some 38) (v := ?_) (a' := ?_) (bm 14 3327) rfl rfl (take_ofW HT_.out HW_.out sqF) (fun _ _ _ h => h) (Or.inl ⟨by rfl, ?_⟩) hHeld ?_ ?_
       rotate_left
       ·rintro w' ⟨s0, s1, s2, s3, s4, s5⟩
        go_simp; with_reducible rfl
       rotate_left
       ·simp only [Act.put, sqA, i64_w, i32_w]; rfl
       refine one_ (i := 8) (N := some 35) (bm 14 3583) rfl rfl (one_of HT_.out sqF) (by decide) (fun K hK => ?_); refine goes_ Tryd.func62 sqF rfl #[.agg #[.slice A0_0 l0_0.length c0_0, .slice A0_1 l0_1.length c0_1], .int .i64 a1, .int .i64 x135001_2] (by rfl) rfl rfl sqM ?_
       with_reducible refine (wool_road_left.calls _ _ l0_0 _ _ l0_1 a1 x135001_2 t142 t143 _ ?side1 ?side2 ?side3 ?side4 A53.out).mono ?_
       (case side1 => exact sqQ HR0_0 HB)
       (case side2 => exact HC0_0.out)
       (case side3 => exact sqQ HR0_1 HB)
       (case side4 => exact HC0_1.out)
       rintro e w57 ⟨rfl, hb⟩; refine ⟨_, rfl, ?_⟩; have n0_ := Aside0.mk (blk_below (g := gb133) (o := .cells #[.slice A0_0 l0_0.length c0_0, .slice A0_1 l0_1.length c0_1] 95 (0, 0)) (sqK BK133) hb); have n1_ := Aside0.mk (blk_below (g := gb134) (o := .cells #[.int .i64 x135000_4, .int .i64 x135001_2] 100 (0, 0)) (sqK BK134) hb); have n2_ := Aside0.mk (blk_below (g := gb135) (o := .cells #[.int .i64 a3_0, .int .i64 a3_1] 100 (0, 0)) (sqK BK135) hb); have n3_ := Aside0.mk (blk_below (g := gb136) (o := .cells #[.int .i64 0, .int .i64 0] 100 (0, 0)) (sqK BK136) hb); have n4_ := Aside0.mk (below_step (sqB HB) hb); clear BK133 BK134 BK135 BK136 HB; have BK133 := n0_; have BK134 := n1_; have BK135 := n2_; have BK136 := n3_; have HB := n4_; clear n0_ n1_ n2_ n3_ n4_; (try clear hb); (try clear hb2); (try clear hk); (try clear hi); refine hK.out _ _ ⟨(blk_cell BK134.out 0).trans rfl, (blk_cell BK134.out 1).trans rfl, (blk_cell BK133.out 0).trans rfl, (blk_cell BK133.out 1).trans rfl, (blk_cell BK135.out 0).trans rfl, (blk_cell BK135.out 1).trans rfl⟩ (fun hHeld => ?_); clear hK K; refine norm_ (a' := ?_) ?_ ?_
       rotate_left
       ·show Act.put _ (some 35) _ = _
        simp only [Act.put, sqA, i64_w, i32_w]; rfl
       refine pure_ (i := 9) (N := some 36) (v := ?_) (a' := ?_) (bm 14 4095) rfl rfl (any_of HT_.out sqF) (fun _ _ _ h => h) (Or.inl ⟨by rfl, ?_⟩) ?_ ?_
       rotate_left
       ·intro w'
        go_simp; with_reducible rfl
       rotate_left
       ·simp only [Act.put, sqA, i64_w, i32_w]; rfl
       refine pure_ (i := 12) (N := some 39) (v := ?_) (a' := ?_) (bm 14 8191) rfl rfl (any_of HT_.out sqF) (fun _ _ _ h => h) (Or.inl ⟨by rfl, ?_⟩) ?_ ?_
       rotate_left
       ·intro w'
        go_simp; with_reducible rfl
       rotate_left
       ·simp only [Act.put, sqA, i64_w, i32_w]; rfl
       refine pure_ (i := 13) (N := some 40) (v := ?_) (a' := ?_) (bm 14 16383) rfl rfl (any_of HT_.out sqF) (fun _ _ _ h => h) (Or.inl ⟨by rfl, ?_⟩) ?_ ?_
       rotate_left
       ·intro w'
        go_simp; with_reducible rfl
       rotate_left
       ·simp only [Act.put, sqA, i64_w, i32_w]; rfl
       refine done_ (done_of HT_.out sqF) ?_; have hnb58 := NB134_133.out; have hnc58 := NB133_134.out; have hnb59 := NB134_135.out; have hnc59 := NB135_134.out; have hnb60 := NB134_136.out; have hnc60 := NB136_134.out; have hcz61_0 := sqc0 BK134; have hcz61_1 := sqc1 BK134; have hfz61_0 := blk_frozen BK134.out 0; have hfz61_1 := blk_frozen BK134.out 1
       try go_wp2
       go_roundg k2
       case measure => have := HJ4.out; have := HK2.out; omega
       case rel => exact ⟨(wrap64 (x135001_2 - 1)), H', ⟨by have := HJ4.out; have := HK2.out; omega⟩, ⟨sqX⟩, ⟨by (with_reducible repeat (first | refine blk_drewN ?_ _ | refine blk_drew ?_ | refine blk_alloc ?_ _)); refine blk_put (cs := #[.int .i64 x135000_4, .int .i64 x135001_2]) ?_ 1 _ rfl; (with_reducible repeat (first | refine blk_drewN ?_ _ | refine blk_drew ?_ | refine blk_alloc ?_ _)); exact BK134.out⟩, ⟨sqX⟩, ⟨sqX⟩, ⟨sqB HB⟩⟩
      ·rw [if_neg c54] at H
       have c54b0 : decide (a3_1 < t142) = false := decide_eq_false c54; clear c54; obtain ⟨t144, A620, H⟩ := Option.bind_eq_some_iff.mp H; have A62 := Aside0.mk A620; clear A620
       by_cases c63 : t144 = true
       ·subst c63
        rw [if_pos rfl] at H; simp only [Option.some.injEq, Prod.mk.injEq] at H; obtain ⟨rfl, rfl⟩ := H
        try go_wp2
        have n0_ := Aside0.mk (blk_drew BK133.out); have n1_ := Aside0.mk (blk_drew BK134.out); have n2_ := Aside0.mk (blk_drew BK135.out); have n3_ := Aside0.mk (blk_drew BK136.out); have n4_ := Aside0.mk (below_drew1 HB.out); clear BK133 BK134 BK135 BK136 HB; have BK133 := n0_; have BK134 := n1_; have BK135 := n2_; have BK136 := n3_; have HB := n4_; clear n0_ n1_ n2_ n3_ n4_; refine start_ (n := 14) (S := fun w' => w'.cell? ⟨gb134, 0, none⟩ = some (.int .i64 x135000_4) ∧ w'.cell? ⟨gb134, 1, none⟩ = some (.int .i64 x135001_2) ∧ w'.cell? ⟨gb133, 0, none⟩ = some (.slice A0_0 l0_0.length c0_0) ∧ w'.cell? ⟨gb133, 1, none⟩ = some (.slice A0_1 l0_1.length c0_1) ∧ w'.cell? ⟨gb135, 0, none⟩ = some (.int .i64 a3_0) ∧ w'.cell? ⟨gb135, 1, none⟩ = some (.int .i64 a3_1)) (ds := []) (bm 14 0) sqF rfl rfl ⟨(blk_cell BK134.out 0).trans rfl, (blk_cell BK134.out 1).trans rfl, (blk_cell BK133.out 0).trans rfl, (blk_cell BK133.out 1).trans rfl, (blk_cell BK135.out 0).trans rfl, (blk_cell BK135.out 1).trans rfl⟩ (fun hHeld => ?_); refine with_tabW wool_road_back.tab3 wool_road_back.bits3 (fun HT_ HW_ => ?_)
        generalize wr.drew = w64 at BK133 BK134 BK135 BK136 HB hHeld ⊢
        refine take_ (i := 0) (N := some 27) (v := ?_) (a' := ?_) (bm 14 1) rfl rfl (take_ofW HT_.out HW_.out sqF) (fun _ _ _ h => h) (Or.inl ⟨by rfl, ?_⟩) hHeld ?_ ?_
        rotate_left
        ·rintro w' ⟨s0, s1, s2, s3, s4, s5⟩
         go_simp; with_reducible rfl
        rotate_left
        ·simp only [Act.put, sqA, i64_w, i32_w]; rfl
        refine one_ (i := 1) (N := some 28) (bm 14 3) rfl rfl (one_of HT_.out sqF) (by decide) (fun K hK => ?_); refine goes_ Tryd.func82 sqF rfl #[.agg #[.int .i64 x135000_4, .int .i64 x135001_2]] (by rfl) rfl rfl sqM ?_
        with_reducible refine (wool_some_isNone.calls x135000_4 x135001_2 false _ A26.out).mono ?_
        rintro e w65 ⟨rfl, hb⟩; refine ⟨_, rfl, ?_⟩; have n0_ := Aside0.mk (blk_below (g := gb133) (o := .cells #[.slice A0_0 l0_0.length c0_0, .slice A0_1 l0_1.length c0_1] 95 (0, 0)) (sqK BK133) hb); have n1_ := Aside0.mk (blk_below (g := gb134) (o := .cells #[.int .i64 x135000_4, .int .i64 x135001_2] 100 (0, 0)) (sqK BK134) hb); have n2_ := Aside0.mk (blk_below (g := gb135) (o := .cells #[.int .i64 a3_0, .int .i64 a3_1] 100 (0, 0)) (sqK BK135) hb); have n3_ := Aside0.mk (blk_below (g := gb136) (o := .cells #[.int .i64 0, .int .i64 0] 100 (0, 0)) (sqK BK136) hb); have n4_ := Aside0.mk (below_step (sqB HB) hb); clear BK133 BK134 BK135 BK136 HB; have BK133 := n0_; have BK134 := n1_; have BK135 := n2_; have BK136 := n3_; have HB := n4_; clear n0_ n1_ n2_ n3_ n4_; (try clear hb); (try clear hb2); (try clear hk); (try clear hi); refine hK.out _ _ ⟨(blk_cell BK134.out 0).trans rfl, (blk_cell BK134.out 1).trans rfl, (blk_cell BK133.out 0).trans rfl, (blk_cell BK133.out 1).trans rfl, (blk_cell BK135.out 0).trans rfl, (blk_cell BK135.out 1).trans rfl⟩ (fun hHeld => ?_); clear hK K; refine norm_ (a' := ?_) ?_ ?_
        rotate_left
        ·show Act.put _ (some 28) _ = _
         simp only [Act.put, sqA, i64_w, i32_w]; rfl
        refine pure_ (i := 2) (N := some 29) (v := ?_) (a' := ?_) (bm 14 7) rfl rfl (any_of HT_.out sqF) (fun _ _ _ h => h) (Or.inl ⟨by rfl, ?_⟩) ?_ ?_
        rotate_left
        ·intro w'
         go_simp; with_reducible rfl
        rotate_left
        ·simp only [Act.put, sqA, i64_w, i32_w]; rfl
        refine pure_ (i := 3) (N := some 30) (v := ?_) (a' := ?_) (bm 14 15) rfl rfl (any_of HT_.out sqF) (fun _ _ _ h => h) (Or.inl ⟨by rfl, ?_⟩) ?_ ?_
        rotate_left
        ·intro w'
         go_simp; with_reducible rfl
        rotate_left
        ·simp only [Act.put, sqA, i64_w, i32_w]; rfl
        refine pure_ (i := 5) (N := some 32) (v := ?_) (a' := ?_) (bm 14 47) rfl rfl (any_of HT_.out sqF) (fun _ _ _ h => h) (Or.inl ⟨by rfl, ?_⟩) ?_ ?_
        rotate_left
        ·intro w'
         go_simp; with_reducible rfl
        rotate_left
        ·simp only [Act.put, sqA, i64_w, i32_w]; rfl
        refine pure_ (i := 6) (N := some 33) (v := ?_) (a' := ?_) (bm 14 111) rfl rfl (any_of HT_.out sqF) (fun _ _ _ h => h) (Or.inl ⟨by rfl, ?_⟩) ?_ ?_
        rotate_left
        ·intro w'
         go_simp; with_reducible rfl
        rotate_left
        ·simp only [Act.put, sqA, i64_w, i32_w]; rfl
        refine pure_ (i := 10) (N := some 37) (v := ?_) (a' := ?_) (bm 14 1135) rfl rfl (any_of HT_.out sqF) (fun _ _ _ h => h) (Or.inl ⟨by rfl, ?_⟩) ?_ ?_
        rotate_left
        ·intro w'
         go_simp; with_reducible rfl
        rotate_left
        ·simp only [Act.put, sqA, i64_w, i32_w]; rfl
        refine take_ (i := 4) (N := some 31) (v := ?_) (a' := ?_) (bm 14 1151) rfl rfl (take_ofW HT_.out HW_.out sqF) (fun _ _ _ h => h) (Or.inl ⟨by rfl, ?_⟩) hHeld ?_ ?_
        rotate_left
        ·rintro w' ⟨s0, s1, s2, s3, s4, s5⟩
         go_simp; with_reducible rfl
        rotate_left
        ·simp only [Act.put, sqA, i64_w, i32_w]; rfl
        refine take_ (i := 7) (N := some 34) (v := ?_) (a' := ?_) (bm 14 1279) rfl rfl (take_ofW HT_.out HW_.out sqF) (fun _ _ _ h => h) (Or.inl ⟨by rfl, ?_⟩) hHeld ?_ ?_
        rotate_left
        ·rintro w' ⟨s0, s1, s2, s3, s4, s5⟩
         go_simp; with_reducible rfl
        rotate_left
        ·simp only [Act.put, sqA, i64_w, i32_w]; rfl
        refine take_ (i := 11) (N := some 38) (v := ?_) (a' := ?_) (bm 14 3327) rfl rfl (take_ofW HT_.out HW_.out sqF) (fun _ _ _ h => h) (Or.inl ⟨by rfl, ?_⟩) hHeld ?_ ?_
        rotate_left
        ·rintro w' ⟨s0, s1, s2, s3, s4, s5⟩
         go_simp; with_reducible rfl
        rotate_left
        ·simp only [Act.put, sqA, i64_w, i32_w]; rfl
        refine one_ (i := 8) (N := some 35) (bm 14 3583) rfl rfl (one_of HT_.out sqF) (by decide) (fun K hK => ?_); refine goes_ Tryd.func62 sqF rfl #[.agg #[.slice A0_0 l0_0.length c0_0, .slice A0_1 l0_1.length c0_1], .int .i64 a1, .int .i64 x135001_2] (by rfl) rfl rfl sqM ?_
        with_reducible refine (wool_road_left.calls _ _ l0_0 _ _ l0_1 a1 x135001_2 t142 t143 _ ?side1 ?side2 ?side3 ?side4 A53.out).mono ?_
        (case side1 => exact sqQ HR0_0 HB)
        (case side2 => exact HC0_0.out)
        (case side3 => exact sqQ HR0_1 HB)
        (case side4 => exact HC0_1.out)
        rintro e w66 ⟨rfl, hb⟩; refine ⟨_, rfl, ?_⟩; have n0_ := Aside0.mk (blk_below (g := gb133) (o := .cells #[.slice A0_0 l0_0.length c0_0, .slice A0_1 l0_1.length c0_1] 95 (0, 0)) (sqK BK133) hb); have n1_ := Aside0.mk (blk_below (g := gb134) (o := .cells #[.int .i64 x135000_4, .int .i64 x135001_2] 100 (0, 0)) (sqK BK134) hb); have n2_ := Aside0.mk (blk_below (g := gb135) (o := .cells #[.int .i64 a3_0, .int .i64 a3_1] 100 (0, 0)) (sqK BK135) hb); have n3_ := Aside0.mk (blk_below (g := gb136) (o := .cells #[.int .i64 0, .int .i64 0] 100 (0, 0)) (sqK BK136) hb); have n4_ := Aside0.mk (below_step (sqB HB) hb); clear BK133 BK134 BK135 BK136 HB; have BK133 := n0_; have BK134 := n1_; have BK135 := n2_; have BK136 := n3_; have HB := n4_; clear n0_ n1_ n2_ n3_ n4_; (try clear hb); (try clear hb2); (try clear hk); (try clear hi); refine hK.out _ _ ⟨(blk_cell BK134.out 0).trans rfl, (blk_cell BK134.out 1).trans rfl, (blk_cell BK133.out 0).trans rfl, (blk_cell BK133.out 1).trans rfl, (blk_cell BK135.out 0).trans rfl, (blk_cell BK135.out 1).trans rfl⟩ (fun hHeld => ?_); clear hK K; refine norm_ (a' := ?_) ?_ ?_
        rotate_left
        ·show Act.put _ (some 35) _ = _
         simp only [Act.put, sqA, i64_w, i32_w]; rfl
        refine pure_ (i := 9) (N := some 36) (v := ?_) (a' := ?_) (bm 14 4095) rfl rfl (any_of HT_.out sqF) (fun _ _ _ h => h) (Or.inl ⟨by rfl, ?_⟩) ?_ ?_
        rotate_left
        ·intro w'
         go_simp; with_reducible rfl
        rotate_left
        ·simp only [Act.put, sqA, i64_w, i32_w]; rfl
        refine pure_ (i := 12) (N := some 39) (v := ?_) (a' := ?_) (bm 14 8191) rfl rfl (any_of HT_.out sqF) (fun _ _ _ h => h) (Or.inl ⟨by rfl, ?_⟩) ?_ ?_
        rotate_left
        ·intro w'
         go_simp; with_reducible rfl
        rotate_left
        ·simp only [Act.put, sqA, i64_w, i32_w]; rfl
        refine pure_ (i := 13) (N := some 40) (v := ?_) (a' := ?_) (bm 14 16383) rfl rfl (any_of HT_.out sqF) (fun _ _ _ h => h) (Or.inl ⟨by rfl, ?_⟩) ?_ ?_
        rotate_left
        ·intro w'
         go_simp; with_reducible rfl
        rotate_left
        ·simp only [Act.put, sqA, i64_w, i32_w]; rfl
        refine done_ (done_of HT_.out sqF) ?_; have hnb67 := NB135_133.out; have hnc67 := NB133_135.out; have hnb68 := NB135_134.out; have hnc68 := NB134_135.out; have hnb69 := NB135_136.out; have hnc69 := NB136_135.out; have hcz70_0 := sqc0 BK135; have hcz70_1 := sqc1 BK135; have hfz70_0 := blk_frozen BK135.out 0; have hfz70_1 := blk_frozen BK135.out 1
        try go_wp2_with (first | ((with_reducible refine gate_callee (f := 82) rfl ?_); refine goesL_ (some 46) rfl rfl Tryd.func82 sqF rfl #[.agg #[.int .i64 a3_0, .int .i64 a3_1]] rfl sqM ?_; (with_reducible refine (wool_some_isNone.calls a3_0 a3_1 true _ A62.out).mono ?_); rintro e w71 ⟨rfl, hb⟩; refine ⟨_, rfl, ?_⟩; replace BK133 := sqk BK133 hb; replace BK134 := sqk BK134 hb; replace BK135 := sqk BK135 hb; replace BK136 := sqk BK136 hb; replace HB := sqb hb HB; (try clear hb); (try clear hb2); (try clear hk); (try clear hi); have hcz72_0 := sqc0 BK135; have hcz72_1 := sqc1 BK135; have hfz72_0 := blk_frozen BK135.out 0; have hfz72_1 := blk_frozen BK135.out 1; have hnb73 := NB136_133.out; have hnc73 := NB133_136.out; have hnb74 := NB136_134.out; have hnc74 := NB134_136.out; have hcz75_0 := sqc0 BK136; have hcz75_1 := sqc1 BK136; have hfz75_0 := blk_frozen BK136.out 0; have hfz75_1 := blk_frozen BK136.out 1))
        refine bodyPost_ret (results_cell_row rfl _ _ gb136 100 #[.int .i64 a3_0, .int .i64 a3_1] (0, 0) _ rfl (by (with_reducible repeat (first | refine blk_drewN ?_ _ | refine blk_drew ?_ | refine blk_alloc ?_ _)); refine blk_put (cs := #[.int .i64 a3_0, .int .i64 0]) ?_ 1 _ rfl; (with_reducible repeat (first | refine blk_drewN ?_ _ | refine blk_drew ?_ | refine blk_alloc ?_ _)); refine blk_put (cs := #[.int .i64 0, .int .i64 0]) ?_ 0 _ rfl; (with_reducible repeat (first | refine blk_drewN ?_ _ | refine blk_drew ?_ | refine blk_alloc ?_ _)); exact BK136.out) Tryd.underlying100 rfl sqF) rfl ?_; exact ⟨by first | rfl | (simp [errW_none, errW_some] <;> rfl) | (simp [*, errW_none, errW_some] <;> rfl), sqB HB⟩
       ·replace c63 := Bool.eq_false_iff.mpr c63
        subst c63; rw [if_neg Bool.false_ne_true] at H; simp only [Option.some.injEq, Prod.mk.injEq] at H; obtain ⟨rfl, rfl⟩ := H
        try go_wp2
        have n0_ := Aside0.mk (blk_drew BK133.out); have n1_ := Aside0.mk (blk_drew BK134.out); have n2_ := Aside0.mk (blk_drew BK135.out); have n3_ := Aside0.mk (blk_drew BK136.out); have n4_ := Aside0.mk (below_drew1 HB.out); clear BK133 BK134 BK135 BK136 HB; have BK133 := n0_; have BK134 := n1_; have BK135 := n2_; have BK136 := n3_; have HB := n4_; clear n0_ n1_ n2_ n3_ n4_; refine start_ (n := 14) (S := fun w' => w'.cell? ⟨gb134, 0, none⟩ = some (.int .i64 x135000_4) ∧ w'.cell? ⟨gb134, 1, none⟩ = some (.int .i64 x135001_2) ∧ w'.cell? ⟨gb133, 0, none⟩ = some (.slice A0_0 l0_0.length c0_0) ∧ w'.cell? ⟨gb133, 1, none⟩ = some (.slice A0_1 l0_1.length c0_1) ∧ w'.cell? ⟨gb135, 0, none⟩ = some (.int .i64 a3_0) ∧ w'.cell? ⟨gb135, 1, none⟩ = some (.int .i64 a3_1)) (ds := []) (bm 14 0) sqF rfl rfl ⟨(blk_cell BK134.out 0).trans rfl, (blk_cell BK134.out 1).trans rfl, (blk_cell BK133.out 0).trans rfl, (blk_cell BK133.out 1).trans rfl, (blk_cell BK135.out 0).trans rfl, (blk_cell BK135.out 1).trans rfl⟩ (fun hHeld => ?_); refine with_tabW wool_road_back.tab3 wool_road_back.bits3 (fun HT_ HW_ => ?_)
        generalize wr.drew = w76 at BK133 BK134 BK135 BK136 HB hHeld ⊢
        refine take_ (i := 0) (N := some 27) (v := ?_) (a' := ?_) (bm 14 1) rfl rfl (take_ofW HT_.out HW_.out sqF) (fun _ _ _ h => h) (Or.inl ⟨by rfl, ?_⟩) hHeld ?_ ?_
        rotate_left
        ·rintro w' ⟨s0, s1, s2, s3, s4, s5⟩
         go_simp; with_reducible rfl
        rotate_left
        ·simp only [Act.put, sqA, i64_w, i32_w]; rfl
        refine one_ (i := 1) (N := some 28) (bm 14 3) rfl rfl (one_of HT_.out sqF) (by decide) (fun K hK => ?_); refine goes_ Tryd.func82 sqF rfl #[.agg #[.int .i64 x135000_4, .int .i64 x135001_2]] (by rfl) rfl rfl sqM ?_
        with_reducible refine (wool_some_isNone.calls x135000_4 x135001_2 false _ A26.out).mono ?_
        rintro e w77 ⟨rfl, hb⟩; refine ⟨_, rfl, ?_⟩; have n0_ := Aside0.mk (blk_below (g := gb133) (o := .cells #[.slice A0_0 l0_0.length c0_0, .slice A0_1 l0_1.length c0_1] 95 (0, 0)) (sqK BK133) hb); have n1_ := Aside0.mk (blk_below (g := gb134) (o := .cells #[.int .i64 x135000_4, .int .i64 x135001_2] 100 (0, 0)) (sqK BK134) hb); have n2_ := Aside0.mk (blk_below (g := gb135) (o := .cells #[.int .i64 a3_0, .int .i64 a3_1] 100 (0, 0)) (sqK BK135) hb); have n3_ := Aside0.mk (blk_below (g := gb136) (o := .cells #[.int .i64 0, .int .i64 0] 100 (0, 0)) (sqK BK136) hb); have n4_ := Aside0.mk (below_step (sqB HB) hb); clear BK133 BK134 BK135 BK136 HB; have BK133 := n0_; have BK134 := n1_; have BK135 := n2_; have BK136 := n3_; have HB := n4_; clear n0_ n1_ n2_ n3_ n4_; (try clear hb); (try clear hb2); (try clear hk); (try clear hi); refine hK.out _ _ ⟨(blk_cell BK134.out 0).trans rfl, (blk_cell BK134.out 1).trans rfl, (blk_cell BK133.out 0).trans rfl, (blk_cell BK133.out 1).trans rfl, (blk_cell BK135.out 0).trans rfl, (blk_cell BK135.out 1).trans rfl⟩ (fun hHeld => ?_); clear hK K; refine norm_ (a' := ?_) ?_ ?_
        rotate_left
        ·show Act.put _ (some 28) _ = _
         simp only [Act.put, sqA, i64_w, i32_w]; rfl
        refine pure_ (i := 2) (N := some 29) (v := ?_) (a' := ?_) (bm 14 7) rfl rfl (any_of HT_.out sqF) (fun _ _ _ h => h) (Or.inl ⟨by rfl, ?_⟩) ?_ ?_
        rotate_left
        ·intro w'
         go_simp; with_reducible rfl
        rotate_left
        ·simp only [Act.put, sqA, i64_w, i32_w]; rfl
        refine pure_ (i := 3) (N := some 30) (v := ?_) (a' := ?_) (bm 14 15) rfl rfl (any_of HT_.out sqF) (fun _ _ _ h => h) (Or.inl ⟨by rfl, ?_⟩) ?_ ?_
        rotate_left
        ·intro w'
         go_simp; with_reducible rfl
        rotate_left
        ·simp only [Act.put, sqA, i64_w, i32_w]; rfl
        refine pure_ (i := 5) (N := some 32) (v := ?_) (a' := ?_) (bm 14 47) rfl rfl (any_of HT_.out sqF) (fun _ _ _ h => h) (Or.inl ⟨by rfl, ?_⟩) ?_ ?_
        rotate_left
        ·intro w'
         go_simp; with_reducible rfl
        rotate_left
        ·simp only [Act.put, sqA, i64_w, i32_w]; rfl
        refine pure_ (i := 6) (N := some 33) (v := ?_) (a' := ?_) (bm 14 111) rfl rfl (any_of HT_.out sqF) (fun _ _ _ h => h) (Or.inl ⟨by rfl, ?_⟩) ?_ ?_
        rotate_left
        ·intro w'
         go_simp; with_reducible rfl
        rotate_left
        ·simp only [Act.put, sqA, i64_w, i32_w]; rfl
        refine pure_ (i := 10) (N := some 37) (v := ?_) (a' := ?_) (bm 14 1135) rfl rfl (any_of HT_.out sqF) (fun _ _ _ h => h) (Or.inl ⟨by rfl, ?_⟩) ?_ ?_
        rotate_left
        ·intro w'
         go_simp; with_reducible rfl
        rotate_left
        ·simp only [Act.put, sqA, i64_w, i32_w]; rfl
        refine take_ (i := 4) (N := some 31) (v := ?_) (a' := ?_) (bm 14 1151) rfl rfl (take_ofW HT_.out HW_.out sqF) (fun _ _ _ h => h) (Or.inl ⟨by rfl, ?_⟩) hHeld ?_ ?_
        rotate_left
        ·rintro w' ⟨s0, s1, s2, s3, s4, s5⟩
         go_simp; with_reducible rfl
        rotate_left
        ·simp only [Act.put, sqA, i64_w, i32_w]; rfl
        refine take_ (i := 7) (N := some 34) (v := ?_) (a' := ?_) (bm 14 1279) rfl rfl (take_ofW HT_.out HW_.out sqF) (fun _ _ _ h => h) (Or.inl ⟨by rfl, ?_⟩) hHeld ?_ ?_
        rotate_left
        ·rintro w' ⟨s0, s1, s2, s3, s4, s5⟩
         go_simp; with_reducible rfl
        rotate_left
        ·simp only [Act.put, sqA, i64_w, i32_w]; rfl
        refine take_ (i := 11) (N := some 38) (v := ?_) (a' := ?_) (bm 14 3327) rfl rfl (take_ofW HT_.out HW_.out sqF) (fun _ _ _ h => h) (Or.inl ⟨by rfl, ?_⟩) hHeld ?_ ?_
        rotate_left
        ·rintro w' ⟨s0, s1, s2, s3, s4, s5⟩
         go_simp; with_reducible rfl
        rotate_left
        ·simp only [Act.put, sqA, i64_w, i32_w]; rfl
        refine one_ (i := 8) (N := some 35) (bm 14 3583) rfl rfl (one_of HT_.out sqF) (by decide) (fun K hK => ?_); refine goes_ Tryd.func62 sqF rfl #[.agg #[.slice A0_0 l0_0.length c0_0, .slice A0_1 l0_1.length c0_1], .int .i64 a1, .int .i64 x135001_2] (by rfl) rfl rfl sqM ?_
        with_reducible refine (wool_road_left.calls _ _ l0_0 _ _ l0_1 a1 x135001_2 t142 t143 _ ?side1 ?side2 ?side3 ?side4 A53.out).mono ?_
        (case side1 => exact sqQ HR0_0 HB)
        (case side2 => exact HC0_0.out)
        (case side3 => exact sqQ HR0_1 HB)
        (case side4 => exact HC0_1.out)
        rintro e w78 ⟨rfl, hb⟩; refine ⟨_, rfl, ?_⟩; have n0_ := Aside0.mk (blk_below (g := gb133) (o := .cells #[.slice A0_0 l0_0.length c0_0, .slice A0_1 l0_1.length c0_1] 95 (0, 0)) (sqK BK133) hb); have n1_ := Aside0.mk (blk_below (g := gb134) (o := .cells #[.int .i64 x135000_4, .int .i64 x135001_2] 100 (0, 0)) (sqK BK134) hb); have n2_ := Aside0.mk (blk_below (g := gb135) (o := .cells #[.int .i64 a3_0, .int .i64 a3_1] 100 (0, 0)) (sqK BK135) hb); have n3_ := Aside0.mk (blk_below (g := gb136) (o := .cells #[.int .i64 0, .int .i64 0] 100 (0, 0)) (sqK BK136) hb); have n4_ := Aside0.mk (below_step (sqB HB) hb); clear BK133 BK134 BK135 BK136 HB; have BK133 := n0_; have BK134 := n1_; have BK135 := n2_; have BK136 := n3_; have HB := n4_; clear n0_ n1_ n2_ n3_ n4_; (try clear hb); (try clear hb2); (try clear hk); (try clear hi); refine hK.out _ _ ⟨(blk_cell BK134.out 0).trans rfl, (blk_cell BK134.out 1).trans rfl, (blk_cell BK133.out 0).trans rfl, (blk_cell BK133.out 1).trans rfl, (blk_cell BK135.out 0).trans rfl, (blk_cell BK135.out 1).trans rfl⟩ (fun hHeld => ?_); clear hK K; refine norm_ (a' := ?_) ?_ ?_
        rotate_left
        ·show Act.put _ (some 35) _ = _
         simp only [Act.put, sqA, i64_w, i32_w]; rfl
        refine pure_ (i := 9) (N := some 36) (v := ?_) (a' := ?_) (bm 14 4095) rfl rfl (any_of HT_.out sqF) (fun _ _ _ h => h) (Or.inl ⟨by rfl, ?_⟩) ?_ ?_
        rotate_left
        ·intro w'
         go_simp; with_reducible rfl
        rotate_left
        ·simp only [Act.put, sqA, i64_w, i32_w]; rfl
        refine pure_ (i := 12) (N := some 39) (v := ?_) (a' := ?_) (bm 14 8191) rfl rfl (any_of HT_.out sqF) (fun _ _ _ h => h) (Or.inl ⟨by rfl, ?_⟩) ?_ ?_
        rotate_left
        ·intro w'
         go_simp; with_reducible rfl
        rotate_left
        ·simp only [Act.put, sqA, i64_w, i32_w]; rfl
        refine pure_ (i := 13) (N := some 40) (v := ?_) (a' := ?_) (bm 14 16383) rfl rfl (any_of HT_.out sqF) (fun _ _ _ h => h) (Or.inl ⟨by rfl, ?_⟩) ?_ ?_
        rotate_left
        ·intro w'
         go_simp; with_reducible rfl
        rotate_left
        ·simp only [Act.put, sqA, i64_w, i32_w]; rfl
        refine done_ (done_of HT_.out sqF) ?_; have hnb79 := NB135_133.out; have hnc79 := NB133_135.out; have hnb80 := NB135_134.out; have hnc80 := NB134_135.out; have hnb81 := NB135_136.out; have hnc81 := NB136_135.out; have hcz82_0 := sqc0 BK135; have hcz82_1 := sqc1 BK135; have hfz82_0 := blk_frozen BK135.out 0; have hfz82_1 := blk_frozen BK135.out 1
        try go_wp2_with (first | ((with_reducible refine gate_callee (f := 82) rfl ?_); refine goesL_ (some 46) rfl rfl Tryd.func82 sqF rfl #[.agg #[.int .i64 a3_0, .int .i64 a3_1]] rfl sqM ?_; (with_reducible refine (wool_some_isNone.calls a3_0 a3_1 false _ A62.out).mono ?_); rintro e w83 ⟨rfl, hb⟩; refine ⟨_, rfl, ?_⟩; replace BK133 := sqk BK133 hb; replace BK134 := sqk BK134 hb; replace BK135 := sqk BK135 hb; replace BK136 := sqk BK136 hb; replace HB := sqb hb HB; (try clear hb); (try clear hb2); (try clear hk); (try clear hi); have hnb84 := NB134_133.out; have hnc84 := NB133_134.out; have hnb85 := NB134_136.out; have hnc85 := NB136_134.out; have hcz86_0 := sqc0 BK134; have hcz86_1 := sqc1 BK134; have hfz86_0 := blk_frozen BK134.out 0; have hfz86_1 := blk_frozen BK134.out 1; have hnb87 := NB136_133.out; have hnc87 := NB133_136.out; have hcz88_0 := sqc0 BK136; have hcz88_1 := sqc1 BK136; have hfz88_0 := blk_frozen BK136.out 0; have hfz88_1 := blk_frozen BK136.out 1))
        refine bodyPost_ret (results_cell_row rfl _ _ gb136 100 #[.int .i64 x135000_4, .int .i64 x135001_2] (0, 0) _ rfl (by (with_reducible repeat (first | refine blk_drewN ?_ _ | refine blk_drew ?_ | refine blk_alloc ?_ _)); refine blk_put (cs := #[.int .i64 x135000_4, .int .i64 0]) ?_ 1 _ rfl; (with_reducible repeat (first | refine blk_drewN ?_ _ | refine blk_drew ?_ | refine blk_alloc ?_ _)); refine blk_put (cs := #[.int .i64 0, .int .i64 0]) ?_ 0 _ rfl; (with_reducible repeat (first | refine blk_drewN ?_ _ | refine blk_drew ?_ | refine blk_alloc ?_ _)); exact BK136.out) Tryd.underlying100 rfl sqF) rfl ?_; exact ⟨by first | rfl | (simp [errW_none, errW_some] <;> rfl) | (simp [*, errW_none, errW_some] <;> rfl), sqB HB⟩
end Go.Proofs.YtemingmeidmjkaaDoor.Q
namespace Go.Proofs.YtemingmeidmjkaaDoor.Q
open Go.RowKit Go.Shelf Go.Proofs.YtemingmeidmjkaaDoorW.PrintWords
set_option linter.unusedVariables false
set_option linter.unusedSimpArgs false
theorem Ev.up {α : Type} {g : Nat → Option α} {r : α} (h : Ev (fun k => g (k + 1)) r) : Ev g r := by
 obtain ⟨K, hK⟩ := h; refine ⟨K + 1, fun k hk => ?_⟩; obtain ⟨m, rfl⟩ : ∃ m, k = m + 1 := ⟨k - 1, by omega⟩; exact hK m (by omega)
theorem wr {x : Int} (h : -9223372036854775808 ≤ x ∧ x ≤ 9223372036854775807) : wrap64 x = x := by unfold wrap64; omega
theorem wi (i : Nat) (h : i ≤ 100000) : wrap64 ((i : Int) + 1) = ((i + 1 : Nat) : Int) := by rw [wr (by omega)]; omega
theorem ofSp_C {w : World} {A : Option Addr} {n : Nat} {l : List Sp} (h : Kd.C kSp w A n l) : Kd.C k41 w A (ofSp l).length (ofSp l) :=
 map_C (d' := k41) (fun x : Sp => (⟨x.lo, x.hi⟩ : S41)) rfl (fun w x cs h => by obtain rfl := kSp_open h; exact k41_mk w ⟨x.lo, x.hi⟩) h
theorem ofSp_len (l : List Sp) : (ofSp l).length = l.length := by simp [ofSp]
def ofWg (l : List Wg) : List S80 := l.map fun x => ⟨x.p, x.r, x.o⟩
theorem ofWg_C {w : World} {A : Option Addr} {n : Nat} {l : List Wg} (h : Kd.C kWg w A n l) : Kd.C k80 w A (ofWg l).length (ofWg l) :=
 map_C (d' := k80) (fun x : Wg => (⟨x.p, x.r, x.o⟩ : S80)) rfl (fun w x cs h => by obtain rfl := kWg_open h; exact k80_mk w ⟨x.p, x.r, x.o⟩) h
theorem ofWg_len (l : List Wg) : (ofWg l).length = l.length := by simp [ofWg]
theorem toWg_ofWg (l : List Wg) : toWg (ofWg l) = l := by
 unfold toWg ofWg
 rw [List.map_map]; exact (List.map_congr_left (fun x _ => rfl)).trans (List.map_id l)
theorem rdSm (l : List S100) (i : Nat) (h : i < l.length) : rd_T100 l (i : Int) = l[i] := by simp [rd_T100, h]
theorem rdSt (l : List Sp) (i : Int) (h0 : 0 ≤ i) (h : i < l.length) : rd_T41 (ofSp l) i = ⟨(rdS l i).lo, (rdS l i).hi⟩ := by
 have h2 : i.toNat < l.length := by omega
 simp [rd_T41, ofSp, rdS, h2]
structure RdOk (st : List Sp) (wg : List Wg) : Prop where
 sts : ∀ s ∈ st, stB s
 wgs : wgOk wg
 len : st.length ≤ 1000
theorem RdOk.at {st wg} (h : RdOk st wg) (i : Int) (h0 : 0 ≤ i) (h1 : i < st.length) : stB (rdS st i) := by
 refine h.sts _ ?_
 have h2 : i.toNat < st.length := by omega
 simp [rdS, h2]
def okS (s : Sp) : Prop := s.lo > s.hi ∨ (0 ≤ s.lo ∧ s.hi ≤ 400)
theorem left_f (st : List Sp) (wg : List S80) (i x : Int) (h0 : 0 ≤ i) (h1 : i < st.length) (hv : stB (rdS st i)) (hx : 0 ≤ x ∧ x ≤ 400) :
  wool_road_left.f (ofSp st) wg i x = some (loS (rdS st i) x, hiS (rdS st i) x) := by
 unfold wool_road_left.f
 obtain ⟨a, b, c⟩ := hv; rw [if_pos h0, if_pos (by rw [ofSp_len]; exact h1), rdSt st i h0 h1]; simp only; have e1 : 0 ≤ x * (rdS st i).hi := Int.mul_nonneg hx.1 (by omega); have e2 : x * (rdS st i).hi ≤ 400 * 300 := Int.mul_le_mul hx.2 c (by omega) (by omega); have e3 : 0 ≤ x * (rdS st i).lo := Int.mul_nonneg hx.1 a; have e4 : x * (rdS st i).lo ≤ 400 * 300 := Int.mul_le_mul hx.2 (by omega) a (by omega)
 unfold loS hiS
 generalize x * (rdS st i).hi = y at *
 generalize x * (rdS st i).lo = z at *
 rw [wr (x := y) (by omega), wr (x := z) (by omega), wr (x := y + 999) (by omega), Int.tdiv_eq_ediv_of_nonneg (by omega), Int.tdiv_eq_ediv_of_nonneg (by omega), wr (x := (y + 999) / 1000) (by omega), wr (x := z / 1000) (by omega), wr (by omega), wr (by omega)]
theorem on_f (st : List Sp) (wg : List S80) (i : Int) (s : Sp) (h0 : 0 ≤ i) (h1 : i < st.length) (hv : stB (rdS st i)) (hs : okS s) :
  wool_road_on.f (ofSp st) wg i s.lo s.hi = some ((onS (rdS st i) s).lo, (onS (rdS st i) s).hi) := by
 unfold wool_road_on.f wool_some_isNone.f onS
 simp only [Option.bind_some]
 by_cases h : s.lo > s.hi
 ·simp [h]
 ·have hs' : 0 ≤ s.lo ∧ s.hi ≤ 400 := by rcases hs with hs | hs; exact absurd hs h; exact hs
  rw [if_neg (by simpa using h), left_f st wg i s.lo h0 h1 hv (by omega), Option.bind_some, left_f st wg i s.hi h0 h1 hv (by omega), Option.bind_some, if_neg h]
theorem onS_ok {st s : Sp} (h : stB st) (hs : okS s) : okS (onS st s) := by
 unfold onS
 by_cases hn : s.lo > s.hi
 ·rw [if_pos hn]; exact .inl hn
 ·rw [if_neg hn]
  have hs' : 0 ≤ s.lo ∧ s.hi ≤ 400 := by rcases hs with hs | hs; exact absurd hs hn; exact hs
  have h1 := loS_nn h (w := s.lo) hs'.1; have h2 := hiS_le h (w := s.hi) (by omega); exact .inr ⟨h1, by simp only; omega⟩
theorem andS_ok {s t : Sp} (hs : okS s) (ht : 0 ≤ t.lo) : okS (andS s t) := by
 unfold okS andS at *
 simp only; omega
theorem seenS_ok (wg : List Wg) (p : Int) : 0 ≤ (seenS wg p).lo ∧ (seenS wg p).hi ≤ 400 := by
 have key : ∀ (l : List Wg) (s : Sp), 0 ≤ s.lo ∧ s.hi ≤ 400 → 0 ≤ (l.foldl (seenStep p) s).lo ∧ (l.foldl (seenStep p) s).hi ≤ 400 := by
  intro l
  induction l with
  | nil => intro s h; exact h
  | cons x l ih =>
   intro s h; rw [List.foldl_cons]; refine ih _ ?_
   unfold seenStep
   split
   ·simp only [andS]; omega
   ·exact h
 exact key wg _ ⟨by simp, by simp⟩
def comeAt (st : List Sp) (wg : List Wg) : Nat → Sp
 | 0 => seenS wg 0
 | i + 1 => andS (onS (rdS st i) (comeAt st wg i)) (seenS wg ((i + 1 : Nat) : Int))
def comeL (st : List Sp) (wg : List Wg) : List Sp := (List.range (st.length + 1)).map (comeAt st wg)
theorem comeAt_ok {st : List Sp} {wg : List Wg} (h : RdOk st wg) : ∀ i : Nat, i ≤ st.length → okS (comeAt st wg i)
 | 0, _ => .inr (seenS_ok wg 0)
 | i + 1, hi => andS_ok (onS_ok (h.at i (by omega) (by omega)) (comeAt_ok h i (by omega))) (seenS_ok wg _).1
theorem seen_f {st : List Sp} {wg : List Wg} (h : RdOk st wg) (l : List S41) (p : Int) : wool_road_seen.f l (ofWg wg) p = some ((seenS wg p).lo, (seenS wg p).hi) := by
 unfold wool_road_seen.f
 rw [toWg_ofWg, if_pos h.wgs]
theorem come_l0 {st : List Sp} {wg : List Wg} (h : RdOk st wg) : ∀ (d i : Nat), i + d = st.length → Ev (fun k => wool_road_come.l0 k (ofSm ((List.range (i + 1)).map (comeAt st wg))) (st.length : Int) (i : Int) (ofSp st) (ofWg wg)) (ofSm (comeL st wg))
 | 0, i, hd => by
  refine Ev.up ?_
  obtain rfl : i = st.length := by omega
  simp only [wool_road_come.l0, if_neg (show ¬ (st.length : Int) < (st.length : Int) by omega)]; exact Ev.now _
 | d + 1, i, hd => by
  have ih := come_l0 h d (i + 1) (by omega); refine Ev.up ?_
  have hl : (ofSm ((List.range (i + 1)).map (comeAt st wg))).length = i + 1 := by simp [ofSm]
  have hlen := h.len
  have er : rd_T100 (ofSm ((List.range (i + 1)).map (comeAt st wg))) (i : Int) = ⟨(comeAt st wg i).lo, (comeAt st wg i).hi⟩ := by
   rw [rdSm _ _ (by rw [hl]; omega)]
   simp [ofSm]
  simp only [wool_road_come.l0, if_pos (show (i : Int) < (st.length : Int) by omega), if_pos (show (0 : Int) ≤ (i : Int) by omega), hl, if_pos (show (i : Int) < ((i + 1 : Nat) : Int) by omega), er, wi i (by omega)]; rw [on_f st (ofWg wg) i (comeAt st wg i) (by omega) (by omega) (h.at i (by omega) (by omega)) (comeAt_ok h i (by omega))]; simp only [Option.bind_some, seen_f h, wool_some_and.f, if_pos (show i + 1 < 8796093022208 by omega), wi i (show i ≤ 100000 by omega)]
  have e : (List.range (i + 1 + 1)).map (comeAt st wg) = (List.range (i + 1)).map (comeAt st wg) ++ [comeAt st wg (i + 1)] := by
   rw [List.range_succ (n := i + 1), List.map_append]; rfl
  have e2 : ofSm ((List.range (i + 1 + 1)).map (comeAt st wg)) = ofSm ((List.range (i + 1)).map (comeAt st wg)) ++ [⟨(comeAt st wg (i + 1)).lo, (comeAt st wg (i + 1)).hi⟩] := by
   rw [e]
   simp [ofSm]
  rw [e2] at ih
  have em : ∀ x y : Int, mx x y = max x y := by intro x y; unfold mx; omega
  have en : ∀ x y : Int, mn x y = min x y := by intro x y; unfold mn; omega
  simp only [em, en]; exact ih
theorem come_f {st : List Sp} {wg : List Wg} (h : RdOk st wg) : Ev (fun k => wool_road_come.f k (ofSp st) (ofWg wg)) (ofSm (comeL st wg)) := by
 have h1 := come_l0 h st.length 0 (by omega)
 unfold wool_road_come.f
 simp only [seen_f h, Option.bind_some, ofSp_len]; exact h1
def trimLo (st after : Sp) : Nat → Sp → Sp
 | 0, s => s
 | n + 1, s => if s.lo > s.hi then s else if hiS st s.lo < after.lo then trimLo st after n ⟨s.lo + 1, s.hi⟩ else s
def trimHi (st after : Sp) : Nat → Sp → Sp
 | 0, s => s
 | n + 1, s => if s.lo > s.hi then s else if loS st s.hi > after.hi then trimHi st after n ⟨s.lo, s.hi - 1⟩ else s
def backS (st s after : Sp) : Sp := if after.lo > after.hi then after else trimHi st after 402 (trimLo st after 402 s)
def backR (s after : Sp) : Sp := if after.lo > after.hi then after else s
theorem back_l1 (st : List Sp) (wg : List S80) (i : Int) (after : Sp) (h0 : 0 ≤ i) (h1 : i < st.length) (hv : stB (rdS st i)) :
  ∀ (n : Nat) (s : Sp), okS s → s.hi - s.lo + 1 ≤ n → Ev (fun k => wool_road_back.l1 k i (ofSp st) wg s.lo s.hi after.lo after.hi) ((backR (trimHi (rdS st i) after n s) after).lo, (backR (trimHi (rdS st i) after n s) after).hi)
 | 0, s, hs, hn => by
  refine Ev.up ?_
  have hN : s.lo > s.hi := by omega
  simp only [wool_road_back.l1, wool_some_isNone.f, Option.bind_some, hN, decide_true, if_true, trimHi, backR]
  by_cases ha : after.lo > after.hi
  ·simp only [ha, decide_true, if_true]
   exact Ev.now _
  ·simp only [ha, decide_false, Bool.false_eq_true, if_false]
   exact Ev.now _
 | n + 1, s, hs, hn => by
  refine Ev.up ?_; simp only [wool_road_back.l1, wool_some_isNone.f, Option.bind_some, trimHi]
  by_cases hN : s.lo > s.hi
  ·simp only [hN, decide_true, if_true, backR]
   by_cases ha : after.lo > after.hi
   ·simp only [ha, decide_true, if_true]
    exact Ev.now _
   ·simp only [ha, decide_false, Bool.false_eq_true, if_false]
    exact Ev.now _
  ·have hs' : 0 ≤ s.lo ∧ s.hi ≤ 400 := by rcases hs with hs | hs; exact absurd hs hN; exact hs
   simp only [hN, decide_false, Bool.false_eq_true, if_false, left_f st wg i s.hi h0 h1 hv (by omega), Option.bind_some]
   by_cases hc : loS (rdS st i) s.hi > after.hi
   ·simp only [if_pos hc]
    rw [wr (by omega)]; refine back_l1 st wg i after h0 h1 hv n ⟨s.lo, s.hi - 1⟩ ?_ (by simp only; omega)
    unfold okS
    simp only; omega
   ·simp only [if_neg hc, backR]
    by_cases ha : after.lo > after.hi
    ·simp only [ha, decide_true, if_true]
     exact Ev.now _
    ·simp only [ha, decide_false, Bool.false_eq_true, if_false]
     exact Ev.now _
theorem back_l0 (st : List Sp) (wg : List S80) (i : Int) (after : Sp) (h0 : 0 ≤ i) (h1 : i < st.length) (hv : stB (rdS st i)) :
  ∀ (n : Nat) (s : Sp), okS s → s.hi - s.lo + 1 ≤ n → Ev (fun k => wool_road_back.l0 k i (ofSp st) wg s.lo s.hi after.lo after.hi) ((backR (trimHi (rdS st i) after 402 (trimLo (rdS st i) after n s)) after).lo, (backR (trimHi (rdS st i) after 402 (trimLo (rdS st i) after n s)) after).hi)
 | 0, s, hs, hn => by
  refine Ev.up ?_
  have hN : s.lo > s.hi := by omega
  simp only [wool_road_back.l0, wool_some_isNone.f, Option.bind_some, hN, decide_true, if_true, trimLo]; refine Ev.up ?_; simp only [wool_road_back.j1]; exact back_l1 st wg i after h0 h1 hv 402 s hs (by omega)
 | n + 1, s, hs, hn => by
  refine Ev.up ?_; simp only [wool_road_back.l0, wool_some_isNone.f, Option.bind_some, trimLo]
  by_cases hN : s.lo > s.hi
  ·simp only [hN, decide_true, if_true]
   refine Ev.up ?_; simp only [wool_road_back.j1]; exact back_l1 st wg i after h0 h1 hv 402 s hs (by omega)
  ·have hs' : 0 ≤ s.lo ∧ s.hi ≤ 400 := by rcases hs with hs | hs; exact absurd hs hN; exact hs
   simp only [hN, decide_false, Bool.false_eq_true, if_false, left_f st wg i s.lo h0 h1 hv (by omega), Option.bind_some]
   by_cases hc : hiS (rdS st i) s.lo < after.lo
   ·simp only [if_pos hc]
    rw [wr (by omega)]; refine back_l0 st wg i after h0 h1 hv n ⟨s.lo + 1, s.hi⟩ ?_ (by simp only; omega)
    unfold okS
    simp only; omega
   ·simp only [if_neg hc]
    refine Ev.up ?_; simp only [wool_road_back.j1]; exact back_l1 st wg i after h0 h1 hv 402 s hs (by omega)
theorem back_f (st : List Sp) (wg : List S80) (i : Int) (s after : Sp) (h0 : 0 ≤ i) (h1 : i < st.length) (hv : stB (rdS st i)) (hs : okS s) :
  Ev (fun k => wool_road_back.f k (ofSp st) wg i s.lo s.hi after.lo after.hi) ((backS (rdS st i) s after).lo, (backS (rdS st i) s after).hi) := by
 have h := back_l0 st wg i after h0 h1 hv 402 s hs (by unfold okS at hs; omega); exact h
theorem left_ (A : Option Addr) (c : Nat) (st : List Sp) (A2 : Option Addr) (c2 : Nat) (wg : List Wg) (i x : Int) (w : World) (hr : Kd.C kSp w A st.length st) (hc : st.length ≤ c) (hr2 : Kd.C kWg w A2 wg.length wg) (hc2 : wg.length ≤ c2)
  (h0 : 0 ≤ i) (h1 : i < st.length) (hv : stB (rdS st i)) (hx : 0 ≤ x ∧ x ≤ 400) :
  Calls Tryd.prog 62 #[.agg #[.slice A st.length c, .slice A2 wg.length c2], .int .i64 i, .int .i64 x] w fun e w' => e = .returned (.agg #[.int .i64 (loS (rdS st i) x), .int .i64 (hiS (rdS st i) x)]) ∧ Up w w' := by
 have H := wool_road_left.calls A c (ofSp st) A2 c2 (ofWg wg) i x _ _ w (ofSp_C hr) (by rw [ofSp_len]; exact hc) (ofWg_C hr2) (by rw [ofWg_len]; exact hc2) (left_f st (ofWg wg) i x h0 h1 hv hx); rw [ofSp_len, ofWg_len] at H; exact H
theorem on_ (A : Option Addr) (c : Nat) (st : List Sp) (A2 : Option Addr) (c2 : Nat) (wg : List Wg) (i : Int) (s : Sp) (w : World) (hr : Kd.C kSp w A st.length st) (hc : st.length ≤ c) (hr2 : Kd.C kWg w A2 wg.length wg) (hc2 : wg.length ≤ c2)
  (h0 : 0 ≤ i) (h1 : i < st.length) (hv : stB (rdS st i)) (hs : okS s) :
  Calls Tryd.prog 101 #[.agg #[.slice A st.length c, .slice A2 wg.length c2], .int .i64 i, .agg #[.int .i64 s.lo, .int .i64 s.hi]] w fun e w' => e = .returned (.agg #[.int .i64 (onS (rdS st i) s).lo, .int .i64 (onS (rdS st i) s).hi]) ∧ Up w w' := by
 have H := wool_road_on.calls A c (ofSp st) A2 c2 (ofWg wg) i s.lo s.hi _ _ w (ofSp_C hr) (by rw [ofSp_len]; exact hc) (ofWg_C hr2) (by rw [ofWg_len]; exact hc2) (on_f st (ofWg wg) i s h0 h1 hv hs); rw [ofSp_len, ofWg_len] at H; exact H
theorem back_ (A : Option Addr) (c : Nat) (st : List Sp) (A2 : Option Addr) (c2 : Nat) (wg : List Wg) (i : Int) (s after : Sp) (w : World) (hr : Kd.C kSp w A st.length st) (hc : st.length ≤ c) (hr2 : Kd.C kWg w A2 wg.length wg) (hc2 : wg.length ≤ c2)
  (h0 : 0 ≤ i) (h1 : i < st.length) (hv : stB (rdS st i)) (hs : okS s) :
  Calls Tryd.prog 103 #[.agg #[.slice A st.length c, .slice A2 wg.length c2], .int .i64 i, .agg #[.int .i64 s.lo, .int .i64 s.hi], .agg #[.int .i64 after.lo, .int .i64 after.hi]] w fun e w' => e = .returned (.agg #[.int .i64 (backS (rdS st i) s after).lo, .int .i64 (backS (rdS st i) s after).hi]) ∧ Up w w' := by
 obtain ⟨k, hk⟩ := (back_f st (ofWg wg) i s after h0 h1 hv hs).rounds; have H := wool_road_back.calls k A c (ofSp st) A2 c2 (ofWg wg) i s.lo s.hi after.lo after.hi _ _ w (ofSp_C hr) (by rw [ofSp_len]; exact hc) (ofWg_C hr2) (by rw [ofWg_len]; exact hc2) hk; rw [ofSp_len, ofWg_len] at H; exact H
theorem come_ (A : Option Addr) (c : Nat) (st : List Sp) (A2 : Option Addr) (c2 : Nat) (wg : List Wg) (w : World) (hG : GL w) (hr : Kd.C kSp w A st.length st) (hc : st.length ≤ c) (hr2 : Kd.C kWg w A2 wg.length wg) (hc2 : wg.length ≤ c2) (hok : RdOk st wg) :
  Calls Tryd.prog 100 #[.agg #[.slice A st.length c, .slice A2 wg.length c2]] w fun e w' => ∃ v, e = .returned v ∧ w'.ownsRow w.heap.size 100 2 v (comeL st wg).length (cellsS (comeL st wg)) ∧ Up w w' := by
 obtain ⟨k, hk⟩ := (come_f hok).rounds; have H := wool_road_come.calls k A c (ofSp st) A2 c2 (ofWg wg) _ w hG (ofSp_C hr) (by rw [ofSp_len]; exact hc) (ofWg_C hr2) (by rw [ofWg_len]; exact hc2) hk; rw [ofSp_len, ofWg_len] at H; refine H.mono ?_; rintro e w' ⟨v, he, h1, h2⟩; have h3 := R_own h1; rw [toSm_ofSm] at h3; exact ⟨v, he, h3, h2⟩
end Go.Proofs.YtemingmeidmjkaaDoor.Q
namespace Go.Proofs.YtemingmeidmjkaaDoor
open Go.RowKit Go.Shelf Go.Proofs.YtemingmeidmjkaaDoorW.PrintWords
set_option linter.unusedVariables false
set_option linter.unusedSimpArgs false
def noDefer (l : List Oper) : Bool := l.all fun o => match o.op with | Op.defer _ => false | _ => true
theorem noDefer_spec {l : List Oper} (h : noDefer l = true) {i : Nat} {o : Oper} (hi : l[i]? = some o) : ∀ c : Call, o.op ≠ Op.defer c := by
 intro c e; have h1 := List.all_eq_true.1 h o (List.mem_of_getElem? hi); rw [e] at h1
 cases h1
end Go.Proofs.YtemingmeidmjkaaDoor
namespace Go.Proofs.YtemingmeidmjkaaDoor
open Go.RowKit Go.Shelf Go.Proofs.YtemingmeidmjkaaDoorW.PrintWords
set_option linter.unusedVariables false
set_option linter.unusedSimpArgs false
structure Kt (lo : Nat → Prop) (W W' : World) : Prop where
 os : W'.os = W.os
 tape : W'.tape = W.tape
 output : W'.output = W.output
 size : W.heap.size ≤ W'.heap.size
 same : ∀ (k : Nat) (o : Obj), W.heap[k]? = some o → (∀ C T z, o = Obj.cells C T z → ¬ lo T) → W'.heap[k]? = some o
theorem Kt.refl (lo : Nat → Prop) (W : World) : Kt lo W W := ⟨rfl, rfl, rfl, Nat.le_refl _, fun _ _ h _ => h⟩
theorem Kt.trans {lo : Nat → Prop} {A B C : World} (h : Kt lo A B) (k : Kt lo B C) : Kt lo A C := ⟨k.os.trans h.os, k.tape.trans h.tape, k.output.trans h.output, Nat.le_trans h.size k.size, fun i o hi hl => k.same i o (h.same i o hi hl) hl⟩
theorem Kt.up {lo : Nat → Prop} {A B : World} (h : Up A B) : Kt lo A B := ⟨h.os, h.tape, h.output, h.size, fun k o hk _ => (h.block k (Array.getElem?_eq_some_iff.1 hk).1).trans hk⟩
def Stays {β : Type} (ow : Nat → Prop) (B : Nat) (J : β → World → Prop) : Prop :=
 ∀ s W W' row, J s W → W.grownBy W' row → (∀ r, row = some r → B ≤ r ∧ ∃ o : Obj, W.heap[r]? = some o ∧ (o.isCells = false ∨ ∃ C T z, o = Obj.cells C T z ∧ ow T)) → J s W'
theorem Stays.putObj {β : Type} {ow : Nat → Prop} {B : Nat} {J : β → World → Prop} (h : Stays ow B J) {s : β} {W : World} {l : Nat} {o : Obj} (o' : Obj) (hs : J s W) (hB : B ≤ l) (hl : W.heap[l]? = some o) (ho : o.isCells = false) : J s (W.putObj l o') :=
 h s W _ (some l) hs (grownBy_putObj' W l o') (fun r e => by cases e; exact ⟨hB, o, hl, .inl ho⟩)
theorem Stays.alloc {β : Type} {ow : Nat → Prop} {B : Nat} {J : β → World → Prop} (h : Stays ow B J) {s : β} {W : World} (o : Obj) (hs : J s W) : J s (W.alloc o) :=
 h s W _ none hs (World.grownBy_alloc W o none) (fun r e => by cases e)
theorem Stays.up {β : Type} {ow : Nat → Prop} {B : Nat} {J : β → World → Prop} (h : Stays ow B J) {s : β} {W W' : World} (hs : J s W) (hu : Up W W') : J s W' :=
 h s W _ none hs (grown_of_below hu none) (fun r e => by cases e)
theorem Stays.set {β : Type} {ow : Nat → Prop} {B : Nat} {J : β → World → Prop} (h : Stays ow B J) {s : β} {W : World} {b : Nat} {C : Array Value} {T : TypeId} (hs : J s W) (hB : B ≤ b) (hb : Bx W b C T) (hT : ow T) (o : Nat) (u : Value) : J s (W.setCell ⟨b, o, none⟩ u) := by
 have hb0 := Below.setCell (B := 0) (Below.refl 0 W) (p := ⟨b, o, none⟩) (Nat.zero_le _) u; refine h s W _ (some b) hs ⟨hb0.os, hb0.tape, hb0.output, hb0.size, fun k _ hk => Below.heap_setCell W ⟨b, o, none⟩ u k (fun e => hk (by rw [e]))⟩ (fun r e => ?_)
 cases e
 exact ⟨hB, _, hb, .inr ⟨_, _, _, rfl, hT⟩⟩
def givesPost {α : Type} (lo : Nat → Prop) (I : List α → World → Prop) (xs : List α) (W : World) : Exit → Act → World → Prop
 | .normal, _, W' => Kt lo W W' ∧ I xs W'
 | _, _, _ => False
def Gives {α : Type} (F : Fence) (n : Nat) (P : Program) (g : Nat) (pb lb : Array Value) (G : World → Value → α → Prop) (lo ow : Nat → Prop) (L : List α) (w : World) : Prop :=
 ∀ (lp : Nat) (J : List α → World → Prop) (W : World), Up w W → Stays ow W.heap.size J →
  (∀ pre x post v W1, pre ++ x :: post = L → J pre W1 → Kt lo w W1 → G W1 v x → YieldAt F (n - 1) P lp #[v] W1 fun e W' => e = .returned (.bool true) ∧ J (pre ++ [x]) W' ∧ Kt lo W1 W') →
  J [] W →
  CallsIn F n P g (pb ++ #[.func (.yield lp) #[] #[]] ++ lb) W fun e W' => (∃ v, e = .returned v) ∧ J L W'
theorem range_gives {α : Type} {F : Fence} {n : Nat} {P : Program} {g : Operand} {ps : Array Tmp} {assign body : Code} {Q : Exit → Act → World → Prop} {a : Act} {w : World}
  (hro : F.round = none) (h1 : 1 ≤ n) {gf : Nat} {pb lb : Array Value} (hg : a.eval g = .func (.func gf) pb lb) (hFg : F.fn gf) (eg : ∀ args w, (callFunc gf args).run P w = .ok (.enter gf args) w)
  {G : World → Value → α → Prop} {lo ow : Nat → Prop} {L : List α} {w0 : World} (hseq : Gives F (n - 1) P gf pb lb G lo ow L w0) (hb0 : Up w0 w) (hps : ps.size = 1)
  (hG : ∀ (W : World) (l : Nat) (o o' : Obj) v x, W.heap[l]? = some o → o.isCells = false → G W v x → G (W.putObj l o') v x)
  (I : List α → World → Prop) (hI : Stays ow w.heap.size I) (h0 : I [] w) (Ax : Value → Act → Prop)
  (hassign : ∀ (l : Nat) (v : Value) (W : World) (K : Act → World → Prop), (∀ a', Ax v a' → K a' W) →
   assign.wpIn (F.inRound l) (n - 1 - 1) P (Exit.then K (fun _ _ _ => False)) { tmps := (ps.zip #[v]).foldl (fun t (p, v) => t.setIfInBounds p v) a.tmps, defers := [] } W)
  (hbody : ∀ (l : Nat) (pre : List α) (x : α) (post : List α) (v : Value) (a' : Act) (W : World), w.heap.size ≤ l → (∃ r, W.heap[l]? = some (.loop r)) → pre ++ x :: post = L → I pre W → G W v x → Ax v a' → body.wpIn (F.inRound l) (n - 1 - 1) P (givesPost lo I (pre ++ [x]) W) a' W)
  (hdone : ∀ (D : Nat) (W : World), w.heap.size ≤ D → I L W → W.heap[D]? = some (.deferred (some [])) → Q .normal { a with defers := { target := .collected D, args := #[] } :: a.defers } W) :
  (Code.rangeFunc g ps assign body).wpIn F n P Q a w := by
 refine wpIn_rangeFunc fun fn hfn => ?_
 rw [hro]
 obtain ⟨rec, hrec⟩ : ∃ rec : LoopState → Loop, rec = fun st => { state := st, pending := none, fn, tmps := a.tmps, params := ps, assign, body, defers := w.heap.size } := ⟨_, rfl⟩
 obtain ⟨W1, hW1⟩ : ∃ W1, W1 = (w.alloc (.deferred (some []))).alloc (.loop (rec .ready)) := ⟨_, rfl⟩
 have hL1 : W1.heap[w.heap.size + 1]? = some (.loop (rec .ready)) := by
  have h := World.alloc_heap_new (w.alloc (.deferred (some []))) (.loop (rec .ready)); rw [World.size_alloc] at h; rw [hW1]; exact h
 have hu1 : Up w W1 := by rw [hW1]; exact ((Up.refl w).alloc _).alloc _
 have hD1 : W1.heap[w.heap.size]? = some (.deferred (some [])) := by
  rw [hW1]; exact (((Up.refl (w.alloc (.deferred (some [])))).alloc _).block _ (by simp)).trans (World.alloc_heap_new w _)
 have hs1 : W1.heap.size = w.heap.size + 2 := by rw [hW1]; simp
 have hI1 : I [] W1 := by rw [hW1]; exact hI.alloc _ (hI.alloc _ h0)
 refine ⟨w.heap.size + 1, [{ target := .collected w.heap.size, args := #[] }], W1, { target := .fn (.func gf) lb, args := pb ++ #[.func (.yield (w.heap.size + 1)) #[] #[]] }, W1, gf,
  pb ++ #[.func (.yield (w.heap.size + 1)) #[] #[]] ++ lb, W1, ?_, ?_, ?_, ?_, fun _ => h1, ?_⟩
 ·rw [hW1, hrec]; exact run_enterLoop_outer _ _ _ _ _
 ·simp only [resolve, hg]
  simp [go_sem]
 ·intro f' hf'
  simp [Target.leads] at hf'
  subst hf'; exact hFg
 ·simp [invoke, go_sem, eg]
 have hJ : Stays ow W1.heap.size (fun (pre : List α) (W : World) => I pre W ∧ W.heap[w.heap.size + 1]? = some (.loop (rec .ready)) ∧ W.heap[w.heap.size]? = some (.deferred (some []))) := by
  rintro s A B row ⟨k1, k2, k3⟩ hg' hr
  have hn : ∀ k, k < W1.heap.size → some k ≠ row := fun k hk e => by have := (hr k e.symm).1; omega
  exact ⟨hI s A B row k1 hg' (fun r e => ⟨by have := (hr r e).1; omega, (hr r e).2⟩), (hg'.block _ (Array.getElem?_eq_some_iff.1 k2).1 (hn _ (by omega))).trans k2, (hg'.block _ (Array.getElem?_eq_some_iff.1 k3).1 (hn _ (by omega))).trans k3⟩
 refine (hseq (w.heap.size + 1) _ W1 (hb0.then hu1) hJ ?_ ⟨hI1, hL1, hD1⟩).mono ?_
 ·rintro pre x post v W hL ⟨k1, k2, k3⟩ hup hGv
  have hy := run_yield (P := P) (args := #[v]) k2 (by rw [hrec]; simp [hps]); rw [hrec] at hy; refine ⟨fn, _, assign, body, hy, roundIn_of_wpIn hfn (hassign _ v W _ fun a' hax => ?_)⟩; refine ⟨_, run_beginRound k2 (by rw [hrec]), ?_⟩; have hlt := (Array.getElem?_eq_some_iff.1 k2).1; have hb2 : (W.putObj (w.heap.size + 1) (.loop { rec .ready with state := .busy })).heap[w.heap.size + 1]? = some (.loop { rec .ready with state := .busy }) := World.putObj_heap_same hlt; refine wpIn_mono (hbody _ pre x post v a' _ (by omega) ⟨_, hb2⟩ hL (hI.putObj _ k1 (by omega) k2 rfl) (hG _ _ _ _ _ _ k2 rfl hGv) hax) ?_; rintro e a3 W3 hp
  cases e with
  | normal =>
   obtain ⟨q1, q2⟩ := hp; have hl3 := q1.same _ _ hb2 (fun C T z e => by cases e); have hr3 := run_endRound (P := P) none hl3; have hlt3 := (Array.getElem?_eq_some_iff.1 hl3).1
   have hback : ({ ({ rec .ready with state := .busy } : Loop) with state := .ready, pending := none } : Loop) = rec .ready := by rw [hrec]
   refine ⟨_, _, hr3, rfl, ⟨hI.putObj _ q2 (by omega) hl3 rfl, ?_, ?_⟩, ⟨?_, ?_, ?_, ?_, ?_⟩⟩
   ·refine (World.putObj_heap_same hlt3).trans ?_
    simp only [Option.isNone_none, if_true]; rw [hback]
   ·refine (World.putObj_heap_other (by omega)).trans (q1.same _ _ ((World.putObj_heap_other (by omega)).trans k3) (fun C T z e => by cases e))
   ·exact q1.os
   ·exact q1.tape
   ·exact q1.output
   ·have := q1.size; simpa using this
   ·intro k o hk hlo
    by_cases hkl : k = w.heap.size + 1
    ·subst hkl
     have he : o = .loop (rec .ready) := by rw [k2] at hk; exact (Option.some.inj hk).symm
     subst he; refine (World.putObj_heap_same hlt3).trans ?_; simp only [Option.isNone_none, if_true]; rw [hback]
    ·exact (World.putObj_heap_other hkl).trans (q1.same k o ((World.putObj_heap_other hkl).trans hk) hlo)
  | _ => exact hp.elim
 ·rintro e W2 ⟨⟨v, rfl⟩, k1, k2, k3⟩
  have he := run_endLoop (P := P) k2 (by rw [hrec]; simp); rw [hrec] at he; exact ⟨none, _, he, hdone _ _ (Nat.le_refl _) (hI.putObj _ k1 (by omega) k2 rfl) ((World.putObj_heap_other (by omega)).trans k3)⟩
theorem roundIn_wide {P : Program} {l : Nat} {f : FuncId} {tmps : Array Value} {assign body : Code} {w : World} {R : Ending → World → Prop} {n : Nat} (h : RoundIn Fence.wide n P l f tmps assign body w R) (m : Nat) : RoundIn Fence.wide m P l f tmps assign body w R :=
 ⟨h.1, fun c cs _ => h.2 c cs (room_wide _)⟩
theorem yieldAt_wide {P : Program} {l n : Nat} {args : Array Value} {W : World} {R : Ending → World → Prop} (h : YieldAt Fence.wide n P l args W R) (m : Nat) : YieldAt Fence.wide m P l args W R := by
 obtain ⟨fn, tmps, assign, body, h1, h2⟩ := h; exact ⟨fn, tmps, assign, body, h1, roundIn_wide h2 m⟩
theorem Gives.any {α : Type} {n : Nat} {P : Program} {g : Nat} {pb lb : Array Value} {G : World → Value → α → Prop} {lo ow : Nat → Prop} {L : List α} {w : World} (h : Gives Fence.wide n P g pb lb G lo ow L w) (m : Nat) : Gives Fence.wide m P g pb lb G lo ow L w :=
 fun lp J W hu hJ hY h0 => callsIn_wide.2 (callsIn_wide.1 (h lp J W hu hJ (fun pre x post v W1 e k1 k2 k3 => yieldAt_wide (hY pre x post v W1 e k1 k2 k3) _) h0))
theorem range_gives_fr {α : Type} {F : Fence} {n : Nat} {P : Program} {g : Operand} {ps : Array Tmp} {assign body : Code} {Q : Exit → Act → World → Prop} {a : Act} {w : World}
  (hro : F.round = none) (h1 : 1 ≤ n) {gf : Nat} {pb lb : Array Value} (hg : a.eval g = .func (.func gf) pb lb) (hFg : F.fn gf) (eg : ∀ args w, (callFunc gf args).run P w = .ok (.enter gf args) w)
  {G : World → Value → α → Prop} {lo ow : Nat → Prop} {L : List α} {w0 : World} (hseq : Gives F (n - 1) P gf pb lb G lo ow L w0) (hb0 : Up w0 w) (hps : ps.size = 1)
  (hG : ∀ (W : World) (l : Nat) (o o' : Obj) v x, W.heap[l]? = some o → o.isCells = false → G W v x → G (W.putObj l o') v x)
  (I : List α → World → Prop) (hI : Stays ow w.heap.size I) (h0 : I [] w) {fr : Value → Act}
  (hassign : ∀ (l : Nat) (v : Value) (W : World) (K : Act → World → Prop), K (fr v) W →
   assign.wpIn (F.inRound l) (n - 1 - 1) P (Exit.then K (fun _ _ _ => False)) { tmps := (ps.zip #[v]).foldl (fun t (p, v) => t.setIfInBounds p v) a.tmps, defers := [] } W)
  (hbody : ∀ (l : Nat) (pre : List α) (x : α) (post : List α) (v : Value) (W : World), w.heap.size ≤ l → (∃ r, W.heap[l]? = some (.loop r)) → pre ++ x :: post = L → I pre W → G W v x → body.wpIn (F.inRound l) (n - 1 - 1) P (givesPost lo I (pre ++ [x]) W) (fr v) W)
  (hdone : ∀ (D : Nat) (W : World), w.heap.size ≤ D → I L W → W.heap[D]? = some (.deferred (some [])) → Q .normal { a with defers := { target := .collected D, args := #[] } :: a.defers } W) :
  (Code.rangeFunc g ps assign body).wpIn F n P Q a w :=
 range_gives hro h1 hg hFg eg hseq hb0 hps hG I hI h0 (fun v a' => a' = fr v) (fun l v W K hK => hassign l v W K (hK _ rfl)) (fun l pre x post v a' W h1 h2 h3 h4 h5 h6 => by subst h6; exact hbody l pre x post v W h1 h2 h3 h4 h5) hdone
end Go.Proofs.YtemingmeidmjkaaDoor
namespace Go.Proofs.YtemingmeidmjkaaDoor.Q
open Go.RowKit Go.Shelf Go.Proofs.YtemingmeidmjkaaDoorW.PrintWords
set_option linter.unusedVariables false
set_option linter.unusedSimpArgs false
attribute [local go_sem] Oper.semAt_some
def downL : Nat → List Nat
 | 0 => [0]
 | n + 1 => (n + 1) :: downL n
theorem downL_at : ∀ (n : Nat) (pre post : List Nat) (x : Nat), pre ++ x :: post = downL n → x + pre.length = n
 | 0, pre, post, x, h => by
  match pre, h with
  | [], h => simp [downL] at h; simp [h.1]
  | y :: pre, h => simp [downL] at h
 | n + 1, pre, post, x, h => by
  match pre, h with
  | [], h => simp [downL] at h; simp [h.1]
  | y :: pre, h =>
   simp only [downL, List.cons_append, List.cons.injEq] at h; have := downL_at n pre post x h.2; simp only [List.length_cons]; omega
def isN (W : World) (v : Value) (x : Nat) : Prop := v = .int .i64 (x : Int)
def ptLo (T : Nat) : Prop := T = 100
def noOw (T : Nat) : Prop := False
set_option maxRecDepth 100000 in
theorem points_gives (A : Option Addr) (n c : Nat) (A2 : Option Addr) (n2 c2 : Nat) (w : World) (hn : n ≤ 1000) :
  Gives Fence.wide 5 Tryd.prog 102 #[.agg #[.slice A n c, .slice A2 n2 c2]] #[] isN ptLo noOw (downL n) w := by
 intro lp J W hW hJ hY hj; have HJ := Aside0.mk hJ; have HY := Aside0.mk hY; clear hJ hY; refine callsIn_of_wp Tryd.func102 rfl trivial ?_ rfl; simp only [Tryd.ntmps102, List.size_toArray, List.length_cons, List.length_nil, Nat.reduceAdd, Nat.reduceSub, Array.replicate_succ, Array.replicate_zero, List.push_toArray, List.append_toArray, List.nil_append, List.cons_append]; have hj1 : J [] (W.alloc (.cells #[.slice A n c, .slice A2 n2 c2] 95)) := HJ.out.alloc _ hj; have hK1 : Kt ptLo w (W.alloc (.cells #[.slice A n c, .slice A2 n2 c2] 95)) := Kt.up (hW.alloc _); have HJ1 := Aside0.mk hj1; have HK1 := Aside0.mk hK1; clear hj1 hK1 hj
 gi_wp2_with fail
 gi_loopw [4] (fun v4 wr => ∃ (q : Int) (pre : List Nat), -1 ≤ q ∧ q ≤ n ∧ v4 = .int .i64 q ∧ Aside0 ((pre.length : Int) + q = n ∧ (0 ≤ q → pre ++ downL q.toNat = downL n) ∧ (q = -1 → pre = downL n)) ∧ Aside0 (J pre wr ∧ Kt ptLo w wr)) (fun v4 _ => (intOf v4 + 1).toNat)
 case atStart => exact ⟨n, [], by omega, Int.le_refl _, rfl, ⟨by simp, by simp, by omega⟩, ⟨HJ1.out, HK1.out⟩⟩
 case round =>
  obtain ⟨q, pre, hq0, hq1, rfl, hP, hJK⟩ := hrel
  by_cases hlt : 0 ≤ q
  ·obtain ⟨p, rfl⟩ : ∃ p : Nat, q = (p : Int) := ⟨q.toNat, by omega⟩
   have hpre := hP.out.2.1 hlt; rw [Int.toNat_natCast] at hpre
   obtain ⟨post, hpost⟩ : ∃ post, downL p = p :: post ∧ (1 ≤ p → post = downL (p - 1)) ∧ (p = 0 → post = []) := by
    match p with
    | 0 => exact ⟨[], rfl, by omega, fun _ => rfl⟩
    | p + 1 => exact ⟨downL p, rfl, fun _ => rfl, by omega⟩
   rw [hpost.1] at hpre; obtain ⟨fn, tmps, assign, body, hy, hR⟩ := HY.out pre p post (.int .i64 (p : Int)) wr hpre hJK.out.1 hJK.out.2 rfl; have hge : (0 : Int) ≤ (p : Int) := hlt; have HP := Aside0.mk hpre; have HQ := Aside0.mk hpost; have hlen := hP.out.1; clear hpre hpost
   gi_wp2_with fail
   refine hR.mono ?_; rintro e W3 ⟨rfl, hJ3, hK3⟩; have HJ3 := Aside0.mk hJ3; have HK3 := Aside0.mk (hJK.out.2.trans hK3); clear hJ3 hK3
   gi_wp2_with fail
   go_roundw
   case rel =>
    refine ⟨(p : Int) - 1, pre ++ [p], by omega, by omega, rfl, ⟨by simp; omega, fun h => ?_, fun h => ?_⟩, ⟨HJ3.out, HK3.out⟩⟩
    ·rw [show ((p : Int) - 1).toNat = p - 1 by omega, ← HQ.out.2.1 (by omega), List.append_assoc]
     exact HP.out
    ·have h0 := HQ.out.2.2 (by omega)
     have h1 := HP.out; rw [h0] at h1; exact h1
   case measure => simp [intOf]
  ·obtain rfl : q = -1 := by omega
   have hpre := hP.out.2.2 rfl; subst hpre
   gi_wp2_with fail
   go_end0
   exact ⟨⟨_, rfl⟩, hJK.out.1⟩
end Go.Proofs.YtemingmeidmjkaaDoor.Q
namespace Go.Proofs.YtemingmeidmjkaaDoor
open Go.RowKit Go.Shelf Go.Proofs.YtemingmeidmjkaaDoorW.PrintWords Go.Proofs.YtemingmeidmjkaaDoorW.PrintLast
set_option linter.unusedVariables false
set_option linter.unusedSimpArgs false
theorem rowsIn_any {n : Nat} {P : Program} {row : String} {args : Array Value} {w : World} {R : Value → World → Prop} (h : Rows P row args w R) : RowsIn Fence.wide n P row args w R :=
 fun c cs _ => let ⟨v, w', r, s⟩ := h c cs; ⟨v, w', r, stepsIn_wide.2 s⟩
theorem opIn_of_op {P : Program} {n l0 : Nat} {o : Oper} (hnd : ∀ c : Call, o.op ≠ Op.defer c) {a : Act} {w : World} {K : Act → World → Prop} {Q : Exit → Act → World → Prop} (h : o.wp P a w K Q) : o.wpIn (Fence.wide.inRound l0) n P a w K Q := by
 unfold Oper.wp at h
 unfold Oper.wpIn
 refine ⟨fun f _ => trivial, ?_⟩; rw [Oper.semAt_eq _ _ _ hnd]
 generalize (execOp a.eval o).run P w = r at *
 cases r with
 | ok nx w' =>
  cases nx <;> simp only [Oper.upon] at h <;> simp only [Oper.uponIn]
  case enter f args => exact ⟨fun hd => by simp [Fence.wide, Fence.inRound] at hd, CallsIn.inRound _ (callsIn_wide.2 h)⟩
  case row r args => exact ⟨fun hd => by simp [Fence.wide, Fence.inRound] at hd, rowsIn_any h⟩
  all_goals exact h
 | halt x w' => cases x <;> simp only [Oper.upon] at h <;> simp only [Oper.uponIn] <;> exact h
theorem anyIn_of_any {P : Program} {md : Region.Mode} {ops : Array Oper} {m l0 : Nat} {Q : Exit → Act → World → Prop} (hnd : ∀ (i : Nat) (o : Oper), ops[i]? = some o → ∀ c : Call, o.op ≠ Op.defer c) (hq : ¬ LetsOut Q) :
  ∀ (f : Nat) (listed : Array Bool) (a : Act) (w : World), wpAny P md ops Q f listed a w → wpAnyIn (Fence.wide.inRound l0) m P md ops Q f listed a w
 | 0, listed, a, w, h => h
 | f + 1, listed, a, w, h => by
  refine ⟨h.1, fun i hi => ?_⟩; have h2 := h.2 i hi; refine wpOpIn_mono (fun a' w' h' => anyIn_of_any hnd hq f _ a' w' h') ?_
  unfold wpOp at h2
  unfold wpOpIn
  split
  ·rename_i ho; simpa only [ho] using h2
  ·rename_i o ho
   simp only [ho] at h2
   split
   ·rename_i hw
    simp only [hw, if_true] at h2
    rcases h2 with h2 | h2
    ·exact opIn_of_op (hnd i o ho) h2
    ·exact absurd h2.2 hq
   ·rename_i hw
    simp only [hw] at h2; exact ⟨fun f _ => trivial, h2⟩
theorem round_start {P : Program} {S : World → Prop} {l0 m : Nat} {ds : List Nat} {id n : Nat} {Q : Exit → Act → World → Prop} {a : Act} {w : World} {l : List Oper} (lb : Array Bool) (hm : P.follows .mixedOrders = true) (hnd : noDefer l = true) (hq : ¬ LetsOut Q) (hn : l.toArray.size = n) (hl : Array.replicate n false = lb) (hS : S w.drew)
  (h : S w.drew → wpAnyLast P .any l.toArray Q S ds n lb a w.drew) : (Code.region id l.toArray true).wpIn (Fence.wide.inRound l0) m P Q a w := by
 subst hn; subst hl; refine wpIn_region_any hm ?_; refine anyIn_of_any (fun i o hi => noDefer_spec hnd (by simpa using hi)) hq _ _ _ _ ?_; exact wpAny_of_last _ _ _ _ (h hS)
end Go.Proofs.YtemingmeidmjkaaDoor
namespace Go.Proofs.YtemingmeidmjkaaDoor.Q
open Go.RowKit Go.Shelf Go.Proofs.YtemingmeidmjkaaDoorW.PrintWords Go.Proofs.YtemingmeidmjkaaDoorW.PrintLast
set_option linter.unusedVariables false
set_option linter.unusedSimpArgs false
attribute [local go_sem] Oper.semAt_some
theorem info_some : (Tryd.prog.info? 100).map (fun i => (i.zero, i.size, i.bytes)) = some (some (.agg #[.int .i64 0, .int .i64 0]), 2, 16) := by kernel_rfl
set_option maxRecDepth 100000 in
theorem cloneSm_ (v : Value) (base : Nat) (l : List Sp) (w : World) (h : w.ownsRow base 100 2 v l.length (cellsS l)) (hl : l.length ≤ 100000) :
  Calls Tryd.prog 111 #[v] w fun e w' => ∃ v', e = .returned v' ∧ w'.ownsRow w.heap.size 100 2 v' l.length (cellsS l) ∧ Up w w' := by
 have q35 : ∀ (w : World) (a : Option Addr) (n c n' c' : Nat), (binOp .eql 96 (.slice a n c) (.slice none n' c')).run Tryd.prog w = .ok (.bool a.isNone) w := fun w a n c n' c' => Lib.run_eql_slice_nil w _ _ a n c n' c' Tryd.underlying96
 rcases h.2 with ⟨rfl, h0⟩ | ⟨g, cap, cur, rfl, hb, hg, hcap, hm, hsz, htk⟩
 ·have h1 : l = [] := List.eq_nil_of_length_eq_zero h0
  subst h1; clear h; go_enter Tryd.func111, Tryd.ntmps111
  go_wp2_with fail
  go_ret
  exact ⟨.slice none 0 0, by simp, ⟨rfl, .inl ⟨rfl, rfl⟩⟩, upA⟩
 ·have hcell : ∀ j u, (cellsS l)[j]? = some u → w.cell? ((⟨g, 0, none⟩ : Addr).add j) = some u := by
   intro j u hu; have hj := (List.getElem?_eq_some_iff.1 hu).1; rw [cellsS_length] at hj; rw [add_plain, ← htk, List.getElem?_take, if_pos hj, Array.getElem?_toList] at *
   simp [World.cell?, hg, hu]
  have HC : Aside0 (0 < l.length → ∃ ad', some (⟨g, 0, none⟩ : Addr) = some ad' ∧ ∀ j u, (cellsS l)[j]? = some u → (w.alloc (.cells #[] 100)).cell? (ad'.add j) = some u) := ⟨fun _ => ⟨_, rfl, fun j u hu => (Up.alloc (Up.refl w) _).cell (hcell j u hu)⟩⟩; have hlc : l.length ≤ cap := hcap; clear hcell hg hsz htk h hm hb hcap; go_enter Tryd.func111, Tryd.ntmps111
  go_wp2_with (at_builtin; refine append_all w.heap.size rfl _ _ 96 100 (.agg #[.int .i64 0, .int .i64 0]) 2 16 rfl Tryd.underlying96 info_some rfl (by decide) (by decide) _ 0 [] (cellsS l) (some ⟨g, 0, none⟩) l.length cap rfl rfl (World.ownsRow_made w #[] 0 (Nat.le_refl _) (Nat.zero_le _) rfl) (by rw [cellsS_length]) HC.out ?qc3 ?qc4 ?qc5 ?_)
  case qc3 => exact cellsS_one l
  case qc4 => simp
  case qc5 => omega
  intro v1 w1 hown hgrow; have HU : Aside0 (Up w w1) := ⟨((Below.refl _ w).alloc (Nat.le_refl _) _).grown hgrow (by simp) (by intro k hk; simp [Value.ownBlock] at hk; omega)⟩; have HO := Aside0.mk hown; clear hown hgrow; go_wp2
  go_ret
  exact ⟨v1, by simp, by have h9 := HO.out; simpa using h9, HU.out⟩
def goL : List Sp → List Sp → List Sp
 | t :: ts, s :: l => backS t s ((goL ts l).headD z_Sp) :: goL ts l
 | _, l => l
theorem goL_len : ∀ (ts l : List Sp), (goL ts l).length = l.length
 | [], l => by cases l <;> simp [goL]
 | t :: ts, [] => by simp [goL]
 | t :: ts, s :: l => by simp [goL, goL_len ts l]
def gst (st L : List Sp) (k : Nat) : List Sp := L.take (L.length - k) ++ goL (st.drop (L.length - k)) (L.drop (L.length - k))
theorem gst_len (st L : List Sp) (k : Nat) : (gst st L k).length = L.length := by
 simp [gst, goL_len] <;> omega
theorem gst_zero (st L : List Sp) : gst st L 0 = L := by
 unfold gst
 rw [Nat.sub_zero, List.take_length, List.drop_length]
 cases (st.drop L.length) <;> simp [goL]
theorem gst_end (st L : List Sp) : gst st L L.length = goL st L := by
 unfold gst
 simp
theorem gst_one (st L : List Sp) (h : L.length = st.length + 1) : gst st L 1 = L := by
 unfold gst
 rw [h, Nat.add_sub_cancel, List.drop_length]
 have e : goL [] (L.drop st.length) = L.drop st.length := by cases (L.drop st.length) <;> rfl
 rw [e, List.take_append_drop]
theorem gst_succ (st L : List Sp) (h : L.length = st.length + 1) (p : Nat) (hp : p < st.length) :
  gst st L (st.length - p + 1) = (gst st L (st.length - p)).set p (backS (rdS st p) (rdS (gst st L (st.length - p)) p) (rdS (gst st L (st.length - p)) ((p + 1 : Nat) : Int))) ∧ rdS (gst st L (st.length - p)) p = rdS L p := by
 have e1 : L.length - (st.length - p + 1) = p := by omega
 have e2 : L.length - (st.length - p) = p + 1 := by omega
 have hpL : p < L.length := by omega
 have hg : gst st L (st.length - p) = L.take (p + 1) ++ goL (st.drop (p + 1)) (L.drop (p + 1)) := by unfold gst; rw [e2]
 have hlt : (L.take (p + 1)).length = p + 1 := by simp; omega
 have r1 : rdS (gst st L (st.length - p)) p = L[p] := by
  have : p < (gst st L (st.length - p)).length := by rw [gst_len]; exact hpL
  rw [rdS_nat _ _ this]
  have h2 : (gst st L (st.length - p))[p]? = some L[p] := by rw [hg, List.getElem?_append_left (by omega)]; simp [hpL]
  exact Option.some.inj ((List.getElem?_eq_getElem this).symm.trans h2)
 have r2 : rdS (gst st L (st.length - p)) ((p + 1 : Nat) : Int) = (goL (st.drop (p + 1)) (L.drop (p + 1))).headD z_Sp := by
  have h1 : (gst st L (st.length - p))[p + 1]? = (goL (st.drop (p + 1)) (L.drop (p + 1)))[0]? := by
   rw [hg, List.getElem?_append_right (by omega), hlt, Nat.sub_self]
  unfold rdS
  rw [Int.toNat_natCast, List.getD_eq_getElem?_getD, h1]
  cases goL (st.drop (p + 1)) (L.drop (p + 1)) <;> rfl
 have r3 : rdS L (p : Nat) = L[p] := rdS_nat L p hpL; have r4 : rdS st (p : Nat) = st[p] := rdS_nat st p hp; refine ⟨?_, by rw [r1, r3]⟩; rw [r1, r2, r4]
 unfold gst
 rw [e1, e2, List.drop_eq_getElem_cons hp, List.drop_eq_getElem_cons hpL, goL, List.take_succ_eq_append_getElem hpL, List.append_assoc, List.set_append_right _ _ (by simp; omega)]
 have e3 : p - (L.take p).length = 0 := by simp; omega
 rw [e3]; rfl
theorem kt_set {lo : Nat → Prop} {A B : World} (h : Kt lo A B) {g : Nat} (hb : ∃ cur T z, B.heap[g]? = some (.cells cur T z) ∧ lo T) (o : Nat) (v : Value) : Kt lo A (B.setCell ⟨g, o, none⟩ v) ∧ ∃ cur T z, (B.setCell ⟨g, o, none⟩ v).heap[g]? = some (.cells cur T z) ∧ lo T := by
 obtain ⟨cur, T, z, hb, hT⟩ := hb; refine ⟨h.trans ⟨rfl, rfl, rfl, by simp, fun k ob hk hl => ?_⟩, ?_⟩
 ·by_cases e : k = g
  ·subst e
   rw [hb] at hk
   cases hk
   exact absurd hT (hl _ _ _ rfl)
  ·exact (Below.heap_setCell B ⟨g, o, none⟩ v k e).trans hk
 ·refine ⟨cur.setIfInBounds o v, T, z, ?_, hT⟩
  unfold World.setCell
  dsimp only
  rw [Array.getElem?_modify, if_pos rfl, hb]; rfl
theorem spc_typed {w : World} {g T cap : Nat} {xs : List Sp} (h : Spc w g T cap xs) {lo : Nat → Prop} (hT : lo T) : ∃ cur T z, w.heap[g]? = some (.cells cur T z) ∧ lo T := by
 obtain ⟨_, cur, h1, _⟩ := h; exact ⟨cur, T, (0, 0), h1, hT⟩
structure GoI (w : World) (B0 B1 g cap n : Nat) (rc : Array Value) (st L : List Sp) (pre : List Nat) (W : World) : Prop where
 up : Up w W
 b0 : Bx W B0 rc 95
 b1 : Bx W B1 #[.slice (some ⟨g, 0, none⟩) n cap] 96
 row : Spc W g 100 cap (gst st L pre.length)
theorem GoI.stays {w : World} {B0 B1 g cap n B : Nat} {rc : Array Value} {st L : List Sp} (hB : w.heap.size ≤ B) : Stays noOw B (GoI w B0 B1 g cap n rc st L) := by
 intro s W W' row h hg hr
 have hr' : ∀ r, row = some r → ∃ o : Obj, W.heap[r]? = some o ∧ o.isCells = false := by
  intro r e; obtain ⟨_, o, h1, h2⟩ := hr r e; refine ⟨o, h1, ?_⟩
  rcases h2 with h2 | ⟨_, _, _, _, h3⟩
  ·exact h2
  ·exact h3.elim
 refine ⟨?_, h.b0.own hg hr', h.b1.own hg hr', h.row.own hg hr'⟩; exact ⟨hg.os.trans h.up.os, hg.tape.trans h.up.tape, hg.output.trans h.up.output, Nat.le_trans h.up.size hg.size, fun k hk => (hg.block k (Nat.lt_of_lt_of_le hk h.up.size) (fun e => by have := (hr k e.symm).1; omega)).trans (h.up.block k hk)⟩
set_option maxRecDepth 100000 in
set_option maxHeartbeats 600000 in
theorem goOn_ (A : Option Addr) (c : Nat) (st : List Sp) (A2 : Option Addr) (c2 : Nat) (wg : List Wg) (v : Value) (base : Nat) (L : List Sp) (w : World) (hr : Kd.C kSp w A st.length st) (hc : st.length ≤ c) (hr2 : Kd.C kWg w A2 wg.length wg) (hc2 : wg.length ≤ c2) (hok : RdOk st wg)
  (hL : w.ownsRow base 100 2 v L.length (cellsS L)) (hlen : L.length = st.length + 1) (hokL : ∀ s ∈ L, okS s) :
  Calls Tryd.prog 105 #[.agg #[.slice A st.length c, .slice A2 wg.length c2], v] w fun e w' => ∃ v', e = .returned v' ∧ w'.ownsRow w.heap.size 100 2 v' (goL st L).length (cellsS (goL st L)) ∧ Up w w' := by
 have hm := CF_len hr; have HR := Aside0.mk hr; have HR2 := Aside0.mk hr2; have HOK := Aside0.mk hok; obtain ⟨A3, c3, rfl, hc3, _⟩ := ownF_slice hL; have HL := Aside0.mk hL; have HLEN := Aside0.mk hlen; have HOKL := Aside0.mk hokL; have hl1 := hok.len; clear hr hr2 hok hL hlen hokL; refine (callsIn_wide (n := 7)).1 ?_; refine callsIn_of_wp_marks Tryd.func105 rfl trivial ?_ rfl; simp only [Tryd.ntmps105, List.size_toArray, List.length_cons, List.length_nil, Nat.reduceAdd, Nat.reduceSub, Array.replicate_succ, Array.replicate_zero, List.push_toArray, List.append_toArray, List.nil_append, List.cons_append]; have hcl := cloneSm_ (.slice A3 L.length c3) base L ((w.alloc (.cells #[.slice A st.length c, .slice A2 wg.length c2] 95)).alloc (.cells #[.slice A3 L.length c3] 96)) (own_up HL.out upA) (by have := HLEN.out; omega); have HB0 : Aside0 (Bx ((w.alloc (.cells #[.slice A st.length c, .slice A2 wg.length c2] 95)).alloc (.cells #[.slice A3 L.length c3] 96)) w.heap.size #[.slice A st.length c, .slice A2 wg.length c2] 95) := ⟨(Bx.new w _ _).up upA⟩; have HB1 : Aside0 (Bx ((w.alloc (.cells #[.slice A st.length c, .slice A2 wg.length c2] 95)).alloc (.cells #[.slice A3 L.length c3] 96)) (w.heap.size + 1) #[.slice A3 L.length c3] 96) := ⟨by have h9 := Bx.new (w.alloc (.cells #[.slice A st.length c, .slice A2 wg.length c2] 95)) #[.slice A3 L.length c3] 96; simpa using h9⟩; have HU0 : Aside0 (Up w ((w.alloc (.cells #[.slice A st.length c, .slice A2 wg.length c2] 95)).alloc (.cells #[.slice A3 L.length c3] 96))) := ⟨upA⟩
 gi_wp2_with fail
 generalize hW0 : ((w.alloc (.cells #[.slice A st.length c, .slice A2 wg.length c2] 95)).alloc (.cells #[.slice A3 L.length c3] 96)) = W0 at *
 have hz0 : W0.heap.size = w.heap.size + 2 := by rw [← hW0]; simp
 refine ⟨trivial, (callsIn_wide.2 hcl).mono ?_⟩; clear hcl hW0; rintro e W1 ⟨v1, rfl, hown, hu1⟩; obtain ⟨g, cap, rfl, hgb, hcap, hsp⟩ := Spc.ofOwn hown (by have := HLEN.out; omega); have hB1 := HB1.out.up hu1; have hB0 := HB0.out.up hu1; have hq1 := hB1.cell; have hf1 := hB1.frozen; have hq0 := hB0.cell
 have HI0 : Aside0 (GoI w w.heap.size (w.heap.size + 1) g cap L.length #[.slice A st.length c, .slice A2 wg.length c2] st L [] (W1.setCell ⟨w.heap.size + 1, 0, none⟩ (.slice (some ⟨g, 0, none⟩) L.length cap))) := by
  refine ⟨⟨(HU0.out.then hu1).set _ _ (by simp), hB0.far (by omega) _ _, hB1.set 0 _, ?_⟩⟩; rw [show ([] : List Nat).length = 0 from rfl, gst_zero]; exact hsp.far (by omega) _ _
 have hz1 : w.heap.size + 2 ≤ W1.heap.size := by have := hu1.le; omega
 have HG := Aside0.mk hgb; clear hown hsp hB1 hB0 hu1 HB0 HB1 hgb
 gi_wp2_with fail
 have hI0 := HI0.out
 generalize (W1.setCell ⟨w.heap.size + 1, 0, none⟩ (.slice (some ⟨g, 0, none⟩) L.length cap)) = W2 at *
 have hw2 : w.heap.size ≤ W2.heap.size := hI0.up.le
 clear HI0; apply range_gives_fr (F := Fence.wide) (n := 7) rfl (by omega) (gf := 102) (pb := #[.agg #[.slice A st.length c, .slice A2 wg.length c2]]) (lb := #[]) rfl trivial (enters_of Tryd.func102 sqF rfl) (G := isN) (lo := ptLo) (ow := noOw) (L := downL st.length) ((points_gives A st.length c A2 wg.length c2 W2 hl1).any 6) (Up.refl _) rfl (fun _ _ _ _ _ _ _ _ h => h)
  (GoI w w.heap.size (w.heap.size + 1) g cap L.length #[.slice A st.length c, .slice A2 wg.length c2] st L) (GoI.stays hw2) hI0
  ?assign ?body ?done
 case assign =>
  intro l v Wd K hK; have HK := Aside0.mk hK; clear hK
  gi_wp2_with fail
  exact HK.out
 case done =>
  intro D Wd hD hI hDd; have hrow := hI.row
  have hdl : ∀ n : Nat, (downL n).length = n + 1 := by
   intro n
   induction n with
   | zero => rfl
   | succ n ih => simp [downL, ih]
  rw [hdl, ← HLEN.out, gst_end] at hrow; have hq1 := hI.b1.cell; have HUP := Aside0.mk hI.up; have HROW := Aside0.mk hrow; clear hrow hI hdl
  gi_wp2_with fail
  refine ⟨by simp, .inl ⟨_, _, rfl, run_takeDeferred hDd, ?_⟩⟩; have hsp := (HROW.out.own (grownBy_putObj' Wd D (.deferred none)) (fun r e => by cases e; exact ⟨_, hDd, rfl⟩)).toOwn (base := w.heap.size) (by have := HG.out; omega); rw [goL_len] at hsp; refine ⟨.slice (some ⟨g, 0, none⟩) L.length cap, ?_, _, rfl, by rw [goL_len]; exact hsp, HUP.out.trans (belowK_b (w := w) (Nat.le_refl _) _ D _ _ (by omega) hDd rfl rfl)⟩
  simp [results, Tryd.f105, go_sem]
 case body =>
  rintro lq pre p post v Wd hl ⟨rq, hlr⟩ hL hI rfl
  try dsimp only
  have hpp := downL_at _ _ _ _ hL; have hq0 := hI.b0.cell; have hq1 := hI.b1.cell; have hrow := hI.row; have hgl : (gst st L pre.length).length = L.length := gst_len st L _
  by_cases hlt : p < st.length
  ·have hps : ((p : Int) < (st.length : Int)) := by omega
   have hk : pre.length = st.length - p := by omega
   rw [hk] at hrow hgl; obtain ⟨hst, hcur⟩ := gst_succ st L HLEN.out p hlt; obtain ⟨ca, cb⟩ := hrow.sps.cell p (by rw [hgl]; have := HLEN.out; omega); obtain ⟨cc, cd⟩ := hrow.sps.cell (p + 1) (by rw [hgl]; have := HLEN.out; omega); rw [show 2 * p = p * 2 by omega] at ca cb; rw [show 2 * (p + 1) = (p + 1) * 2 by omega] at cc cd; have hfz := hrow.sps.frozen; have hsb := HOK.out.at p (by omega) (by omega)
   have hso : okS (rdS (gst st L (st.length - p)) (p : Nat)) := by
    rw [hcur]; refine HOKL.out _ ?_
    have h2 : p < L.length := by have := HLEN.out; omega
    rw [rdS_nat _ _ h2]; exact List.getElem_mem _
   have HI := Aside0.mk hI; have HROW := Aside0.mk hrow; have HGL := Aside0.mk hgl; have HK := Aside0.mk hk; have HLQ := Aside0.mk hL
   have hLp : (p : Int) < (L.length : Int) := by have := HLEN.out; omega
   have hLp1 : (p : Int) + 1 < (L.length : Int) := by have := HLEN.out; omega
   have hLq : ((p + 1 : Nat) : Int) < (L.length : Int) := by have := HLEN.out; omega
   have hp0 : (0 : Int) ≤ (p : Int) := by omega
   have hp1 : (0 : Int) ≤ (p : Int) + 1 := by omega
   have hpt : ((p : Int) + 1).toNat = p + 1 := by omega
   have hw1 : IntKind.i64.wrap ((p : Int) + 1) = ((p + 1 : Nat) : Int) := by rw [IntWalk.i64_in _ (by omega)]; omega
   have hzW := hI.up.le; have hglt := hrow.sps.lt
   generalize hgs : gst st L (st.length - p) = G at *
   obtain ⟨x, hx⟩ : ∃ x, x = rdS G (p : Nat) := ⟨_, rfl⟩; obtain ⟨y, hy⟩ : ∃ y, y = rdS G ((p + 1 : Nat) : Int) := ⟨_, rfl⟩; rw [← hx] at ca cb hso hcur hst; rw [← hy] at cc cd hst; have HST := Aside0.mk hst; have HX := Aside0.mk hx; have HY := Aside0.mk hy; have HCALL : Aside0 (∀ W : World, Up Wd W → Calls Tryd.prog 103 #[.agg #[.slice A st.length c, .slice A2 wg.length c2], .int .i64 (p : Int), .agg #[.int .i64 x.lo, .int .i64 x.hi], .agg #[.int .i64 y.lo, .int .i64 y.hi]] W fun e w' => e = .returned (.agg #[.int .i64 (backS (rdS st (p : Nat)) x y).lo, .int .i64 (backS (rdS st (p : Nat)) x y).hi]) ∧ Up W w') := ⟨fun W hu => back_ A c st A2 c2 wg p x y W (C_up HR.out (HI.out.up.then hu)) hc (C_up HR2.out (HI.out.up.then hu)) hc2 hp0 hps hsb hso⟩; have HPP := Aside0.mk hpp; have HPL := Aside0.mk hlt; clear hst hcur hk hL hrow hgl hI hgs hx hy hsb hso hlr hpp hlt; generalize backS (rdS st (p : Nat)) x y = z at *
   gi_wp2_with fail
   refine round_start (n := 16) (S := fun W' => W'.cell? ⟨w.heap.size, 0, none⟩ = some (.slice A st.length c) ∧ W'.cell? ⟨w.heap.size, 1, none⟩ = some (.slice A2 wg.length c2) ∧ W'.cell? ⟨w.heap.size + 1, 0, none⟩ = some (.slice (some ⟨g, 0, none⟩) L.length cap) ∧ W'.cell? ⟨g, p * 2, none⟩ = some (.int .i64 x.lo) ∧ W'.cell? ⟨g, p * 2 + 1, none⟩ = some (.int .i64 x.hi) ∧ W'.cell? ⟨g, (p + 1) * 2, none⟩ = some (.int .i64 y.lo) ∧ W'.cell? ⟨g, (p + 1) * 2 + 1, none⟩ = some (.int .i64 y.hi)) (ds := [15]) (bm 16 0) sqF sqF (by rintro ⟨_, _, h⟩; exact h) rfl rfl ⟨hq0 0, hq0 1, hq1 0, ca, cb, cc, cd⟩ (fun hHeld => ?_); refine pure_ (i := 1) (N := (some 18)) (v := ?_) (a' := ?_) (bm 16 2) rfl rfl sqF (fun _ _ _ h => h) (Or.inl ⟨by rfl, ?_⟩) ?_ ?_
   rotate_left
   ·intro w'
    go_simp; with_reducible rfl
   rotate_left
   ·simp only [Act.put, sqA, i64_w, i32_w]; rfl
   refine pure_ (i := 3) (N := (some 20)) (v := ?_) (a' := ?_) (bm 16 10) rfl rfl sqF (fun _ _ _ h => h) (Or.inl ⟨by rfl, ?_⟩) ?_ ?_
   rotate_left
   ·intro w'
    go_simp; with_reducible rfl
   rotate_left
   ·simp only [Act.put, sqA, i64_w, i32_w]; rfl
   refine pure_ (i := 5) (N := (some 22)) (v := ?_) (a' := ?_) (bm 16 42) rfl rfl sqF (fun _ _ _ h => h) (Or.inl ⟨by rfl, ?_⟩) ?_ ?_
   rotate_left
   ·intro w'
    go_simp; with_reducible rfl
   rotate_left
   ·simp only [Act.put, sqA, i64_w, i32_w]; rfl
   refine pure_ (i := 9) (N := (some 26)) (v := ?_) (a' := ?_) (bm 16 554) rfl rfl sqF (fun _ _ _ h => h) (Or.inl ⟨by rfl, ?_⟩) ?_ ?_
   rotate_left
   ·intro w'
    go_simp; with_reducible rfl
   rotate_left
   ·simp only [Act.put, sqA, i64_w, i32_w]; rfl
   refine pure_ (i := 10) (N := (some 27)) (v := ?_) (a' := ?_) (bm 16 1578) rfl rfl sqF (fun _ _ _ h => h) (Or.inl ⟨by rfl, ?_⟩) ?_ ?_
   rotate_left
   ·intro w'
    go_simp; with_reducible rfl
   rotate_left
   ·simp only [Act.put, sqA, i64_w, i32_w]; rfl
   refine take_ (i := 0) (N := (some 17)) (v := ?_) (a' := ?_) (bm 16 1579) rfl rfl sqF (fun _ _ _ h => h) (Or.inl ⟨by rfl, ?_⟩) hHeld ?_ ?_
   rotate_left
   ·rintro w' ⟨s0, s1, s2, s3, s4, s5, s6⟩
    go_simp; with_reducible rfl
   rotate_left
   ·simp only [Act.put, sqA, i64_w, i32_w]; rfl
   refine take_ (i := 2) (N := (some 19)) (v := ?_) (a' := ?_) (bm 16 1583) rfl rfl sqF (fun _ _ _ h => h) (Or.inl ⟨by rfl, ?_⟩) hHeld ?_ ?_
   rotate_left
   ·rintro w' ⟨s0, s1, s2, s3, s4, s5, s6⟩
    go_simp; with_reducible rfl
   rotate_left
   ·simp only [Act.put, sqA, i64_w, i32_w]; rfl
   refine take_ (i := 4) (N := (some 21)) (v := ?_) (a' := ?_) (bm 16 1599) rfl rfl sqF (fun _ _ _ h => h) (Or.inl ⟨by rfl, ?_⟩) hHeld ?_ ?_
   rotate_left
   ·rintro w' ⟨s0, s1, s2, s3, s4, s5, s6⟩
    go_simp; with_reducible rfl
   rotate_left
   ·simp only [Act.put, sqA, i64_w, i32_w]; rfl
   refine take_ (i := 6) (N := (some 23)) (v := ?_) (a' := ?_) (bm 16 1663) rfl rfl sqF (fun _ _ _ h => h) (Or.inl ⟨by rfl, ?_⟩) hHeld ?_ ?_
   rotate_left
   ·rintro w' ⟨s0, s1, s2, s3, s4, s5, s6⟩
    go_simp; with_reducible rfl
   rotate_left
   ·simp only [Act.put, sqA, i64_w, i32_w]; rfl
   refine take_ (i := 7) (N := (some 24)) (v := ?_) (a' := ?_) (bm 16 1791) rfl rfl sqF (fun _ _ _ h => h) (Or.inl ⟨by rfl, ?_⟩) hHeld ?_ ?_
   rotate_left
   ·rintro w' ⟨s0, s1, s2, s3, s4, s5, s6⟩
    go_simp; with_reducible rfl
   rotate_left
   ·simp only [Act.put, sqA, i64_w, i32_w]; rfl
   refine take_ (i := 8) (N := (some 25)) (v := ?_) (a' := ?_) (bm 16 2047) rfl rfl sqF (fun _ _ _ h => h) (Or.inl ⟨by rfl, ?_⟩) hHeld ?_ ?_
   rotate_left
   ·rintro w' ⟨s0, s1, s2, s3, s4, s5, s6⟩
    go_simp; with_reducible rfl
   rotate_left
   ·simp only [Act.put, sqA, i64_w, i32_w]; rfl
   refine take_ (i := 11) (N := (some 28)) (v := ?_) (a' := ?_) (bm 16 4095) rfl rfl sqF (fun _ _ _ h => h) (Or.inl ⟨by rfl, ?_⟩) hHeld ?_ ?_
   rotate_left
   ·rintro w' ⟨s0, s1, s2, s3, s4, s5, s6⟩
    go_simp; with_reducible rfl
   rotate_left
   ·simp only [Act.put, sqA, i64_w, i32_w]; rfl
   refine take_ (i := 12) (N := (some 29)) (v := ?_) (a' := ?_) (bm 16 8191) rfl rfl sqF (fun _ _ _ h => h) (Or.inl ⟨by rfl, ?_⟩) hHeld ?_ ?_
   rotate_left
   ·rintro w' ⟨s0, s1, s2, s3, s4, s5, s6⟩
    go_simp; with_reducible rfl
   rotate_left
   ·simp only [Act.put, sqA, i64_w, i32_w]; rfl
   refine one_ (i := 13) (N := (some 30)) (bm 16 16383) rfl rfl sqF (by decide) (fun K hK => ?_); refine goes_ Tryd.func103 sqF rfl #[.agg #[.slice A st.length c, .slice A2 wg.length c2], .int .i64 (p : Int), .agg #[.int .i64 x.lo, .int .i64 x.hi], .agg #[.int .i64 y.lo, .int .i64 y.hi]] (by rfl) rfl rfl sqM ?_; refine (HCALL.out _ ((Up.refl Wd).drew)).mono ?_; rintro e w' ⟨rfl, hb⟩; have HW : Aside0 (Up Wd w') := ⟨((Up.refl Wd).drew).then hb⟩; have hq0' := (HI.out.b0.up HW.out).cell; have hq1' := (HI.out.b1.up HW.out).cell; have hrw := (HROW.out.up HW.out).sps; have hca := hrw.cell p (by rw [HGL.out]; omega); have hcc := hrw.cell (p + 1) (by rw [HGL.out]; omega); rw [show 2 * p = p * 2 by omega, ← HX.out] at hca; rw [show 2 * (p + 1) = (p + 1) * 2 by omega, ← HY.out] at hcc; have hfz' := hrw.frozen; clear hb hrw; refine ⟨_, rfl, ?_⟩; refine hK.out _ _ ⟨hq0' 0, hq0' 1, hq1' 0, hca.1, hca.2, hcc.1, hcc.2⟩ (fun hHeld => ?_); clear hK K; refine norm_ (a' := ?_) ?_ ?_
   rotate_left
   ·show Act.put _ (some 30) _ = _
    simp only [Act.put, sqA, i64_w, i32_w]; rfl
   refine one_ (i := 14) (N := (some 31)) (bm 16 32767) rfl rfl sqF (by decide) (fun K hK => ?_); refine value_ (v := ?_) (w1 := w') (by rfl) rfl ?_ ?_
   rotate_left
   ·go_simp
    rfl
   refine hK.out _ _ hHeld (fun hHeld => ?_); clear hK K; refine norm_ (a' := ?_) ?_ ?_
   rotate_left
   ·show Act.put _ (some 31) _ = _
    simp only [Act.put, sqA, i64_w, i32_w]; rfl
   refine last_ (i := 15) (N := none) (bm 16 65535) rfl rfl sqF (by decide) (fun K hK => ?_); obtain ⟨s0, s1, s2, s3, s4, s5, s6⟩ := hHeld; refine skip_ (w1 := ?_) (by rfl) rfl ?_ ?_
   rotate_left
   ·go_simp
    rfl
   refine hK.out _ _ ?_; clear hK K; refine done_ sqF ?_; have hgb9 := HG.out; have hrow2 := (HROW.out.up HW.out).set p (by rw [HGL.out]; omega) z.lo z.hi; rw [show 2 * p = p * 2 by omega] at hrow2
   have hne0 : w.heap.size ≠ g := by have := HG.out; omega
   have hne1 : w.heap.size + 1 ≠ g := by have := HG.out; omega
   refine ⟨?_, ⟨((HI.out.up.then HW.out).set _ _ (by simp; omega)).set _ _ (by simp; omega), ((HI.out.b0.up HW.out).far hne0 _ _).far hne0 _ _, ((HI.out.b1.up HW.out).far hne1 _ _).far hne1 _ _, ?_⟩⟩
   ·have hk9 := kt_set (Kt.up HW.out : Kt ptLo Wd w') (spc_typed (HROW.out.up HW.out) (lo := ptLo) rfl) (p * 2) (.int .i64 z.lo)
    exact (kt_set hk9.1 hk9.2 (p * 2 + 1) (.int .i64 z.hi)).1
   ·have hk' : (pre ++ [p]).length = st.length - p + 1 := by rw [List.length_append, HK.out]; rfl
    rw [hk', HST.out]; exact hrow2
  ·have hps : ¬ ((p : Int) < (st.length : Int)) := by omega
   gi_wp2_with fail
   have hk0 : pre.length = 0 := by omega
   refine ⟨Kt.refl _ _, hI.up, hI.b0, hI.b1, ?_⟩; rw [List.length_append, hk0, List.length_singleton, gst_one st L HLEN.out]; rw [hk0, gst_zero] at hrow; exact hrow
end Go.Proofs.YtemingmeidmjkaaDoor.Q
namespace Go.Proofs.YtemingmeidmjkaaDoor.Q
open Go.RowKit Go.Shelf Go.Proofs.YtemingmeidmjkaaDoorW.PrintWords Go.Proofs.YtemingmeidmjkaaDoorW.PrintLast
set_option linter.unusedVariables false
set_option linter.unusedSimpArgs false
theorem idx_Sm_drop (p : Sp → Bool) (l : List Sp) (k : Nat) (h : k < l.length) : idxF p (l.drop k) k = if p (rdS l k) then (k:Int) else idxF p (l.drop (k+1)) (k+1) := by
 rw [List.drop_eq_getElem_cons h, idxF]; simp [rdS, List.getD_eq_getElem?_getD, h]
set_option maxRecDepth 100000 in
theorem index_Sm (fv : FuncId) (cap : Array Value) (p : Sp → Bool) (A : Option Addr) (c : Nat) (l : List Sp) (w : World)
  (hr : Kd.C kSp w A l.length l) (hc : l.length ≤ c)
  (hE : ∀ (args : Array Value) (w : World), (callFunc fv args).run Tryd.prog w = .ok (.enter fv args) w)
  (hf : ∀ x W, Up w W → Calls Tryd.prog fv (#[.agg #[.int .i64 x.lo, .int .i64 x.hi]] ++ cap) W fun e W' => e = .returned (.bool (p x)) ∧ Up W W') :
  Calls Tryd.prog 110 #[.slice A l.length c, .func (.func fv) #[] cap] w fun e w' => e = .returned (.int .i64 (idxF p l 0)) ∧ Up w w' := by
 have HF := Aside0.mk hf; have HR := Aside0.mk hr; have hm := CF_len hr; clear hf hr; go_enter Tryd.func110, Tryd.ntmps110
 go_wp2
 go_loopw [8] (fun i wr => ∃ k : Nat, k ≤ l.length ∧ i = .int .i64 k ∧ Aside0 (idxF p l 0 = idxF p (l.drop k) k) ∧ Aside0 (Up w wr)) (fun i _ => l.length - (intOf i).toNat)
 case atStart => exact ⟨0, Nat.zero_le _, rfl, ⟨rfl⟩, ⟨Up.refl _⟩⟩
 case round =>
  obtain ⟨k, hk, rfl, he, hb⟩ := hrel
  by_cases hlt : k < l.length
  ·obtain ⟨ad, e, hx0, hx1⟩ := at_Sp (C_up HR.out hb.out) k (by omega) (by omega)
   cases e
   have hu := Tryd.underlying100; simp only [Int.toNat_natCast] at hx0 hx1; have hcall := HF.out (rdS l k) _ hb.out
   cases hp : p (rdS l k)
   all_goals
    rw [hp] at hcall; have he2 := idx_Sm_drop p l k hlt; rw [hp] at he2; have he3 := Aside0.mk (he.out.trans he2); clear hp he he2; go_wp2_with fail; refine hcall.mono ?_; clear hcall; rintro e w' ⟨rfl, hb'⟩; have hb2 := Aside0.mk (hb.out.then hb'); clear hb' hb; go_wp2
   ·go_roundw
    case rel => exact ⟨k+1, by omega, by go_num, ⟨by simpa using he3.out⟩, hb2⟩
    case measure => simp [intOf]; omega
   ·go_ret
    exact ⟨by rw [he3.out]; rfl, hb2.out⟩
  ·go_wp2
   go_ret
   exact ⟨by rw [he.out, List.drop_eq_nil_of_le (by omega)]; rfl, hb.out⟩
theorem contains_Sm (fv : FuncId) (cap : Array Value) (p : Sp → Bool) (A : Option Addr) (c : Nat) (l : List Sp) (w : World)
  (hr : Kd.C kSp w A l.length l) (hc : l.length ≤ c)
  (hE : ∀ (args : Array Value) (w : World), (callFunc fv args).run Tryd.prog w = .ok (.enter fv args) w)
  (hf : ∀ x W, Up w W → Calls Tryd.prog fv (#[.agg #[.int .i64 x.lo, .int .i64 x.hi]] ++ cap) W fun e W' => e = .returned (.bool (p x)) ∧ Up W W') :
  Calls Tryd.prog 104 #[.slice A l.length c, .func (.func fv) #[] cap] w fun e w' => e = .returned (.bool (l.any p)) ∧ Up w w' := by
 have hcall := index_Sm fv cap p A c l w hr hc hE hf; clear hr hf; have HD : Aside0 (decide (0 ≤ idxF p l 0) = l.any p) := ⟨idxF_any p l⟩; clear hE; go_enter Tryd.func104, Tryd.ntmps104
 go_wp2_with fail
 refine hcall.mono ?_; clear hcall; rintro e w' ⟨rfl, hb'⟩; have hb2 := Aside0.mk hb'; clear hb'; go_wp2
 go_ret
 exact ⟨ret_bool HD.out, hb2.out⟩
def noneB (s : Sp) : Bool := decide (s.lo > s.hi)
theorem containsNone (A : Option Addr) (c : Nat) (l : List Sp) (w : World) (hr : Kd.C kSp w A l.length l) (hc : l.length ≤ c) :
  Calls Tryd.prog 104 #[.slice A l.length c, .func (.func 82) #[] #[]] w fun e w' => e = .returned (.bool (l.any noneB)) ∧ Up w w' :=
 contains_Sm 82 #[] noneB _ _ l _ hr hc (by intro a w; kernel_rfl) (by intro x W hb; exact isNone_ x W)
theorem comeL_len (st : List Sp) (wg : List Wg) : (comeL st wg).length = st.length + 1 := by simp [comeL]
theorem comeL_ok {st : List Sp} {wg : List Wg} (h : RdOk st wg) : ∀ s ∈ comeL st wg, okS s := by
 intro s hs; simp only [comeL, List.mem_map, List.mem_range] at hs; obtain ⟨i, hi, rfl⟩ := hs; exact comeAt_ok h i (by omega)
def honL (st : List Sp) (wg : List Wg) : List Sp := goL st (comeL st wg)
def honB (st : List Sp) (wg : List Wg) : Bool := !(honL st wg).any noneB
theorem honL_len (st : List Sp) (wg : List Wg) : (honL st wg).length = st.length + 1 := by rw [honL, goL_len, comeL_len]
set_option maxRecDepth 100000 in
set_option maxHeartbeats 1000000 in
theorem honest_ (A : Option Addr) (c : Nat) (st : List Sp) (A2 : Option Addr) (c2 : Nat) (wg : List Wg) (w : World) (hG : GL w) (hr : Kd.C kSp w A st.length st) (hc : st.length ≤ c) (hr2 : Kd.C kWg w A2 wg.length wg) (hc2 : wg.length ≤ c2) (hok : RdOk st wg) :
  Calls Tryd.prog 76 #[.agg #[.slice A st.length c, .slice A2 wg.length c2]] w fun e w' => ∃ v, e = .returned (.tuple #[v, .bool (honB st wg)]) ∧ w'.ownsRow w.heap.size 100 2 v (honL st wg).length (cellsS (honL st wg)) ∧ Up w w' := by
 have hm := CF_len hr; have HR := Aside0.mk hr; have HR2 := Aside0.mk hr2; have HOK := Aside0.mk hok; have HGL := Aside0.mk hG; have hl1 := hok.len; clear hr hr2 hok hG; have HU0 : Aside0 (Up w (w.alloc (.cells #[.slice A st.length c, .slice A2 wg.length c2] 95))) := ⟨upA⟩; have HB0 : Aside0 (Bx (w.alloc (.cells #[.slice A st.length c, .slice A2 wg.length c2] 95)) w.heap.size #[.slice A st.length c, .slice A2 wg.length c2] 95) := ⟨Bx.new w _ _⟩
 go_enter Tryd.func76, Tryd.ntmps76
 go_wp2_with fail
 have hq0 := HB0.out.cell
 generalize (w.alloc (.cells #[.slice A st.length c, .slice A2 wg.length c2] 95)) = W0 at *
 -- EV honest
 refine start_ (n := 5) (S := fun W' => W'.cell? ⟨w.heap.size, 0, none⟩ = some (.slice A st.length c) ∧ W'.cell? ⟨w.heap.size, 1, none⟩ = some (.slice A2 wg.length c2)) (ds := []) (bm 5 0) sqF rfl rfl ⟨hq0 0, hq0 1⟩ (fun hHeld => ?_); refine take_ (i := 0) (N := (some 5)) (v := ?_) (a' := ?_) (bm 5 1) rfl rfl sqF (fun _ _ _ h => h) (Or.inl ⟨by rfl, ?_⟩) hHeld ?_ ?_
 rotate_left
 ·rintro w' ⟨s0, s1⟩
  go_simp; with_reducible rfl
 rotate_left
 ·simp only [Act.put, sqA, i64_w, i32_w]; rfl
 refine take_ (i := 1) (N := (some 6)) (v := ?_) (a' := ?_) (bm 5 3) rfl rfl sqF (fun _ _ _ h => h) (Or.inl ⟨by rfl, ?_⟩) hHeld ?_ ?_
 rotate_left
 ·rintro w' ⟨s0, s1⟩
  go_simp; with_reducible rfl
 rotate_left
 ·simp only [Act.put, sqA, i64_w, i32_w]; rfl
 refine one_ (i := 2) (N := (some 7)) (bm 5 7) rfl rfl sqF (by decide) (fun K hK => ?_); refine goes_ Tryd.func100 sqF rfl #[.agg #[.slice A st.length c, .slice A2 wg.length c2]] (by rfl) rfl rfl sqM ?_; refine (come_ A c st A2 c2 wg _ (HGL.out.up (HU0.out.drew)) (C_up HR.out (HU0.out.drew)) hc (C_up HR2.out (HU0.out.drew)) hc2 HOK.out).mono ?_; rintro e w1 ⟨v1, rfl, hown, hb⟩; have HU1 := Aside0.mk (HU0.out.drew.then hb); have HX : Aside0 (Up W0.drew w1) := ⟨hb⟩; have HX2 := Aside0.mk (hb.le); have hq1 := (HB0.out.up (((Up.refl _).drew).then hb)).cell; have HO1 := Aside0.mk hown; clear hb hown; refine ⟨_, rfl, ?_⟩; refine hK.out _ _ ⟨hq1 0, hq1 1⟩ (fun hHeld => ?_); clear hK K; refine norm_ (a' := ?_) ?_ ?_
 rotate_left
 ·show Act.put _ (some 7) _ = _
  simp only [Act.put, sqA, i64_w, i32_w]; rfl
 refine one_ (i := 3) (N := (some 8)) (bm 5 15) rfl rfl sqF (by decide) (fun K hK => ?_); refine goes_ Tryd.func105 sqF rfl #[.agg #[.slice A st.length c, .slice A2 wg.length c2], v1] (by rfl) rfl rfl sqM ?_; refine (goOn_ A c st A2 c2 wg v1 _ (comeL st wg) _ (C_up HR.out HU1.out) hc (C_up HR2.out HU1.out) hc2 HOK.out HO1.out (comeL_len st wg) (comeL_ok HOK.out)).mono ?_; rintro e w2 ⟨v2, rfl, hown, hb⟩; have HU2 := Aside0.mk (HU1.out.then hb); have hq2 := (HB0.out.up (w' := w2) (((Up.refl _).drew).then (HX.out.then hb))).cell; have HO2 := Aside0.mk (own_mono hown (Nat.le_trans HU0.out.le HX2.out)); clear hb hown; refine ⟨_, rfl, ?_⟩; refine hK.out _ _ ⟨hq2 0, hq2 1⟩ (fun hHeld => ?_); clear hK K; refine norm_ (a' := ?_) ?_ ?_
 rotate_left
 ·show Act.put _ (some 8) _ = _
  simp only [Act.put, sqA, i64_w, i32_w]; rfl
 refine pure_ (i := 4) (N := (some 4)) (v := ?_) (a' := ?_) (bm 5 31) rfl rfl sqF (fun _ _ _ h => h) (Or.inl ⟨by rfl, ?_⟩) ?_ ?_
 rotate_left
 ·intro w'
  go_simp; with_reducible rfl
 rotate_left
 ·simp only [Act.put, sqA, i64_w, i32_w]; rfl
 refine done_ sqF ?_
 -- END honest
 have HO3 : Aside0 (w2.ownsRow w.heap.size 100 2 v2 (honL st wg).length (cellsS (honL st wg))) := ⟨HO2.out⟩; obtain ⟨A5, c5, rfl, hc5, hC5⟩ := own_C_Sp HO3.out (by rw [honL_len]; omega); have HC5 := Aside0.mk hC5; have hcall := containsNone A5 c5 (honL st wg) w2 HC5.out hc5; have HB : Aside0 ((!(honL st wg).any noneB) = honB st wg) := ⟨rfl⟩; clear hC5 HO2; go_wp2_with fail; refine hcall.mono ?_; clear hcall; rintro e w3 ⟨rfl, hb⟩; have HU3 := Aside0.mk (HU2.out.then hb); have HO4 := Aside0.mk (own_up HO3.out hb); clear hb HO3; go_wp2_with fail
 go_ret2
 exact ⟨.slice A5 (honL st wg).length c5, by rw [← HB.out]; simp, HO4.out, HU3.out⟩
set_option maxRecDepth 100000 in
theorem open_ (A : Option Addr) (c : Nat) (st : List Sp) (A2 : Option Addr) (c2 : Nat) (wg : List Wg) (w : World) (hr : Kd.C kSp w A st.length st) (hc : st.length ≤ c) (hr2 : Kd.C kWg w A2 wg.length wg) (hc2 : wg.length ≤ c2) :
  Calls Tryd.prog 67 #[.agg #[.slice A st.length c, .slice A2 wg.length c2]] w fun e w' => e = .returned (.tuple #[.agg #[.slice A st.length c, .slice A2 wg.length c2], .int .i64 (roadE st wg)]) ∧ Up w w' := by
 have HR := Aside0.mk hr; have HR2 := Aside0.mk hr2; clear hr hr2; have HU0 : Aside0 (Up w ((w.alloc (.cells #[.slice A st.length c, .slice A2 wg.length c2] 25)).alloc (.cells #[.slice none 0 0, .slice none 0 0] 95))) := ⟨upA⟩; have HB0 : Aside0 (Bx ((w.alloc (.cells #[.slice A st.length c, .slice A2 wg.length c2] 25)).alloc (.cells #[.slice none 0 0, .slice none 0 0] 95)) w.heap.size #[.slice A st.length c, .slice A2 wg.length c2] 25) := ⟨(Bx.new w _ _).up upA⟩; have HB1 : Aside0 (Bx ((w.alloc (.cells #[.slice A st.length c, .slice A2 wg.length c2] 25)).alloc (.cells #[.slice none 0 0, .slice none 0 0] 95)) (w.heap.size + 1) #[.slice none 0 0, .slice none 0 0] 95) := ⟨by have h9 := Bx.new (w.alloc (.cells #[.slice A st.length c, .slice A2 wg.length c2] 25)) #[.slice none 0 0, .slice none 0 0] 95; simpa using h9⟩
 go_enter Tryd.func67, Tryd.ntmps67
 go_wp2_with fail
 have hq0 := HB0.out.cell; have hq1 := HB1.out.cell; have hf1 := HB1.out.frozen
 generalize ((w.alloc (.cells #[.slice A st.length c, .slice A2 wg.length c2] 25)).alloc (.cells #[.slice none 0 0, .slice none 0 0] 95)) = W0 at *
 -- EV open
 refine start_ (n := 6) (S := fun W' => W'.cell? ⟨w.heap.size, 0, none⟩ = some (.slice A st.length c) ∧ W'.cell? ⟨w.heap.size, 1, none⟩ = some (.slice A2 wg.length c2)) (ds := [4]) (bm 6 0) sqF rfl rfl ⟨hq0 0, hq0 1⟩ (fun hHeld => ?_); refine take_ (i := 0) (N := (some 4)) (v := ?_) (a' := ?_) (bm 6 1) rfl rfl sqF (fun _ _ _ h => h) (Or.inl ⟨by rfl, ?_⟩) hHeld ?_ ?_
 rotate_left
 ·rintro w' ⟨s0, s1⟩
  go_simp; with_reducible rfl
 rotate_left
 ·simp only [Act.put, sqA, i64_w, i32_w]; rfl
 refine take_ (i := 1) (N := (some 5)) (v := ?_) (a' := ?_) (bm 6 3) rfl rfl sqF (fun _ _ _ h => h) (Or.inl ⟨by rfl, ?_⟩) hHeld ?_ ?_
 rotate_left
 ·rintro w' ⟨s0, s1⟩
  go_simp; with_reducible rfl
 rotate_left
 ·simp only [Act.put, sqA, i64_w, i32_w]; rfl
 refine take_ (i := 2) (N := (some 6)) (v := ?_) (a' := ?_) (bm 6 7) rfl rfl sqF (fun _ _ _ h => h) (Or.inl ⟨by rfl, ?_⟩) hHeld ?_ ?_
 rotate_left
 ·rintro w' ⟨s0, s1⟩
  go_simp; with_reducible rfl
 rotate_left
 ·simp only [Act.put, sqA, i64_w, i32_w]; rfl
 refine one_ (i := 3) (N := (some 7)) (bm 6 15) rfl rfl sqF (by decide) (fun K hK => ?_); refine goes_ Tryd.func19 sqF rfl #[.agg #[.slice A st.length c, .slice A2 wg.length c2]] (by rfl) rfl rfl sqM ?_; refine (check_ A c st A2 c2 wg _ (C_up HR.out (HU0.out.drew)) hc (C_up HR2.out (HU0.out.drew)) hc2).mono ?_; rintro e w1 ⟨rfl, hb⟩; have HU1 := Aside0.mk (HU0.out.drew.then hb); have HX : Aside0 (Up W0 w1) := ⟨((Up.refl _).drew).then hb⟩; have hq1 := (HB0.out.up HX.out).cell; have HB1 := Aside0.mk (HB1.out.up HX.out); clear hb; refine ⟨_, rfl, ?_⟩; refine hK.out _ _ ⟨hq1 0, hq1 1⟩ (fun hHeld => ?_); clear hK K; refine norm_ (a' := ?_) ?_ ?_
 rotate_left
 ·show Act.put _ (some 7) _ = _
  simp only [Act.put, sqA, i64_w, i32_w]; rfl
 refine last_ (i := 4) (N := none) (bm 6 31) rfl rfl sqF (by decide) (fun K hK => ?_); have hqb := HB1.out.cell; have hfb := HB1.out.frozen; refine skip_ (w1 := ?_) (by rfl) rfl ?_ ?_
 rotate_left
 ·go_simp
  rfl
 refine hK.out _ _ ?_; clear hK K; refine pure_ (i := 5) (N := (some 3)) (v := ?_) (a' := ?_) (bm 6 63) rfl rfl sqF (fun _ _ _ h => h) (Or.inl ⟨by rfl, ?_⟩) ?_ ?_
 rotate_left
 ·intro w'
  go_simp; with_reducible rfl
 rotate_left
 ·simp only [Act.put, sqA, i64_w, i32_w]; rfl
 refine done_ sqF ?_
 -- END open
 go_wp2_with fail
 have HU2 := Aside0.mk ((HU1.out.set ⟨w.heap.size + 1, 0, none⟩ (.slice A st.length c) (by simp)).set ⟨w.heap.size + 1, 1, none⟩ (.slice A2 wg.length c2) (by simp)); have HB2 := Aside0.mk ((HB1.out.set 0 (.slice A st.length c)).set 1 (.slice A2 wg.length c2)); have hqc := HB2.out.cell; refine bodyPost_ret (v := .tuple #[.agg #[.slice A st.length c, .slice A2 wg.length c2], .int .i64 (roadE st wg)]) ?_ rfl ⟨rfl, HU2.out⟩; clear hq0 hq1 hqb hfb; simp [results, Tryd.results67, go_sem, hqc]
def ohE (st : List Sp) (wg : List Wg) : Int := if roadE st wg = 0 then (if honB st wg then 0 else 9) else roadE st wg
def ohL (st : List Sp) (wg : List Wg) : List Sp := if ohE st wg = 0 then honL st wg else []
theorem stBad_not {s : Sp} (h : stBad s = false) : stB s := by
 unfold stBad at h
 simp only [Bool.or_eq_false_iff, decide_eq_false_iff_not, Bool.not_eq_false'] at h; have h2 := (inB_iff _ _ _).1 h.2; simp only [List.mem_cons, List.not_mem_nil, or_false, forall_eq_or_imp, forall_eq] at h2
 unfold stB
 omega
theorem wgBad_not {n : Nat} {x : Wg} (h : wgBad n x = false) : (0 ≤ x.p ∧ x.p ≤ n) ∧ (0 ≤ x.r ∧ x.r ≤ 400) ∧ (0 ≤ x.o ∧ x.o ≤ 20) := by
 unfold wgBad at h
 simp only [Bool.or_eq_false_iff, Bool.not_eq_false'] at h; have h1 := (inB_iff _ _ _).1 h.1.1; have h2 := (inB_iff _ _ _).1 h.1.2; have h3 := (inB_iff _ _ _).1 h.2; simp only [List.mem_singleton, forall_eq] at h1 h2 h3; exact ⟨h1, h2, h3⟩
theorem road_ok {st : List Sp} {wg : List Wg} (h : roadE st wg = 0) : RdOk st wg ∧ 1 ≤ st.length ∧ st.length ≤ 5 ∧ wg.length ≤ 8 ∧ ∀ x ∈ wg, 0 ≤ x.p ∧ x.p ≤ st.length := by
 unfold roadE at h
 cases h1 : inB 1 5 [(st.length : Int)]
 ·simp [h1] at h
 ·have h1' := (inB_iff _ _ _).1 h1
  simp only [List.mem_singleton, forall_eq] at h1'; simp only [h1, if_true] at h
  cases h2 : st.any stBad
  ·simp only [h2, Bool.false_eq_true, if_false] at h
   by_cases h3 : wg.length > 8
   ·simp [h3] at h
   ·rw [if_neg h3] at h
    cases h4 : wg.any (wgBad st.length)
    ·have h5 : ∀ x ∈ wg, wgBad st.length x = false := by simpa [List.any_eq_false] using h4
     have h6 : ∀ s ∈ st, stBad s = false := by simpa [List.any_eq_false] using h2
     exact ⟨⟨fun s hs => stBad_not (h6 s hs), fun x hx => (wgBad_not (h5 x hx)).2, by omega⟩, by omega, by omega, by omega, fun x hx => (wgBad_not (h5 x hx)).1⟩
    ·simp [h4] at h
  ·simp [h2] at h
set_option maxRecDepth 100000 in
set_option maxHeartbeats 1000000 in
theorem openHonest_ (A : Option Addr) (c : Nat) (st : List Sp) (A2 : Option Addr) (c2 : Nat) (wg : List Wg) (w : World) (hG : GL w) (hr : Kd.C kSp w A st.length st) (hc : st.length ≤ c) (hr2 : Kd.C kWg w A2 wg.length wg) (hc2 : wg.length ≤ c2) :
  Calls Tryd.prog 60 #[.agg #[.slice A st.length c, .slice A2 wg.length c2]] w fun e w' => ∃ v, e = .returned (.tuple #[.agg #[.slice A st.length c, .slice A2 wg.length c2], v, .int .i64 (ohE st wg)]) ∧ w'.ownsRow w.heap.size 100 2 v (ohL st wg).length (cellsS (ohL st wg)) ∧ Up w w' := by
 have HR := Aside0.mk hr; have HR2 := Aside0.mk hr2; have HGL := Aside0.mk hG; clear hr hr2 hG; have HU0 : Aside0 (Up w ((w.alloc (.cells #[.slice A st.length c, .slice A2 wg.length c2] 25)).alloc (.cells #[.slice none 0 0, .slice none 0 0] 95))) := ⟨upA⟩; have HB1 : Aside0 (Bx ((w.alloc (.cells #[.slice A st.length c, .slice A2 wg.length c2] 25)).alloc (.cells #[.slice none 0 0, .slice none 0 0] 95)) (w.heap.size + 1) #[.slice none 0 0, .slice none 0 0] 95) := ⟨by have h9 := Bx.new (w.alloc (.cells #[.slice A st.length c, .slice A2 wg.length c2] 25)) #[.slice none 0 0, .slice none 0 0] 95; simpa using h9⟩; have hcall := open_ A c st A2 c2 wg ((w.alloc (.cells #[.slice A st.length c, .slice A2 wg.length c2] 25)).alloc (.cells #[.slice none 0 0, .slice none 0 0] 95)) (C_up HR.out HU0.out) hc (C_up HR2.out HU0.out) hc2
 have hbe : (roadE st wg != 0) = !decide (roadE st wg = 0) := by by_cases h : roadE st wg = 0 <;> simp [h]
 go_enter Tryd.func60, Tryd.ntmps60
 go_wp2_with fail
 generalize ((w.alloc (.cells #[.slice A st.length c, .slice A2 wg.length c2] 25)).alloc (.cells #[.slice none 0 0, .slice none 0 0] 95)) = W0 at *
 refine hcall.mono ?_; clear hcall; rintro e w1 ⟨rfl, hb⟩; have HU1 := Aside0.mk (HU0.out.then hb); have HB2 := Aside0.mk (HB1.out.up hb); have hq1 := HB2.out.cell; have hf1 := HB2.out.frozen; have HU2 := Aside0.mk ((HU1.out.set ⟨w.heap.size + 1, 0, none⟩ (.slice A st.length c) (by simp)).set ⟨w.heap.size + 1, 1, none⟩ (.slice A2 wg.length c2) (by simp)); have HB3 := Aside0.mk ((HB2.out.set 0 (.slice A st.length c)).set 1 (.slice A2 wg.length c2)); clear hb HB1
 by_cases he : roadE st wg = 0
 ·have hd : (roadE st wg != 0) = false := by simp [he]
  have HE := Aside0.mk he; clear he hbe; go_wp2_with fail; refine (honest_ A c st A2 c2 wg _ (HGL.out.up HU2.out) (C_up HR.out HU2.out) hc (C_up HR2.out HU2.out) hc2 (road_ok HE.out).1).mono ?_; rintro e w2 ⟨v2, rfl, hown, hb⟩; have HU4 := Aside0.mk (HU2.out.then hb); have HB4 := Aside0.mk (HB3.out.up hb); have HO := Aside0.mk (own_mono hown (Nat.le_trans (HU2.out.le) (Nat.le_refl _))); clear hq1 hf1; have hq1 := HB4.out.cell; have hf1 := HB4.out.frozen; clear hown hb
  cases hh : honB st wg
  ·have HE2 : Aside0 (ohE st wg = 9) := ⟨by simp [ohE, HE.out, hh]⟩
   have HL : Aside0 (ohL st wg = []) := ⟨by simp [ohL, HE2.out]⟩; clear hh; go_wp2_with fail; have HB5 := Aside0.mk ((HB4.out.set 0 (.slice A st.length c)).set 1 (.slice A2 wg.length c2)); have HU5 := Aside0.mk ((HU4.out.set ⟨w.heap.size + 1, 0, none⟩ (.slice A st.length c) (by simp)).set ⟨w.heap.size + 1, 1, none⟩ (.slice A2 wg.length c2) (by simp)); have hq5 := HB5.out.cell; refine bodyPost_ret (v := .tuple #[.agg #[.slice A st.length c, .slice A2 wg.length c2], .slice none 0 0, .int .i64 (9)]) ?_ rfl ⟨.slice none 0 0, by rw [HE2.out], by rw [HL.out]; exact ⟨rfl, .inl ⟨rfl, rfl⟩⟩, HU5.out⟩; clear hq1 hf1; simp [results, Tryd.results60, go_sem, hq5]
  ·have HE2 : Aside0 (ohE st wg = 0) := ⟨by simp [ohE, HE.out, hh]⟩
   have HL : Aside0 (ohL st wg = honL st wg) := ⟨by simp [ohL, HE2.out]⟩; clear hh; go_wp2_with fail; have HB5 := Aside0.mk ((HB4.out.set 0 (.slice A st.length c)).set 1 (.slice A2 wg.length c2)); have HU5 := Aside0.mk ((HU4.out.set ⟨w.heap.size + 1, 0, none⟩ (.slice A st.length c) (by simp)).set ⟨w.heap.size + 1, 1, none⟩ (.slice A2 wg.length c2) (by simp)); have hq5 := HB5.out.cell; refine bodyPost_ret (v := .tuple #[.agg #[.slice A st.length c, .slice A2 wg.length c2], v2, .int .i64 (0)]) ?_ rfl ⟨v2, by rw [HE2.out], by rw [HL.out]; exact own_far (own_far HO.out HB4.out (by decide) 0 _) (HB4.out.set 0 _) (by decide) 1 _, HU5.out⟩; clear hq1 hf1; simp [results, Tryd.results60, go_sem, hq5]
 ·have hd : (roadE st wg != 0) = true := by simp [he]
  have HE2 : Aside0 (ohE st wg = roadE st wg) := ⟨by simp [ohE, he]⟩; have HL : Aside0 (ohL st wg = []) := ⟨by simp [ohL, ohE, he]⟩; have HB4 := HB3; have HU4 := HU2; clear he hbe; go_wp2_with fail; have HB5 := Aside0.mk ((HB4.out.set 0 (.slice A st.length c)).set 1 (.slice A2 wg.length c2)); have HU5 := Aside0.mk ((HU4.out.set ⟨w.heap.size + 1, 0, none⟩ (.slice A st.length c) (by simp)).set ⟨w.heap.size + 1, 1, none⟩ (.slice A2 wg.length c2) (by simp)); have hq5 := HB5.out.cell; refine bodyPost_ret (v := .tuple #[.agg #[.slice A st.length c, .slice A2 wg.length c2], .slice none 0 0, .int .i64 (roadE st wg)]) ?_ rfl ⟨.slice none 0 0, by rw [HE2.out], by rw [HL.out]; exact ⟨rfl, .inl ⟨rfl, rfl⟩⟩, HU5.out⟩; clear hq1 hf1; simp [results, Tryd.results60, go_sem, hq5]
end Go.Proofs.YtemingmeidmjkaaDoor.Q
namespace Go.Proofs.YtemingmeidmjkaaDoor.Q
open Go.RowKit Go.Shelf Go.Proofs.YtemingmeidmjkaaDoorW.PrintWords Go.Proofs.YtemingmeidmjkaaDoorW.PrintLast
set_option linter.unusedVariables false
set_option linter.unusedSimpArgs false
theorem span_ (s : Sp) (w : World) : Calls Tryd.prog 61 #[.agg #[.int .i64 s.lo, .int .i64 s.hi]] w fun e w' => e = .returned (.agg #[.int .i64 s.lo, .int .i64 s.hi]) ∧ Up w w' := by
 go_enter Tryd.func61, Tryd.ntmps61
 go_wp2_with fail
 refine bodyPost_ret (v := .agg #[.int .i64 s.lo, .int .i64 s.hi]) ?_ rfl ⟨rfl, ?_⟩
 ·simp [results, Tryd.results61, go_sem]
 ·exact upA
theorem own_grown {W w1 : World} {b1 e1 s1 n1 b e s n : Nat} {u v : Value} {ys xs : List Value} (h : W.ownsRow b1 e1 s1 u n1 ys) (ho : W.ownsRow b e s v n xs) (ht : e1 ≠ e) (hg : W.grownBy w1 v.ownBlock) : w1.ownsRow b1 e1 s1 u n1 ys := by
 refine h.kept hg ?_
 rcases h.2 with ⟨rfl, _⟩ | ⟨g, cap, cur, rfl, _, hg2, _⟩
 ·exact .inl rfl
 ·refine .inr fun e' => ?_
  rcases ho.2 with ⟨rfl, _⟩ | ⟨g', cap', cur', rfl, _, hg3, _⟩
  ·simp [Value.ownBlock] at e'
  ·have : g = g' := by simpa [Value.ownBlock] using e'
   subst this; rw [hg2] at hg3
   injection hg3 with hg3
   injection hg3 with _ h2
   exact ht h2
theorem own_C2 {w : World} {base e c : Nat} {A : Option Addr} {xs : List Sp} (h : w.ownsRow base e 2 (.slice A xs.length c) xs.length (cellsS xs)) (hm : xs.length ≤ 9223372036854775807) : Kd.C kSp w A xs.length xs := by
 obtain ⟨A', c', hv, _, hC⟩ := own_C_Sp h hm
 cases hv
 exact hC
theorem own_cell2 {w : World} {base e c g : Nat} {xs : List Sp} (h : w.ownsRow base e 2 (.slice (some ⟨g, 0, none⟩) xs.length c) xs.length (cellsS xs)) (i : Nat) (hi : i < xs.length) : (w.cell? ⟨g, i * 2, none⟩ = some (.int .i64 (rdS xs i).lo) ∧ w.cell? ⟨g, i * 2 + 1, none⟩ = some (.int .i64 (rdS xs i).hi)) ∧ g < w.heap.size ∧ ∀ o, w.frozen? ⟨g, o, none⟩ = false := by
 obtain ⟨g', cap, hv, _, _, hs⟩ := Sps.ofOwn h (by omega)
 cases hv
 have := hs.cell i hi; rw [show 2 * i = i * 2 by omega] at this; exact ⟨this, hs.lt, hs.frozen⟩
set_option maxRecDepth 100000 in
set_option maxHeartbeats 1000000 in
theorem weights_ (A : Option Addr) (c : Nat) (st : List Sp) (A2 : Option Addr) (c2 : Nat) (wg : List Wg) (w : World) (hG : GL w) (hr : Kd.C kSp w A st.length st) (hc : st.length ≤ c) (hr2 : Kd.C kWg w A2 wg.length wg) (hc2 : wg.length ≤ c2) :
  Calls Tryd.prog 20 #[.agg #[.slice A st.length c, .slice A2 wg.length c2]] w fun e w' => ∃ v, e = .returned (.tuple #[v, .int .i64 (ohE st wg)]) ∧ w'.ownsRow w.heap.size 41 2 v (ohL st wg).length (cellsS (ohL st wg)) ∧ Up w w' := by
 have HR := Aside0.mk hr; have HR2 := Aside0.mk hr2; have HGL := Aside0.mk hG
 have hlen : (ohL st wg).length ≤ 10 := by
  unfold ohL
  split
  ·rename_i h
   have h0 : roadE st wg = 0 := by
    unfold ohE at h
    by_cases h1 : roadE st wg = 0
    ·exact h1
    ·rw [if_neg h1] at h; exact absurd h h1
   have := (road_ok h0).2.2.1; rw [honL_len]; omega
  ·simp
 clear hr hr2 hG; have HU0 : Aside0 (Up w (w.alloc (.cells #[.slice A st.length c, .slice A2 wg.length c2] 25))) := ⟨upA⟩; have hcall := openHonest_ A c st A2 c2 wg (w.alloc (.cells #[.slice A st.length c, .slice A2 wg.length c2] 25)) (HGL.out.up HU0.out) (C_up HR.out HU0.out) hc (C_up HR2.out HU0.out) hc2
 go_enter Tryd.func20, Tryd.ntmps20
 go_wp2_with fail
 generalize (w.alloc (.cells #[.slice A st.length c, .slice A2 wg.length c2] 25)) = W0 at *
 refine hcall.mono ?_; clear hcall; rintro e w1 ⟨v1, rfl, hown, hb⟩; obtain ⟨A5, c5, rfl, hc5, _⟩ := own_C_Sp hown (by omega); have HU1 := Aside0.mk (HU0.out.then hb); have HC5 := Aside0.mk (own_mono hown HU0.out.le); clear hown hb; obtain ⟨i0, hi, hz0, hz1, hz2⟩ := info_parts info_span; obtain ⟨L, hL⟩ : ∃ L, L = ohL st wg := ⟨_, rfl⟩; rw [← hL] at hlen hc5 HC5; have HL := Aside0.mk hL; rw [← hL]; clear hL; go_wp2_with fail
 go_loopw [2, 16] (fun v2 i wr => ∃ k : Nat, k ≤ L.length ∧ i = .int .i64 k ∧ Aside0 (wr.ownsRow w.heap.size 41 2 v2 k (cellsS (L.take k))) ∧ Aside0 (wr.ownsRow w.heap.size 100 2 (.slice A5 L.length c5) L.length (cellsS L)) ∧ Aside0 (Up w wr)) (fun _ i _ => L.length - (intOf i).toNat)
 case atStart => exact ⟨0, Nat.zero_le _, rfl, ⟨⟨by simp [cellsS], .inl ⟨rfl, rfl⟩⟩⟩, ⟨own_up HC5.out upA⟩, ⟨HU1.out.then upA⟩⟩
 case round =>
  obtain ⟨k, hk, rfl, hO, hL5, hU⟩ := hrel
  by_cases hlt : k < L.length
  ·obtain ⟨ad, e, hx0, hx1⟩ := at_Sp (own_C2 hL5.out (by omega)) k (by omega) (by omega)
   cases e
   simp only [Int.toNat_natCast] at hx0 hx1
   have hi0 : (0 : Int) ≤ (k : Int) := by omega
   have hi1 : (k : Int) < (L.length : Int) := by omega
   have hu := Tryd.underlying100
   go_wp2_with fail
   refine (span_ (rdS L k) _).mono ?_; rintro e w2 ⟨rfl, hb⟩; have HU2 := Aside0.mk (((Up.refl wr).alloc (.cells #[.int .i64 (rdS L k).lo, .int .i64 (rdS L k).hi] 100)).then hb); have HO2 := Aside0.mk (own_up hO.out HU2.out)
   clear hb hx0 hx1; have HRC : Aside0 (0 < 1 → ∃ ad', some (⟨w2.heap.size, 0, none⟩ : Addr) = some ad' ∧ ∀ j u, ([.int .i64 (rdS L k).lo, .int .i64 (rdS L k).hi] : List Value)[j]? = some u → (w2.alloc (.cells #[.int .i64 (rdS L k).lo, .int .i64 (rdS L k).hi] 41)).cell? (ad'.add j) = some u) := ⟨fun _ => ⟨_, rfl, fun j u hu => by
    match j, hu with
    | 0, hu => simp at hu; subst hu; simp [go_sem]
    | 1, hu => simp at hu; subst hu; simp [go_sem]⟩⟩
   have HTK : Aside0 (cellsS (L.take (k + 1)) = cellsS (L.take k) ++ [.int .i64 (rdS L k).lo, .int .i64 (rdS L k).hi]) := ⟨by rw [List.take_succ_eq_append_getElem hlt, cellsS_append, rdS_nat L k hlt]; rfl⟩; have hwz : w.heap.size ≤ w2.heap.size := Nat.le_trans hU.out.le HU2.out.le
   go_wp2_with (at_builtin; refine append_all w.heap.size rfl _ _ 22 41 (.agg #[.int .i64 0, .int .i64 0]) 2 16 rfl Tryd.underlying22 info_span rfl (by decide) (by decide) _ k (cellsS (L.take k)) [.int .i64 (rdS L k).lo, .int .i64 (rdS L k).hi] (some ⟨w2.heap.size, 0, none⟩) 1 1 rfl rfl (own_up HO2.out ((Up.refl _).alloc _)) rfl HRC.out ?qc3 ?qc4 ?qc5 ?_)
   case qc3 => intro u hu; simp at hu; rcases hu with rfl | rfl <;> rfl
   case qc4 => simp; omega
   case qc5 => omega
   intro v3 w3 hown hgrow; have HU3 := Aside0.mk ((Up.alloc (hU.out.then HU2.out) (.cells #[.int .i64 (rdS L k).lo, .int .i64 (rdS L k).hi] 41)).grown (own_up HO2.out ((Up.refl _).alloc _)) (Nat.le_refl _) hgrow); have HL3 := Aside0.mk (own_grown (own_up (own_up hL5.out HU2.out) ((Up.refl _).alloc _)) (own_up HO2.out ((Up.refl _).alloc _)) (by decide) hgrow); have HO3 := Aside0.mk hown; clear hown hgrow; go_wp2_with fail
   go_roundw
   case rel => exact ⟨k + 1, by omega, by go_num, ⟨by rw [HTK.out]; exact HO3.out⟩, HL3, HU3⟩
   case measure => simp [intOf]; omega
  ·obtain rfl : k = L.length := by omega
   go_wp2_with fail
   go_ret2
   have h9 := hO.out; rw [List.take_length, HL.out] at h9; exact ⟨_, by simp, h9, hU.out⟩
end Go.Proofs.YtemingmeidmjkaaDoor.Q
namespace Go.Proofs.YtemingmeidmjkaaDoor.Q
open Go.RowKit Go.Shelf Go.Proofs.YtemingmeidmjkaaDoorW.PrintWords Go.Proofs.YtemingmeidmjkaaDoorW.PrintLast
set_option linter.unusedVariables false
set_option linter.unusedSimpArgs false
def bitB (set i : Int) : Bool := decide (Go.bits .and .i64 (shr .i64 set i) 1 = 1)
def cellsW (l : List Wg) : List Value := l.flatMap fun x => [.int .i64 x.p, .int .i64 x.r, .int .i64 x.o]
def keepN (wg : List Wg) (set : Int) (k : Nat) : List Wg := ((List.range k).filter fun (i : Nat) => !bitB set i).map fun (i : Nat) => rdWg wg i
def dropN (set : Int) (k : Nat) : List Int := ((List.range k).filter fun (i : Nat) => bitB set i).map Int.ofNat
theorem keepN_succ (wg : List Wg) (set : Int) (k : Nat) : keepN wg set (k + 1) = keepN wg set k ++ (if bitB set k then [] else [rdWg wg k]) := by
 unfold keepN
 rw [List.range_succ, List.filter_append, List.map_append]
 congr 1
 by_cases h : bitB set k = true <;> simp [h]
theorem dropN_succ (set : Int) (k : Nat) : dropN set (k + 1) = dropN set k ++ (if bitB set k then [(k : Int)] else []) := by
 unfold dropN
 rw [List.range_succ, List.filter_append, List.map_append]
 congr 1
 by_cases h : bitB set k = true <;> simp [h]
theorem keepN_len (wg : List Wg) (set : Int) (k : Nat) : (keepN wg set k).length ≤ k := by
 unfold keepN
 rw [List.length_map]; exact Nat.le_trans (List.length_filter_le _ _) (by simp)
theorem dropN_len (set : Int) (k : Nat) : (dropN set k).length ≤ k := by
 unfold dropN
 rw [List.length_map]; exact Nat.le_trans (List.length_filter_le _ _) (by simp)
theorem info_wg : (Tryd.prog.info? 80).map (fun i => (i.zero, i.size, i.bytes)) = some (some (.agg #[.int .i64 0, .int .i64 0, .int .i64 0]), 3, 24) := by kernel_rfl
theorem cellsW_append (l m : List Wg) : cellsW (l ++ m) = cellsW l ++ cellsW m := by simp [cellsW]
set_option maxRecDepth 100000 in
set_option maxHeartbeats 1000000 in
theorem without_ (A : Option Addr) (n c : Nat) (A2 : Option Addr) (c2 : Nat) (wg : List Wg) (set : Int) (w : World) (hr2 : Kd.C kWg w A2 wg.length wg) (hc2 : wg.length ≤ c2) (hl : wg.length ≤ 63) :
  Calls Tryd.prog 77 #[.agg #[.slice A n c, .slice A2 wg.length c2], .int .i64 set] w fun e w' => ∃ A1 c1 v2, e = .returned (.tuple #[.agg #[.slice A n c, .slice A1 (keepN wg set wg.length).length c1], v2]) ∧ w'.ownsRow w.heap.size 80 3 (.slice A1 (keepN wg set wg.length).length c1) (keepN wg set wg.length).length (cellsW (keepN wg set wg.length)) ∧ w'.ownsRow w.heap.size 3 1 v2 (dropN set wg.length).length (nums .i64 (dropN set wg.length)) ∧ (dropN set wg.length = [] → v2 = .slice none 0 0) ∧ Up w w' := by
 have HR2 := Aside0.mk hr2; clear hr2; have HB2 : Aside0 (Bx ((w.alloc (.cells #[.slice A n c, .slice A2 wg.length c2] 95)).alloc (.cells #[.slice A n c, .slice none 0 0] 95)) w.heap.size #[.slice A n c, .slice A2 wg.length c2] 95) := ⟨(Bx.new w _ _).up upA⟩; have HB4 : Aside0 (Bx ((w.alloc (.cells #[.slice A n c, .slice A2 wg.length c2] 95)).alloc (.cells #[.slice A n c, .slice none 0 0] 95)) (w.heap.size + 1) #[.slice A n c, .slice none 0 0] 95) := ⟨by have h9 := Bx.new (w.alloc (.cells #[.slice A n c, .slice A2 wg.length c2] 95)) #[.slice A n c, .slice none 0 0] 95; simpa using h9⟩; have HU0 : Aside0 (Up w ((w.alloc (.cells #[.slice A n c, .slice A2 wg.length c2] 95)).alloc (.cells #[.slice A n c, .slice none 0 0] 95))) := ⟨upA⟩; obtain ⟨i0, hi, hz0, hz1, hz2⟩ := info_parts info_int; obtain ⟨i1, hj, hy0, hy1, hy2⟩ := info_parts info_wg
 go_enter Tryd.func77, Tryd.ntmps77
 go_wp2_with fail
 go_loopw [5, 17] (fun v5 i wr => ∃ (k : Nat) (A1 : Option Addr) (c1 : Nat), k ≤ wg.length ∧ i = .int .i64 (k : Int) ∧ Aside0 (wr.ownsRow w.heap.size 3 1 v5 (dropN set k).length (nums .i64 (dropN set k))) ∧ Aside0 (dropN set k = [] → v5 = .slice none 0 0) ∧ Aside0 (wr.ownsRow w.heap.size 80 3 (.slice A1 (keepN wg set k).length c1) (keepN wg set k).length (cellsW (keepN wg set k))) ∧ Aside0 (Bx wr (w.heap.size + 1) #[.slice A n c, .slice A1 (keepN wg set k).length c1] 95) ∧ Aside0 (Up w wr)) (fun _ i _ => wg.length - (intOf i).toNat)
 case atStart => exact ⟨0, none, 0, Nat.zero_le _, rfl, ⟨⟨by simp [dropN, nums], .inl ⟨rfl, rfl⟩⟩⟩, ⟨fun _ => rfl⟩, ⟨⟨by simp [keepN, cellsW], .inl ⟨rfl, rfl⟩⟩⟩, HB4, HU0⟩
 case round =>
  clear HB2 HB4 HU0; obtain ⟨k, A1, c1, hk, rfl, hO, hE, hW, hB, hU⟩ := hrel
  by_cases hlt : k < wg.length
  ·obtain ⟨ad, e, hx0, hx1, hx2⟩ := at_Wg (C_up HR2.out hU.out) k (by omega) (by omega)
   cases e
   simp only [Int.toNat_natCast] at hx0 hx1 hx2
   have hk0 : (0 : Int) ≤ (k : Int) := by omega
   have hk1 : (k : Int) < (wg.length : Int) := by omega
   have hwk : IntKind.i64.wrap ((k : Int) + 1) = (k : Int) + 1 := IntWalk.i64_in _ (by omega); have hqb := hB.out.cell; have hfb := hB.out.frozen
   have hmin : min k IntKind.i64.bits = k := by show min k 64 = k; omega
   cases hbit : bitB set k
   ·have hbt : (Go.bits .and .i64 (set / 2 ^ k) 1 == 1) = false := by simpa [bitB, shr, hmin] using hbit
    have hqc : ∀ (C : Obj) o, (wr.alloc C).cell? ⟨w.heap.size + 1, o, none⟩ = (#[.slice A n c, .slice A1 (keepN wg set k).length c1] : Array Value)[o]? := fun C o => (hB.out.up ((Up.refl wr).alloc C)).cell o
    have HKW : Aside0 (keepN wg set (k + 1) = keepN wg set k ++ [rdWg wg k]) := ⟨by rw [keepN_succ, hbit]; simp⟩; have HKD : Aside0 (dropN set (k + 1) = dropN set k) := ⟨by rw [dropN_succ, hbit]; simp⟩; have hkl := keepN_len wg set k; clear hbit hmin; obtain ⟨x, hx⟩ : ∃ x, x = rdWg wg k := ⟨_, rfl⟩; rw [← hx] at hx0 hx1 hx2 HKW; clear hx; have HUA : Aside0 (Up wr ((wr.alloc (.cells #[.int .i64 x.p, .int .i64 x.r, .int .i64 x.o] 80)).alloc (.cells #[.int .i64 x.p, .int .i64 x.r, .int .i64 x.o] 80))) := ⟨upA⟩; have HOA := Aside0.mk (own_up hW.out HUA.out); have HOD := Aside0.mk (own_up hO.out HUA.out); have HBA := Aside0.mk (hB.out.up HUA.out)
    have HRC : Aside0 (0 < 1 → ∃ ad', some (⟨wr.heap.size + 1, 0, none⟩ : Addr) = some ad' ∧ ∀ j u, ([.int .i64 x.p, .int .i64 x.r, .int .i64 x.o] : List Value)[j]? = some u → ((wr.alloc (.cells #[.int .i64 x.p, .int .i64 x.r, .int .i64 x.o] 80)).alloc (.cells #[.int .i64 x.p, .int .i64 x.r, .int .i64 x.o] 80)).cell? (ad'.add j) = some u) := ⟨fun _ => ⟨_, rfl, fun j u hu => by
     match j, hu with
     | 0, hu => simp at hu; subst hu; simp [go_sem]
     | 1, hu => simp at hu; subst hu; simp [go_sem]
     | 2, hu => simp at hu; subst hu; simp [go_sem]⟩⟩
    go_wp2_with (at_builtin; refine append_all w.heap.size rfl _ _ 23 80 (.agg #[.int .i64 0, .int .i64 0, .int .i64 0]) 3 24 rfl Tryd.underlying23 info_wg rfl (by decide) (by decide) _ (keepN wg set k).length (cellsW (keepN wg set k)) [.int .i64 x.p, .int .i64 x.r, .int .i64 x.o] (some ⟨wr.heap.size + 1, 0, none⟩) 1 1 rfl rfl HOA.out rfl HRC.out ?qa3 ?qa4 ?qa5 ?_)
    case qa3 => intro u hu; simp at hu; rcases hu with rfl | rfl | rfl <;> rfl
    case qa4 => exact (hU.out.then HUA.out).le
    case qa5 => omega
    intro v3 w3 hown hgrow; have HU3 := Aside0.mk ((hU.out.then HUA.out).grown HOA.out (Nat.le_refl _) hgrow); have HB3 := Aside0.mk (HBA.out.grown HOA.out (by decide) hgrow); have HD3 := Aside0.mk (own_grown HOD.out HOA.out (by decide) hgrow); have HO3 := Aside0.mk hown; obtain ⟨A4, c4, rfl, _, _⟩ := ownF_slice hown; clear hown hgrow hqb hfb; have hqb := HB3.out.cell; have hfb := HB3.out.frozen
    go_wp2_with fail
    go_roundw
    case rel =>
     refine ⟨k + 1, A4, c4, by omega, by go_num, ⟨by rw [HKD.out]; exact own_far HD3.out HB3.out (by decide) 1 _⟩, ⟨by rw [HKD.out]; exact hE.out⟩, ⟨?_⟩, ⟨?_⟩, ⟨HU3.out.set _ _ (by simp)⟩⟩
     ·rw [HKW.out, cellsW_append, List.length_append]
      exact own_far HO3.out HB3.out (by decide) 1 _
     ·rw [HKW.out, List.length_append]
      exact HB3.out.set 1 _
    case measure => simp [intOf]; omega
   ·have hbt : (Go.bits .and .i64 (set / 2 ^ k) 1 == 1) = true := by simpa [bitB, shr, hmin] using hbit
    have HKW : Aside0 (keepN wg set (k + 1) = keepN wg set k) := ⟨by rw [keepN_succ, hbit]; simp⟩; have HKD : Aside0 (dropN set (k + 1) = dropN set k ++ [(k : Int)]) := ⟨by rw [dropN_succ, hbit]; simp⟩; have hkl := dropN_len set k; clear hbit hmin; obtain ⟨x, hx⟩ : ∃ x, x = rdWg wg k := ⟨_, rfl⟩; rw [← hx] at hx0 hx1 hx2; clear hx; have HUA : Aside0 (Up wr ((wr.alloc (.cells #[.int .i64 x.p, .int .i64 x.r, .int .i64 x.o] 80)).alloc (.cells #[.int .i64 (k : Int)] 3))) := ⟨upA⟩; have HOA := Aside0.mk (own_up hO.out HUA.out); have HOW := Aside0.mk (own_up hW.out HUA.out); have HBA := Aside0.mk (hB.out.up HUA.out)
    have HRC : Aside0 (0 < 1 → ∃ ad', some (⟨wr.heap.size + 1, 0, none⟩ : Addr) = some ad' ∧ ∀ j u, ([.int .i64 (k : Int)] : List Value)[j]? = some u → ((wr.alloc (.cells #[.int .i64 x.p, .int .i64 x.r, .int .i64 x.o] 80)).alloc (.cells #[.int .i64 (k : Int)] 3)).cell? (ad'.add j) = some u) := ⟨fun _ => ⟨_, rfl, fun j u hu => by
     match j, hu with
     | 0, hu => simp at hu; subst hu; simp [go_sem]⟩⟩
    go_wp2_with (at_builtin; refine append_all w.heap.size rfl _ _ 45 3 (.int .i64 0) 1 8 rfl Tryd.underlying45 info_int rfl (by decide) (by decide) _ (dropN set k).length (nums .i64 (dropN set k)) [.int .i64 (k : Int)] (some ⟨wr.heap.size + 1, 0, none⟩) 1 1 rfl rfl HOA.out rfl HRC.out ?qb3 ?qb4 ?qb5 ?_)
    case qb3 => intro u hu; simp at hu; subst hu; rfl
    case qb4 => exact (hU.out.then HUA.out).le
    case qb5 => omega
    intro v3 w3 hown hgrow; have HU3 := Aside0.mk ((hU.out.then HUA.out).grown HOA.out (Nat.le_refl _) hgrow); have HB3 := Aside0.mk (HBA.out.grown HOA.out (by decide) hgrow); have HW3 := Aside0.mk (own_grown HOW.out HOA.out (by decide) hgrow); have HO3 := Aside0.mk hown; clear hown hgrow hqb hfb; go_wp2_with fail
    go_roundw
    case rel =>
     refine ⟨k + 1, A1, c1, by omega, by go_num, ⟨?_⟩, ⟨by rw [HKD.out]; intro h; simp at h⟩, ⟨by rw [HKW.out]; exact HW3.out⟩, ⟨by rw [HKW.out]; exact HB3.out⟩, HU3⟩; rw [HKD.out, List.length_append]; have h9 := HO3.out
     simpa [nums] using h9
    case measure => simp [intOf]; omega
  ·obtain rfl : k = wg.length := by omega
   have hqb := hB.out.cell; have hfb := hB.out.frozen
   go_wp2_with fail
   have HU4 := Aside0.mk ((hU.out.set ⟨w.heap.size + 1, 0, none⟩ (.slice A n c) (by simp)).set ⟨w.heap.size + 1, 1, none⟩ (.slice A1 (keepN wg set wg.length).length c1) (by simp)); have HB4 := Aside0.mk ((hB.out.set 0 (.slice A n c)).set 1 (.slice A1 (keepN wg set wg.length).length c1)); have HW4 := Aside0.mk (own_far (own_far hW.out hB.out (by decide) 0 (.slice A n c)) (hB.out.set 0 (.slice A n c)) (by decide) 1 (.slice A1 (keepN wg set wg.length).length c1)); have HD4 := Aside0.mk (own_far (own_far hO.out hB.out (by decide) 0 (.slice A n c)) (hB.out.set 0 (.slice A n c)) (by decide) 1 (.slice A1 (keepN wg set wg.length).length c1)); have hq5 := HB4.out.cell; refine bodyPost_ret (v := .tuple #[.agg #[.slice A n c, .slice A1 (keepN wg set wg.length).length c1], u5]) ?_ rfl ⟨A1, c1, u5, rfl, HW4.out, HD4.out, hE.out, HU4.out⟩; clear hqb hfb; simp [results, Tryd.results77, go_sem, hq5]
end Go.Proofs.YtemingmeidmjkaaDoor.Q
namespace Go.Proofs.YtemingmeidmjkaaDoor.Q
open Go.RowKit Go.Shelf Go.Proofs.YtemingmeidmjkaaDoorW.PrintWords Go.Proofs.YtemingmeidmjkaaDoorW.PrintLast
set_option linter.unusedVariables false
set_option linter.unusedSimpArgs false
def hasB (x : Int) (l : List Int) : Bool := l.any fun y => decide (x = y)
theorem hasB_iff (x : Int) (l : List Int) : hasB x l = true ↔ x ∈ l := by
 simp [hasB, List.any_eq_true]
set_option maxRecDepth 100000 in
theorem idx_ (x : Int) (A : Option Addr) (c : Nat) (l : List Int) (w : World) (hr : Kd.C (Kd.int .i64) w A l.length l) (hc : l.length ≤ c) :
  Calls Tryd.prog 109 #[.slice A l.length c, .int .i64 x] w fun e w' => e = .returned (.int .i64 (idxF (fun y => decide (x = y)) l 0)) ∧ Up w w' := by
 have HR := Aside0.mk hr; have hm := CF_len hr; clear hr; go_enter Tryd.func109, Tryd.ntmps109
 go_wp2
 go_loopw [8] (fun i wr => ∃ k : Nat, k ≤ l.length ∧ i = .int .i64 k ∧ Aside0 (idxF (fun y => decide (x = y)) l 0 = idxF (fun y => decide (x = y)) (l.drop k) k) ∧ Aside0 (Up w wr)) (fun i _ => l.length - (intOf i).toNat)
 case atStart => exact ⟨0, Nat.zero_le _, rfl, ⟨rfl⟩, ⟨Up.refl _⟩⟩
 case round =>
  obtain ⟨k, hk, rfl, he, hb⟩ := hrel
  by_cases hlt : k < l.length
  ·obtain ⟨ad, e, hx0⟩ := Kd.at_int (C_up HR.out hb.out) k (by omega) (by omega)
   cases e
   simp only [Int.toNat_natCast] at hx0
   have hi1 : (k : Int) < (l.length : Int) := by omega
   have hwk : IntKind.i64.wrap ((k : Int) + 1) = (k : Int) + 1 := IntWalk.i64_in _ (by omega); have he2 := idx_int_drop (fun y => decide (x = y)) l k hlt; have he3 := Aside0.mk (he.out.trans he2); clear he he2
   by_cases hp : x = rd l k
   ·have he4 : Aside0 (idxF (fun y => decide (x = y)) l 0 = (k : Int)) := ⟨by rw [he3.out]; simp [hp]⟩
    have hpb : (x == rd l k) = true := by simp [hp]
    clear hp; go_wp2_with fail
    go_ret
    exact ⟨by rw [he4.out]; rfl, hb.out⟩
   ·have he4 : Aside0 (idxF (fun y => decide (x = y)) l 0 = idxF (fun y => decide (x = y)) (l.drop (k + 1)) (k + 1)) := ⟨by rw [he3.out]; simp [hp]⟩
    have hpb : (x == rd l k) = false := by simp [hp]
    clear hp; go_wp2_with fail
    go_roundw
    case rel => exact ⟨k + 1, by omega, by go_num, ⟨he4.out⟩, hb⟩
    case measure => simp [intOf]; omega
  ·go_wp2_with fail
   go_ret
   exact ⟨by rw [he.out, List.drop_eq_nil_of_le (by omega)]; rfl, hb.out⟩
theorem has_ (x : Int) (A : Option Addr) (c : Nat) (l : List Int) (w : World) (hr : Kd.C (Kd.int .i64) w A l.length l) (hc : l.length ≤ c) :
  Calls Tryd.prog 88 #[.slice A l.length c, .int .i64 x] w fun e w' => e = .returned (.bool (hasB x l)) ∧ Up w w' := by
 have hcall := idx_ x A c l w hr hc; clear hr; have HD : Aside0 (decide (0 ≤ idxF (fun y => decide (x = y)) l 0) = hasB x l) := ⟨idxF_any _ l⟩
 go_enter Tryd.func88, Tryd.ntmps88
 go_wp2_with fail
 refine hcall.mono ?_; clear hcall; rintro e w' ⟨rfl, hb'⟩; have hb2 := Aside0.mk hb'; clear hb'; go_wp2
 go_ret
 exact ⟨ret_bool HD.out, hb2.out⟩
theorem com2_ (s : Int) (b : Nat) (A : Option Addr) (c : Nat) (l : List Int) (w : World) (hb : Bx w b #[.slice A l.length c] 45) (hr : Kd.C (Kd.int .i64) w A l.length l) (hc : l.length ≤ c) :
  Calls Tryd.prog 87 #[.int .i64 s, .pointer (some ⟨b, 0, none⟩)] w fun e w' => e = .returned (.bool (!hasB s l)) ∧ Up w w' := by
 have hcall := has_ s A c l w hr hc; have hq := hb.cell; clear hr hb; go_enter Tryd.func87, Tryd.ntmps87
 go_wp2_with fail
 refine hcall.mono ?_; clear hcall; rintro e w' ⟨rfl, hb'⟩; have hb2 := Aside0.mk hb'; clear hb' hq; go_wp2
 go_ret
 exact ⟨rfl, hb2.out⟩
theorem up_grown {w w' : World} (h : Up w w') (row : Option Nat) : w.grownBy w' row := ⟨h.os, h.tape, h.output, h.size, fun k hk _ => h.block k hk⟩
theorem grown_set {w : World} (g o : Nat) (u : Value) : w.grownBy (w.setCell ⟨g, o, none⟩ u) (some g) := by
 have hb0 := Below.setCell (B := 0) (Below.refl 0 w) (p := ⟨g, o, none⟩) (Nat.zero_le _) u; exact ⟨hb0.os, hb0.tape, hb0.output, hb0.size, fun k _ hk => Below.heap_setCell w ⟨g, o, none⟩ u k (fun e => hk (by rw [e]))⟩
theorem setCells_keeps (g i : Nat) (e : TypeId) (d : Nat × Nat) : ∀ (xs : List Value) (o : Nat) (w : World) (cur : Array Value), i ≤ o → w.heap[g]? = some (.cells cur e d) →
  ∃ cur', (w.setCells g o xs).heap[g]? = some (.cells cur' e d) ∧ cur'.size = cur.size ∧ cur'.toList.take i = cur.toList.take i ∧ w.grownBy (w.setCells g o xs) (some g)
 | [], o, w, cur, _, h => ⟨cur, h, rfl, rfl, rfl, rfl, rfl, Nat.le_refl _, fun _ _ _ => rfl⟩
 | x :: xs, o, w, cur, hi, h => by
  have h1 : (w.setCell ⟨g, o, none⟩ x).heap[g]? = some (.cells (cur.setIfInBounds o x) e d) := by
   unfold World.setCell
   dsimp only
   rw [Array.getElem?_modify, if_pos rfl, h]; rfl
  obtain ⟨cur', h2, h3, h4, h5⟩ := setCells_keeps g i e d xs (o + 1) _ _ (by omega) h1; refine ⟨cur', h2, by rw [h3]; simp, ?_, (grown_set g o x).trans h5⟩; rw [h4]
  apply List.ext_getElem?
  intro j; rw [List.getElem?_take, List.getElem?_take]
  by_cases hj : j < i
  ·rw [if_pos hj, if_pos hj, Array.getElem?_toList, Array.getElem?_toList, Array.getElem?_setIfInBounds_ne (by omega)]
  ·rw [if_neg hj, if_neg hj]
theorem own_clear {w : World} {base e n cap g : Nat} {m : List Int} (h : w.ownsRow base e 1 (.slice (some ⟨g, 0, none⟩) n cap) n (nums .i64 m)) (hn : n = m.length) (i : Nat) (hi : i ≤ n) (xs : List Value) :
  (w.setCells g i xs).ownsRow base e 1 (.slice (some ⟨g, 0, none⟩) i cap) i (nums .i64 (m.take i)) ∧ w.grownBy (w.setCells g i xs) (some g) := by
 rcases h.2 with ⟨h0, _⟩ | ⟨g', cap', cur, hv, hb, hg, hcap, hm, hsz, htk⟩
 ·cases h0
 ·cases hv
  obtain ⟨cur', h2, h3, h4, h5⟩ := setCells_keeps g i e (0, 0) xs i w cur (Nat.le_refl _) hg; refine ⟨⟨by simp [nums]; omega, .inr ⟨g, cap, cur', rfl, hb, h2, by omega, hm, by rw [h3]; exact hsz, ?_⟩⟩, h5⟩; rw [Nat.mul_one] at htk ⊢; rw [h4]
  have e1 : cur.toList.take i = (cur.toList.take n).take i := by rw [List.take_take, Nat.min_eq_left hi]
  rw [e1, htk]
  simp [nums, List.map_take]
theorem own_lt {w : World} {base e s n : Nat} {v : Value} {xs : List Value} (h : w.ownsRow base e s v n xs) {k : Nat} (hk : v.ownBlock = some k) : base ≤ k ∧ k < w.heap.size := by
 rcases h.2 with ⟨rfl, _⟩ | ⟨g, cap, cur, rfl, hb, hg, _⟩
 ·simp [Value.ownBlock] at hk
 ·have : g = k := by simpa [Value.ownBlock] using hk
  subst this; exact ⟨hb, (Array.getElem?_eq_some_iff.1 hg).1⟩
def dlI (p : Int → Bool) (l : List Int) (j : Nat) : List Int := (l.take j).filter fun x => !p x
theorem dlI_succ (p : Int → Bool) (l : List Int) (j : Nat) (h : j < l.length) : dlI p l (j + 1) = dlI p l j ++ (if p (rd l j) then [] else [rd l j]) := by
 have e : l[j] = rd l j := by simp [rd, h]
 unfold dlI
 rw [List.take_succ_eq_append_getElem h, List.filter_append, e]
 congr 1
 cases h1 : p (rd l j) <;> simp [h1]
theorem idxF_spec (p : Int → Bool) : ∀ (l : List Int) (k : Nat), (idxF p l k = -1 ∧ ∀ x ∈ l, p x = false) ∨ ∃ i : Nat, i < l.length ∧ idxF p l k = ((k + i : Nat) : Int) ∧ p (rd l i) = true ∧ ∀ j : Nat, j < i → p (rd l j) = false
 | [], k => .inl ⟨rfl, by simp⟩
 | x :: l, k => by
  cases h : p x
  ·rcases idxF_spec p l (k + 1) with ⟨h1, h2⟩ | ⟨i, h1, h2, h3, h4⟩
   ·exact .inl ⟨by rw [idxF, h]; simpa using h1, by simpa [h] using h2⟩
   ·refine .inr ⟨i + 1, by simp; omega, by rw [idxF, h]; simp only [Bool.false_eq_true, if_false]; rw [h2]; omega, by simpa [rd] using h3, fun j hj => ?_⟩
    match j with
    | 0 => simpa [rd] using h
    | j + 1 => have := h4 j (by omega); simpa [rd] using this
  ·exact .inr ⟨0, by simp, by rw [idxF, h]; simp, by simpa [rd] using h, fun j hj => by omega⟩
theorem zero_int (w : World) : (zeroValue 3).run Tryd.prog w = .ok (.int .i64 0) w := by kernel_rfl
theorem dl_keep {l m : List Int} {p : Int → Bool} {i j : Nat} (hm : m.length = l.length) (hi : i = (dlI p l j).length) (h1 : m.take i = dlI p l j) (h2 : m.drop j = l.drop j) (hij : i < j) (hj : j < l.length) :
  rd m j = rd l j ∧ (p (rd l j) = false → (m.set i (rd l j)).length = l.length ∧ i + 1 = (dlI p l (j + 1)).length ∧ (m.set i (rd l j)).take (i + 1) = dlI p l (j + 1) ∧ (m.set i (rd l j)).drop (j + 1) = l.drop (j + 1)) ∧
  (p (rd l j) = true → i = (dlI p l (j + 1)).length ∧ m.take i = dlI p l (j + 1) ∧ m.drop (j + 1) = l.drop (j + 1)) := by
 have hd : m.drop (j + 1) = l.drop (j + 1) := by
  have := congrArg (List.drop 1) h2
  rwa [List.drop_drop, List.drop_drop] at this
 refine ⟨?_, fun hp => ?_, fun hp => ?_⟩
 ·have := congrArg (fun z => z[0]?) h2
  simp only [List.getElem?_drop, Nat.add_zero] at this
  simp [rd, List.getD_eq_getElem?_getD, this]
 ·have hs := dlI_succ p l j hj
  rw [hp] at hs; simp only [Bool.false_eq_true, if_false] at hs; refine ⟨by simp [hm], by rw [hs, List.length_append]; simp; omega, ?_, ?_⟩
  ·rw [hs, ← h1]
   apply List.ext_getElem?
   intro t; rw [List.getElem?_take, List.getElem?_append, List.length_take, List.getElem?_set]
   by_cases ht : t < i
   ·rw [if_pos (by omega), if_neg (by omega), if_pos (by omega), List.getElem?_take, if_pos ht]
   ·by_cases ht2 : t = i
    ·subst ht2
     rw [if_pos (by omega), if_pos rfl, if_pos (by omega), if_neg (by omega)]
     simp [show t - min t m.length = 0 by omega]
    ·rw [if_neg (by omega), if_neg (by omega), List.getElem?_eq_none]
     simp; omega
  ·rw [← hd]
   apply List.ext_getElem?
   intro t; rw [List.getElem?_drop, List.getElem?_drop, List.getElem?_set_ne (by omega)]
 ·have hs := dlI_succ p l j hj
  rw [hp] at hs; simp only [if_true, List.append_nil] at hs; exact ⟨by rw [hs]; exact hi, by rw [hs]; exact h1, hd⟩
set_option maxRecDepth 100000 in
set_option maxHeartbeats 1000000 in
theorem delete_ (fv : FuncId) (cap : Array Value) (p : Int → Bool) (base : Nat) (v : Value) (l : List Int) (w : World) (ho : w.ownsRow base 3 1 v l.length (nums .i64 l)) (hm : l.length ≤ 1000)
  (hE : ∀ (args : Array Value) (w : World), (callFunc fv args).run Tryd.prog w = .ok (.enter fv args) w)
  (hf : ∀ x W, w.grownBy W v.ownBlock → Calls Tryd.prog fv (#[.int .i64 x] ++ cap) W fun e W' => e = .returned (.bool (p x)) ∧ Up W W') :
  Calls Tryd.prog 86 #[v, .func (.func fv) #[] cap] w fun e w' => ∃ v', e = .returned v' ∧ w'.ownsRow base 3 1 v' (l.filter fun x => !p x).length (nums .i64 (l.filter fun x => !p x)) ∧ w.grownBy w' v.ownBlock := by
 obtain ⟨A, c, rfl, hc, hC⟩ := own_C_int ho (by omega); have hi := index_int fv cap p A c l w hC hc hE (fun x W hu => hf x W (up_grown hu _)); have HO := Aside0.mk ho; have HF := Aside0.mk hf; clear ho hf hC; go_enter Tryd.func86, Tryd.ntmps86
 go_wp2_with fail
 refine hi.mono ?_; clear hi; rintro e w1 ⟨rfl, hu⟩; have HU := Aside0.mk hu; clear hu
 rcases idxF_spec p l 0 with ⟨h1, h2⟩ | ⟨k, h1, h2, h3, h4⟩
 ·rw [h1]
  have HL : Aside0 ((l.filter fun x => !p x) = l) := ⟨List.filter_eq_self.2 (fun x hx => by rw [h2 x hx]; rfl)⟩; clear h1 h2; go_wp2_with fail
  go_ret
  exact ⟨_, rfl, by rw [HL.out]; exact own_up HO.out HU.out, up_grown HU.out _⟩
 ·rw [h2, Nat.zero_add]
  have HS : Aside0 (dlI p l (k + 1) = l.take k) := ⟨by
   rw [dlI_succ p l k h1, h3]; simp only [if_true, List.append_nil]
   exact List.filter_eq_self.2 (fun x hx => by
    obtain ⟨i, hi1, hi2⟩ := List.getElem_of_mem hx; simp only [List.length_take] at hi1; rw [List.getElem_take] at hi2; have := h4 i (by omega)
    have e1 : rd l i = x := by rw [← hi2]; simp [rd, show i < l.length by omega]
    rw [e1] at this
    rw [this]; rfl)⟩
  have hne : ((k : Int) == -1) = false := beq_eq_false_iff_ne.2 (by omega)
  obtain ⟨g, rfl⟩ : ∃ g, A = some ⟨g, 0, none⟩ := by
   obtain ⟨A0, c0, hv0, _, hg0⟩ := ownF_slice HO.out; obtain ⟨g, cur, hg, _⟩ := hg0 (by omega)
   cases hv0
   exact ⟨g, hg⟩
  have hwk : IntKind.i64.wrap ((k : Int) + 1) = (k : Int) + 1 := IntWalk.i64_in _ (by omega); have HLK : Aside0 (k = (dlI p l (k + 1)).length) := ⟨by rw [HS.out]; simp; omega⟩; clear h2 h3 h4; go_wp2_with fail
  go_loopw [5, 6] (fun v5 v6 wr => ∃ (i j : Nat) (m : List Int), v5 = .int .i64 (i : Int) ∧ v6 = .int .i64 (j : Int) ∧ i < j ∧ j ≤ l.length ∧ m.length = l.length ∧ Aside0 (wr.ownsRow base 3 1 (.slice (some ⟨g, 0, none⟩) l.length c) m.length (nums .i64 m)) ∧ Aside0 (i = (dlI p l j).length ∧ m.take i = dlI p l j ∧ m.drop j = l.drop j) ∧ Aside0 (w.grownBy wr (some g))) (fun _ v6 _ => l.length - (intOf v6).toNat)
  case atStart => exact ⟨k, k + 1, l, rfl, by go_num, by omega, by omega, rfl, ⟨own_up HO.out HU.out⟩, ⟨HLK.out, by rw [HS.out], rfl⟩, ⟨up_grown HU.out _⟩⟩
  case round =>
   clear hwk hne h1; obtain ⟨i, j, m, rfl, rfl, hij, hj, hml, hO, hI, hG⟩ := hrel
   by_cases hlt : j < l.length
   ·have hlt2 : (j : Int) < (l.length : Int) := by omega
    have hi2 : (i : Int) < (l.length : Int) := by omega
    have hwk : IntKind.i64.wrap ((j : Int) + 1) = (j : Int) + 1 := IntWalk.i64_in _ (by omega); have hwi : IntKind.i64.wrap ((i : Int) + 1) = (i : Int) + 1 := IntWalk.i64_in _ (by omega); have HK := Aside0.mk (dl_keep hml hI.out.1 hI.out.2.1 hI.out.2.2 hij hlt); rw [← hml] at hO; obtain ⟨g1, c1, hv1, _, _, hcj, hfj, _, _⟩ := own_put hO.out j (by omega)
    cases hv1
    rw [HK.out.1] at hcj; have hcl := HF.out (rd l j) wr hG.out; clear hfj; go_wp2_with fail; refine hcl.mono ?_; clear hcl hcj; rintro e w3 ⟨rfl, hu⟩; have HO3 := Aside0.mk (own_up hO.out hu); have HG3 := Aside0.mk (hG.out.trans (up_grown hu (some g))); clear hu
    cases hp : p (rd l j)
    ·obtain ⟨e1, e2, e3, e4⟩ := HK.out.2.1 hp
     obtain ⟨g1, c1, hv1, _, _, hcj, hfj, _, hset⟩ := own_put HO3.out i (by omega)
     cases hv1
     have HST := Aside0.mk (hset (rd l j)); have HE1 := Aside0.mk e1; have HE2 := Aside0.mk e2; have HE3 := Aside0.mk e3; have HE4 := Aside0.mk e4; clear hset hp e1 e2 e3 e4; go_wp2_with fail
     go_roundw
     case rel => exact ⟨i + 1, j + 1, m.set i (rd l j), by go_num, by go_num, by omega, by omega, HE1.out, ⟨by have h9 := HST.out; rw [hml] at h9; exact h9⟩, ⟨HE2.out, HE3.out, HE4.out⟩, ⟨HG3.out.trans (grown_set g i _)⟩⟩
     case measure => simp [intOf]; omega
    ·have HE2 := Aside0.mk (HK.out.2.2 hp)
     clear hp; go_wp2_with fail
     go_roundw
     case rel => exact ⟨i, j + 1, m, rfl, by go_num, by omega, by omega, hml, ⟨by have h9 := HO3.out; rw [hml] at h9 ⊢; exact h9⟩, ⟨HE2.out⟩, HG3⟩
     case measure => simp [intOf]; omega
   ·obtain rfl : j = l.length := by omega
    have HFL : Aside0 ((l.filter fun x => !p x) = m.take i) := ⟨by rw [hI.out.2.1]; simp [dlI]⟩; have HO2 : Aside0 (wr.ownsRow base 3 1 (.slice (some ⟨g, 0, none⟩) m.length c) m.length (nums .i64 m)) := ⟨by have h9 := hO.out; rw [hml] at h9 ⊢; exact h9⟩
    have hcf : ∀ t, t < l.length → (wr.cell? ⟨g, t, none⟩).isSome = true ∧ wr.frozen? ⟨g, t, none⟩ = false := fun t ht => by
     obtain ⟨g1, c1, hv1, _, _, h5, h6, _, _⟩ := own_put HO2.out t (by omega)
     cases hv1
     exact ⟨by rw [h5]; rfl, h6⟩
    have hcl : ∀ ty, (Builtin.clear_ #[45] ty #[.slice (some ⟨g, i, none⟩) (l.length - i) (c - i)]).run Tryd.prog wr = .ok (.tuple #[]) (wr.setCells g i (List.replicate (l.length - i) (.int .i64 0))) :=
     fun ty => Lib.run_clear_slice wr 45 3 ty _ Tryd.underlying45 zero_int rfl rfl g i _ _ (by omega) (fun t ht => (hcf (i + t) (by omega)).1) (fun t ht => (hcf (i + t) (by omega)).2)
    have HCL := Aside0.mk (own_clear HO2.out rfl i (by omega) (List.replicate (l.length - i) (.int .i64 0)))
    have hil : i ≤ l.length := by omega
    have hic : i ≤ c := by omega
    have hlen : (m.take i).length = i := by simp; omega
    have HLN := Aside0.mk hlen; clear hcf hlen hO; go_wp2_with fail
    go_ret
    exact ⟨_, rfl, by rw [HFL.out, HLN.out]; exact HCL.out.1, hG.out.trans HCL.out.2⟩
end Go.Proofs.YtemingmeidmjkaaDoor.Q
namespace Go.Proofs.YtemingmeidmjkaaDoor.Q
open Go.RowKit Go.Shelf Go.Proofs.YtemingmeidmjkaaDoorW.PrintWords Go.Proofs.YtemingmeidmjkaaDoorW.PrintLast
open Go.WideElems (Fit rd rg pl rd_key rd_val rg_of)
set_option linter.unusedVariables false
set_option linter.unusedSimpArgs false
attribute [local go_sem] bi_max2 bi_min2 bi_max_two bi_min_two
def eS (s : Sp) : Value := .agg #[.int .i64 s.lo, .int .i64 s.hi]
def dS (s : Sp) : DataW Unit := .agg [.lit (.int .i64 s.lo), .lit (.int .i64 s.hi)]
theorem dS_inj {s t : Sp} (h : dS s = dS t) : s = t := by
 unfold dS at h
 simp only [DataW.agg.injEq, List.cons.injEq, DataW.lit.injEq, Lit.int.injEq, true_and, and_true] at h; obtain ⟨a, b⟩ := s; obtain ⟨c, d⟩ := t; simp only at h; rw [h.1, h.2]
def R_S (v : Value) : Option (DataW Unit × List MemPlace) :=
 match v with
 | .agg c =>
  match c.toList with
  | [.int .i64 a, .int .i64 b] => some (dS ⟨a, b⟩, [])
  | _ => none
 | _ => none
theorem R_S_e (s : Sp) : R_S (eS s) = some (dS s, []) := rfl
theorem R_S_inv (v : Value) (y : DataW Unit × List MemPlace) (h : R_S v = some y) : ∃ c : Sp, v = eS c := by
 unfold R_S at h
 split at h
 ·rename_i c
  split at h
  ·rename_i a b hc
   refine ⟨⟨a, b⟩, ?_⟩
   unfold eS
   congr 1
   apply Array.toList_inj.1
   rw [hc]
  ·cases h
 ·cases h
theorem kInt : Maps.Keyed Tryd.prog 3 := Maps.int_keyed Tryd.underlying3
theorem zero_some (w : World) : (zeroValue 100).run Tryd.prog w = .ok (.agg #[.int .i64 0, .int .i64 0]) w := by kernel_rfl
def wfI (x : Int) : Prop := (Lit.int .i64 x).wf = true
theorem wf_small {x : Int} (h : -9223372036854775808 ≤ x ∧ x ≤ 9223372036854775807) : wfI x := WalkArith.wf_i64 (by omega)
structure Mf (D : DataW Unit) (M : Int → Option Sp) : Prop where
 isMap : Maps.IsMap D
 has : ∀ x, wfI x → Maps.has D (.int .i64 x) = (M x).isSome
 at_ : ∀ x s, wfI x → M x = some s → ∀ zd, D.atKey (.int .i64 x) zd = dS s
theorem Mf.empty : Mf (.map []) (fun _ => none) := ⟨Maps.isMap_empty, fun _ _ => rfl, fun x s _ h => by cases h⟩
theorem key_int {x : Int} (h : wfI x) : WideAt.IsKeyLit (.int .i64 x) := kInt.key (Maps.keyOf_int_mk (P := Tryd.prog) Tryd.underlying3 h)
theorem int_ne {x y : Int} (h : x ≠ y) : (Lit.int .i64 x) ≠ .int .i64 y := by
 intro e
 cases e
 exact h rfl
def mo : Option Sp → Option Sp → Option Sp
 | none, p => p
 | some a, none => some a
 | some a, some b => some ⟨min a.lo b.lo, max a.hi b.hi⟩
theorem mo_none (o : Option Sp) : mo o none = o := by cases o <;> rfl
theorem mo_comm (o p : Option Sp) : mo o p = mo p o := by
 cases o <;> cases p <;> simp only [mo]
 rename_i a b
 rw [Int.min_comm, Int.max_comm]
theorem mo_assoc (o p q : Option Sp) : mo (mo o p) q = mo o (mo p q) := by
 cases o <;> cases p <;> cases q <;> simp only [mo]
 rename_i a b c
 rw [Int.min_assoc, Int.max_assoc]
def upd (M : Int → Option Sp) (x : Int) (s : Sp) : Int → Option Sp := fun y => if y = x then mo (M x) (some s) else M y
theorem Mf.put {D : DataW Unit} {M : Int → Option Sp} (h : Mf D M) {x : Int} (hx : wfI x) (s : Sp) (t : Sp) (ht : mo (M x) (some s) = some t) : Mf (D.put (.int .i64 x) (dS t)) (upd M x s) := by
 refine ⟨h.isMap.put _ _, fun y hy => ?_, fun y u hy hu zd => ?_⟩
 ·by_cases e : y = x
  ·subst e
   rw [Maps.has_put_same h.isMap (key_int hy)]
   simp [upd, ht]
  ·rw [Maps.has_put_other (int_ne e), h.has y hy]
   simp [upd, e]
 ·by_cases e : y = x
  ·subst e
   rw [Maps.atKey_put_same h.isMap (key_int hy)]; simp only [upd, if_true, ht] at hu; rw [Option.some.inj hu]
  ·rw [Maps.atKey_put_other (int_ne e)]
   simp only [upd, if_neg e] at hu; exact h.at_ y u hy hu zd
theorem mlook_ {b n : Nat} {D : DataW Unit} {M : Int → Option Sp} {x : Int} {w : World} (hown : w.ownsMap Tryd.prog 3 R_S b n D) (hM : Mf D M) (hx : wfI x) :
  (Instr.lookup 111 (.map (some b)) (.int .i64 x) true).run Tryd.prog w = .ok (.tuple #[.agg #[.int .i64 ((M x).getD ⟨0, 0⟩).lo, .int .i64 ((M x).getD ⟨0, 0⟩).hi], .bool (M x).isSome]) w := by
 obtain ⟨v, ps, hrun, hv⟩ := hown.look_ok kInt Tryd.underlying111 (zero_some w) (R_S_e ⟨0, 0⟩) (Maps.keyOf_int_mk (P := Tryd.prog) Tryd.underlying3 hx); rw [hrun, hM.has x hx]; obtain ⟨c, rfl⟩ := R_S_inv v _ hv
 have e : c = (M x).getD ⟨0, 0⟩ := by
  rw [R_S_e] at hv; simp only [Option.some.injEq, Prod.mk.injEq] at hv
  cases hm : M x with
  | none =>
   have h1 := hM.has x hx; rw [hm] at h1; rw [Maps.atKey_of_not_has h1] at hv; exact dS_inj hv.1
  | some t =>
   rw [hM.at_ x t hx hm] at hv; exact dS_inj hv.1
 rw [e]; rfl
set_option maxRecDepth 100000 in
theorem add_ (b n : Nat) (D : DataW Unit) (M : Int → Option Sp) (x : Int) (s : Sp) (w : World) (hown : w.ownsMap Tryd.prog 3 R_S b n D) (hM : Mf D M) (hn : n < 9223372036854775807) (hx : wfI x) :
  Calls Tryd.prog 69 #[.map (some b), .int .i64 x, .agg #[.int .i64 s.lo, .int .i64 s.hi]] w fun e w' => e = .returned (.tuple #[]) ∧ (∃ D', w'.ownsMap Tryd.prog 3 R_S b (n + 1) D' ∧ Mf D' (upd M x s)) ∧ w.grownBy w' (some b) := by
 have HM := Aside0.mk hM; have HX := Aside0.mk hx; have hn2 : n < maxLen := hn; have hlk := mlook_ (hown.alloc (.cells #[.int .i64 s.lo, .int .i64 s.hi] 100)) hM hx; have HB5 : Aside0 (Bx (w.alloc (.cells #[.int .i64 s.lo, .int .i64 s.hi] 100)) w.heap.size #[.int .i64 s.lo, .int .i64 s.hi] 100) := ⟨Bx.new w _ _⟩
 cases hm : M x with
 | none =>
  rw [hm] at hlk
  (try simp only [Option.getD_none, Option.isSome_none] at hlk)
  have HT : Aside0 (mo (M x) (some s) = some s) := ⟨by rw [hm]; rfl⟩; have HO2 := Aside0.mk ((hown.alloc (.cells #[.int .i64 s.lo, .int .i64 s.hi] 100)).alloc (.cells #[.int .i64 0, .int .i64 0] 100)); have HU2 : Aside0 (w.grownBy ((w.alloc (.cells #[.int .i64 s.lo, .int .i64 s.hi] 100)).alloc (.cells #[.int .i64 0, .int .i64 0] 100)) (some b)) := ⟨up_grown upA _⟩; have hq5 := (HB5.out.up ((Up.refl (w.alloc (.cells #[.int .i64 s.lo, .int .i64 s.hi] 100))).alloc (.cells #[.int .i64 0, .int .i64 0] 100))).cell; clear hm hown hM hx; go_enter Tryd.func69, Tryd.ntmps69
  go_wp2_with (first | (at_mapUpdate; refine wpList_mapUpdate_own _ rfl _ _ _ 111 rfl 3 100 kInt Tryd.underlying111 R_S b n D rfl HO2.out hn2 _ _ _ rfl rfl (Maps.keyOf_int_mk (P := Tryd.prog) Tryd.underlying3 HX.out) (dS s) [] (R_S_e s) ?_) | go_in)
  intro w3 hown3 hg3
  (try go_frame)
  go_wp2_with fail
  go_end0
  exact ⟨rfl, ⟨_, hown3, HM.out.put HX.out s s HT.out⟩, HU2.out.trans hg3⟩
 | some t =>
  rw [hm] at hlk
  (try simp only [Option.getD_some, Option.isSome_some] at hlk)
  have HT : Aside0 (mo (M x) (some s) = some ⟨min t.lo s.lo, max t.hi s.hi⟩) := ⟨by rw [hm]; rfl⟩; have HB6 : Aside0 (Bx ((w.alloc (.cells #[.int .i64 s.lo, .int .i64 s.hi] 100)).alloc (.cells #[.int .i64 t.lo, .int .i64 t.hi] 100)) w.heap.size #[.int .i64 s.lo, .int .i64 s.hi] 100) := ⟨HB5.out.up ((Up.refl _).alloc _)⟩; have HO2 := Aside0.mk ((hown.alloc (.cells #[.int .i64 (min t.lo s.lo), .int .i64 (max t.hi s.hi)] 100)).alloc (.cells #[.int .i64 t.lo, .int .i64 t.hi] 100)); have HU2 : Aside0 (w.grownBy ((w.alloc (.cells #[.int .i64 (min t.lo s.lo), .int .i64 (max t.hi s.hi)] 100)).alloc (.cells #[.int .i64 t.lo, .int .i64 t.hi] 100)) (some b)) := ⟨up_grown upA _⟩; have hq5 := HB6.out.cell; have hf5 := HB6.out.frozen; clear hm hown hM hx; go_enter Tryd.func69, Tryd.ntmps69
  go_wp2_with (first | (at_mapUpdate; refine wpList_mapUpdate_own _ rfl _ _ _ 111 rfl 3 100 kInt Tryd.underlying111 R_S b n D rfl HO2.out hn2 _ _ _ rfl rfl (Maps.keyOf_int_mk (P := Tryd.prog) Tryd.underlying3 HX.out) (dS ⟨min t.lo s.lo, max t.hi s.hi⟩) [] (R_S_e ⟨min t.lo s.lo, max t.hi s.hi⟩) ?_) | go_in)
  intro w3 hown3 hg3
  (try go_frame)
  go_wp2_with fail
  go_end0
  exact ⟨rfl, ⟨_, hown3, HM.out.put HX.out s _ HT.out⟩, HU2.out.trans hg3⟩
end Go.Proofs.YtemingmeidmjkaaDoor.Q
namespace Go.Proofs.YtemingmeidmjkaaDoor.Q
open Go.RowKit Go.Shelf Go.Proofs.YtemingmeidmjkaaDoorW.PrintWords Go.Proofs.YtemingmeidmjkaaDoorW.PrintLast
set_option linter.unusedVariables false
set_option linter.unusedSimpArgs false
def con (t seen : Sp) (v w : Int) : Option Sp → Option Sp
 | none => none
 | some a => if seen.lo ≤ v ∧ v ≤ min seen.hi (hiS t w) then some ⟨a.lo + max 0 (loS t w - v), a.hi + hiS t w - v⟩ else none
def fo (f : Nat → Option Sp) (n : Nat) : Option Sp := (List.range n).foldl (fun o (j : Nat) => mo o (f j)) none
theorem fo_succ (f : Nat → Option Sp) (n : Nat) : fo f (n + 1) = mo (fo f n) (f n) := by
 simp only [fo, List.range_succ, List.foldl_append, List.foldl_cons, List.foldl_nil]
theorem fo_congr {f g : Nat → Option Sp} : ∀ {n : Nat}, (∀ j, j < n → f j = g j) → fo f n = fo g n
 | 0, _ => rfl
 | n + 1, h => by rw [fo_succ, fo_succ, fo_congr (fun j hj => h j (by omega)), h n (by omega)]
theorem fo_none {f : Nat → Option Sp} : ∀ {n : Nat}, (∀ j, j < n → f j = none) → fo f n = none
 | 0, _ => rfl
 | n + 1, h => by rw [fo_succ, fo_none (fun j hj => h j (by omega)), h n (by omega)]; rfl
theorem fo_upd {f g : Nat → Option Sp} {k : Nat} (hk : f k = none) : ∀ {n : Nat}, k < n → (∀ j, j < n → j ≠ k → g j = f j) → fo g n = mo (fo f n) (g k)
 | 0, h, _ => by omega
 | n + 1, h, hg => by
  rw [fo_succ, fo_succ]
  by_cases e : k = n
  ·subst e
   rw [hk, mo_none, fo_congr (fun j hj => hg j (by omega) (by omega))]
  ·rw [fo_upd hk (by omega) (fun j hj => hg j (by omega)), hg n (by omega) (fun e' => e e'.symm), mo_assoc, mo_assoc, mo_comm (g k)]
theorem fo_isNone {f : Nat → Option Sp} : ∀ {n : Nat}, fo f n = none ↔ ∀ j, j < n → f j = none
 | 0 => ⟨fun _ j hj => by omega, fun _ => rfl⟩
 | n + 1 => by
  rw [fo_succ]
  constructor
  ·intro h j hj
   have h1 : fo f n = none ∧ f n = none := by
    cases h2 : fo f n <;> cases h3 : f n <;> rw [h2, h3] at h <;> simp_all [mo]
   by_cases e : j = n
   ·rw [e]; exact h1.2
   ·exact fo_isNone.1 h1.1 j (by omega)
  ·intro h
   rw [fo_isNone.2 (fun j hj => h j (by omega)), h n (by omega)]; rfl
def bdS (A B : Int) (s : Sp) : Prop := (A ≤ s.lo ∧ s.lo ≤ B) ∧ (A ≤ s.hi ∧ s.hi ≤ B)
theorem mo_bd {A B : Int} {o p : Option Sp} (ho : ∀ s, o = some s → bdS A B s) (hp : ∀ s, p = some s → bdS A B s) : ∀ s, mo o p = some s → bdS A B s := by
 intro s h
 cases o with
 | none => exact hp s h
 | some a =>
  cases p with
  | none => exact ho s h
  | some b =>
   have h1 := ho a rfl; have h2 := hp b rfl; simp only [mo, Option.some.injEq] at h; rw [← h]
   unfold bdS at *
   simp only; omega
theorem fo_bd {A B : Int} {f : Nat → Option Sp} : ∀ {n : Nat}, (∀ j, j < n → ∀ s, f j = some s → bdS A B s) → ∀ s, fo f n = some s → bdS A B s
 | 0, _, s, h => by cases h
 | n + 1, hf, s, h => by
  rw [fo_succ] at h; exact mo_bd (fo_bd (fun j hj => hf j (by omega))) (hf n (by omega)) s h
def spN (sp : Sp) : Nat := (sp.hi + 1 - sp.lo).toNat
def msStep (t sp seen : Sp) (M : Int → Option Sp) (v : Int) : Option Sp := fo (fun j => con t seen v (sp.lo + (j : Int)) (M (sp.lo + (j : Int)))) (spN sp)
def msN (st : List Sp) (wg : List Wg) : Nat → Int → Option Sp
 | 0 => fun v => if (seenS wg 0).lo ≤ v ∧ v < (seenS wg 0).lo + (spN (seenS wg 0) : Int) then some ⟨0, 0⟩ else none
 | i + 1 => msStep (rdS st i) (seenS wg (i : Int)) (seenS wg ((i + 1 : Nat) : Int)) (msN st wg i)
def msAll (st : List Sp) (wg : List Wg) : Option Sp := fo (fun j => msN st wg st.length ((seenS wg (st.length : Int)).lo + (j : Int))) (spN (seenS wg (st.length : Int)))
def totS : Option Sp → Sp
 | none => ⟨400, 0⟩
 | some s => ⟨min 400 s.lo, max 0 s.hi⟩
theorem totS_mo (o : Option Sp) (s : Sp) : totS (mo o (some s)) = ⟨min (totS o).lo s.lo, max (totS o).hi s.hi⟩ := by
 cases o with
 | none => rfl
 | some a => simp only [mo, totS, Int.min_assoc, Int.max_assoc]
def msE (st : List Sp) (wg : List Wg) : Int := if roadE st wg = 0 then (if msAll st wg = none then 9 else 0) else roadE st wg
def msS (st : List Sp) (wg : List Wg) : Sp := if msE st wg = 0 then totS (msAll st wg) else ⟨0, 0⟩
theorem con_some {t seen : Sp} {v w : Int} {o : Option Sp} {s : Sp} (h : con t seen v w o = some s) : (seen.lo ≤ v ∧ v ≤ seen.hi) ∧ ∃ a, o = some a ∧ v ≤ hiS t w ∧ s = ⟨a.lo + max 0 (loS t w - v), a.hi + hiS t w - v⟩ := by
 cases o with
 | none => cases h
 | some a =>
  simp only [con] at h
  split at h
  ·rename_i h1
   exact ⟨by omega, a, rfl, by omega, (Option.some.inj h).symm⟩
  ·cases h
theorem msN_ok {st : List Sp} {wg : List Wg} (h : RdOk st wg) : ∀ (i : Nat), i ≤ st.length → ∀ v s, msN st wg i v = some s → ((seenS wg (i : Int)).lo ≤ v ∧ v ≤ (seenS wg (i : Int)).hi) ∧ bdS 0 (400 * (i : Int)) s
 | 0, _, v, s, hs => by
  simp only [msN] at hs
  split at hs
  ·rename_i h1
   unfold spN at h1
   refine ⟨⟨h1.1, by simp only [Int.ofNat_eq_natCast, Int.natCast_zero] at *; omega⟩, ?_⟩; rw [← Option.some.inj hs]
   simp [bdS]
  ·cases hs
 | i + 1, hi, v, s, hs => by
  have ih := msN_ok h i (by omega); simp only [msN, msStep] at hs
  have hk : ∀ j, j < spN (seenS wg (i : Int)) → ∀ s, con (rdS st i) (seenS wg ((i + 1 : Nat) : Int)) v ((seenS wg (i : Int)).lo + (j : Int)) (msN st wg i ((seenS wg (i : Int)).lo + (j : Int))) = some s → bdS 0 (400 * ((i + 1 : Nat) : Int)) s ∧ ((seenS wg ((i + 1 : Nat) : Int)).lo ≤ v ∧ v ≤ (seenS wg ((i + 1 : Nat) : Int)).hi) := by
   intro j hj s hs; obtain ⟨h1, a, h2, h3, rfl⟩ := con_some hs; obtain ⟨h4, h5⟩ := ih _ _ h2; have g0 := seenS_ok wg (i : Int); have g1 := seenS_ok wg ((i + 1 : Nat) : Int); have hst := h.at (i : Int) (by omega) (by omega); have e1 := hiS_le hst (w := (seenS wg (i : Int)).lo + (j : Int)) (by omega); have e2 := loS_hiS hst (w := (seenS wg (i : Int)).lo + (j : Int)) (by omega)
   generalize loS (rdS st i) ((seenS wg (i : Int)).lo + (j : Int)) = p at *
   generalize hiS (rdS st i) ((seenS wg (i : Int)).lo + (j : Int)) = q at *
   unfold bdS at *
   refine ⟨?_, h1⟩; simp only; omega
  refine ⟨?_, fo_bd (fun j hj s hs => (hk j hj s hs).1) s hs⟩
  by_cases hall : ∀ j, j < spN (seenS wg (i : Int)) → con (rdS st i) (seenS wg ((i + 1 : Nat) : Int)) v ((seenS wg (i : Int)).lo + (j : Int)) (msN st wg i ((seenS wg (i : Int)).lo + (j : Int))) = none
  ·rw [fo_none hall] at hs
   cases hs
  ·obtain ⟨j, hj⟩ := Classical.not_forall.1 hall
   obtain ⟨hj1, hj2⟩ := Classical.not_imp.1 hj; obtain ⟨s', hs'⟩ := Option.ne_none_iff_exists'.1 hj2; exact (hk j hj1 s' hs').2
theorem bx_map {A A' : World} {B : Nat} {C : Array Value} {T : TypeId} (h : Bx A B C T) {P : Program} {k : TypeId} {R : Value → Option (DataW Unit × List MemPlace)} {b n : Nat} {D : DataW Unit} (ho : A.ownsMap P k R b n D) (hg : A.grownBy A' (some b)) : Bx A' B C T := by
 refine h.own hg (fun r e => ?_)
 cases e
 obtain ⟨es, clock, hb, _⟩ := ho; exact ⟨_, hb, rfl⟩
theorem bx_iter {A A' : World} {B : Nat} {C : Array Value} {T : TypeId} (h : Bx A B C T) {P : Program} {k : TypeId} {R : Value → Option (DataW Unit × List MemPlace)} {b r n : Nat} {D : DataW Unit} {left : Lit → Bool} {cnt : Nat} (ho : A.ranges P k R b r n D left cnt) (hg : A.grownBy A' (some r)) : Bx A' B C T := by
 refine h.own hg (fun r e => ?_)
 cases e
 obtain ⟨es, clock, since, seen, c0, _, _, _, _, hr, _⟩ := ho; exact ⟨_, hr, rfl⟩
theorem bx_none {A A' : World} {B : Nat} {C : Array Value} {T : TypeId} (h : Bx A B C T) (hg : A.grownBy A' none) : Bx A' B C T := h.own hg (fun r e => nomatch e)
theorem up_some {w A A' : World} (h : Up w A) {b : Nat} (hb : w.heap.size ≤ b) (hg : A.grownBy A' (some b)) : Up w A' := Below.grown h hg h.size (fun k hk => by cases hk; exact hb)
theorem up_none {w A A' : World} (h : Up w A) (hg : A.grownBy A' none) : Up w A' := Below.grown h hg h.size (fun k hk => nomatch hk)
theorem size_le {w : World} {P : Program} {k : TypeId} {R : Value → Option (DataW Unit × List MemPlace)} {b n : Nat} {D : DataW Unit} (h : w.ownsMap P k R b n D) : Maps.size D ≤ n := by
 obtain ⟨es, clock, _, _, hs, rfl⟩ := h; rw [Maps.size_eq, length_sorted]
 simpa using hs
theorem own_key {w : World} {b n : Nat} {D : DataW Unit} (h : w.ownsMap Tryd.prog 3 R_S b n D) (hs : Maps.size D ≠ 0) : ∃ x, wfI x ∧ Maps.has D (.int .i64 x) = true := by
 obtain ⟨es, clock, hb, F, hn, rfl⟩ := h; rw [Maps.size_eq, length_sorted, List.length_map] at hs; obtain ⟨e0, he0⟩ := List.exists_mem_of_length_pos (Nat.pos_of_ne_zero hs); obtain ⟨y, hy⟩ := F.reads e0 he0; obtain ⟨x, hx, hk, hw⟩ := Maps.keyOf_int_inv Tryd.underlying3 (Go.WideElems.rd_key hy); refine ⟨x, hw, ?_⟩; rw [Maps.has_eq]; refine List.any_eq_true.2 ⟨Go.WideElems.rg Tryd.prog 3 R_S e0, mem_sorted.2 (List.mem_map.2 ⟨e0, he0, rfl⟩), ?_⟩
 have e1 : (Go.WideElems.rg Tryd.prog 3 R_S e0).1 = .int .i64 x := by rw [Go.WideElems.rg_of hy, hk]
 rw [e1]; exact WideAt.sameKey_self (key_int hw)
theorem size_zero {D : DataW Unit} {M : Int → Option Sp} (hM : Mf D M) (h : Maps.size D = 0) (x : Int) (hx : wfI x) : M x = none := by
 have h1 := hM.has x hx; obtain ⟨es, rfl⟩ := hM.isMap; have h2 : es = [] := List.length_eq_zero_iff.1 h; subst h2
 cases hm : M x with
 | none => rfl
 | some s => rw [hm] at h1; cases h1
theorem entry_is {D : DataW Unit} {M : Int → Option Sp} (hM : Mf D M) {x : Int} {c : Sp} {y : DataW Unit × List MemPlace} (hx : wfI x) (hR : R_S (eS c) = some y) (hat : ∀ zd, D.atKey (.int .i64 x) zd = y.1) : M x = some c := by
 rw [R_S_e] at hR; have e1 : y = (dS c, []) := (Option.some.inj hR).symm; have h1 := Maps.has_true_of_atKey (D := D) (k := .int .i64 x) hat; rw [hM.has x hx] at h1; obtain ⟨s, hs⟩ := Option.isSome_iff_exists.1 h1; have h2 := hM.at_ x s hx hs (dS ⟨0, 0⟩); rw [hat, e1] at h2; rw [hs, dS_inj h2]
def pL (t sp seen : Sp) (M : Int → Option Sp) (left : Lit → Bool) : Int → Option Sp := fun v => fo (fun j => if left (.int .i64 (sp.lo + (j : Int))) then none else con t seen v (sp.lo + (j : Int)) (M (sp.lo + (j : Int)))) (spN sp)
theorem pL_start {t sp seen : Sp} {M : Int → Option Sp} {left : Lit → Bool} (h : ∀ j : Nat, j < spN sp → left (.int .i64 (sp.lo + (j : Int))) = (M (sp.lo + (j : Int))).isSome) : pL t sp seen M left = fun _ => none := by
 funext v
 refine fo_none (fun j hj => ?_); rw [h j hj]
 cases M (sp.lo + (j : Int)) <;> rfl
theorem pL_end {t sp seen : Sp} {M : Int → Option Sp} {left : Lit → Bool} (h : ∀ kl, left kl = false) : pL t sp seen M left = msStep t sp seen M := by
 funext v
 exact fo_congr (fun j hj => by rw [h]; rfl)
theorem strike_off {left : Lit → Bool} {sp : Sp} {x : Int} {j : Nat} (h0 : sp.lo ≤ x) (hj : j ≠ (x - sp.lo).toNat) : (left (.int .i64 (sp.lo + (j : Int))) && !(Lit.int .i64 (sp.lo + (j : Int))).sameKey (.int .i64 x)) = left (.int .i64 (sp.lo + (j : Int))) := by
 rw [Maps.sameKey_ne (int_ne (by omega))]
 simp
theorem pL_step {t sp seen : Sp} {M : Int → Option Sp} {left : Lit → Bool} {x : Int} (hx : wfI x) (h0 : sp.lo ≤ x) (h1 : x ≤ sp.hi) (hl : left (.int .i64 x) = true) (v : Int) :
  pL t sp seen M (fun z => left z && !z.sameKey (.int .i64 x)) v = mo (pL t sp seen M left v) (con t seen v x (M x)) := by
 have e : sp.lo + (((x - sp.lo).toNat : Nat) : Int) = x := by omega
 unfold pL
 rw [fo_upd (f := fun j => if left (.int .i64 (sp.lo + (j : Int))) then none else con t seen v (sp.lo + (j : Int)) (M (sp.lo + (j : Int)))) (k := (x - sp.lo).toNat) (by simp only [e, hl, if_true]) (by unfold spN; omega) (fun j _ hj => by simp only [strike_off h0 hj])]; simp only [e, WideAt.sameKey_self (key_int hx), Bool.not_true, Bool.and_false, Bool.false_eq_true, if_false]
def qL (t seen : Sp) (P : Int → Option Sp) (x : Int) (c : Sp) (j : Nat) : Int → Option Sp := fun v => if seen.lo ≤ v ∧ v < seen.lo + (j : Int) then mo (P v) (con t seen v x (some c)) else P v
theorem qL_zero (t seen : Sp) (P : Int → Option Sp) (x : Int) (c : Sp) : qL t seen P x c 0 = P := by
 funext v
 rw [qL, if_neg (by omega)]
theorem qL_succ {t seen : Sp} {P : Int → Option Sp} {x : Int} {c : Sp} {j : Nat} (h : seen.lo + (j : Int) ≤ min seen.hi (hiS t x)) :
  upd (qL t seen P x c j) (seen.lo + (j : Int)) ⟨c.lo + max 0 (loS t x - (seen.lo + (j : Int))), c.hi + hiS t x - (seen.lo + (j : Int))⟩ = qL t seen P x c (j + 1) := by
 funext v
 unfold upd qL
 by_cases h1 : v = seen.lo + (j : Int)
 ·rw [if_pos h1, if_neg (by omega), if_pos (by omega), h1]
  simp only [con]; rw [if_pos (by omega)]
 ·rw [if_neg h1]
  by_cases h2 : seen.lo ≤ v ∧ v < seen.lo + (j : Int)
  ·rw [if_pos h2, if_pos (by omega)]
  ·rw [if_neg h2, if_neg (by omega)]
theorem qL_end {t seen : Sp} {P : Int → Option Sp} {x : Int} {c : Sp} {j : Nat} (h : ¬ seen.lo + (j : Int) ≤ min seen.hi (hiS t x)) (h2 : j = 0 ∨ seen.lo + (j : Int) ≤ min seen.hi (hiS t x) + 1) : qL t seen P x c j = fun v => mo (P v) (con t seen v x (some c)) := by
 funext v
 unfold qL
 by_cases h3 : seen.lo ≤ v ∧ v < seen.lo + (j : Int)
 ·rw [if_pos h3]
 ·rw [if_neg h3]
  simp only [con]; rw [if_neg (by omega), mo_none]
def tL (sp : Sp) (M : Int → Option Sp) (left : Lit → Bool) : Option Sp := fo (fun j => if left (.int .i64 (sp.lo + (j : Int))) then none else M (sp.lo + (j : Int))) (spN sp)
theorem tL_start {sp : Sp} {M : Int → Option Sp} {left : Lit → Bool} (h : ∀ j : Nat, j < spN sp → left (.int .i64 (sp.lo + (j : Int))) = (M (sp.lo + (j : Int))).isSome) : tL sp M left = none := by
 refine fo_none (fun j hj => ?_); rw [h j hj]
 cases M (sp.lo + (j : Int)) <;> rfl
theorem tL_end {sp : Sp} {M : Int → Option Sp} {left : Lit → Bool} (h : ∀ kl, left kl = false) : tL sp M left = fo (fun j => M (sp.lo + (j : Int))) (spN sp) :=
 fo_congr (fun j hj => by rw [h]; rfl)
theorem tL_step {sp : Sp} {M : Int → Option Sp} {left : Lit → Bool} {x : Int} (hx : wfI x) (h0 : sp.lo ≤ x) (h1 : x ≤ sp.hi) (hl : left (.int .i64 x) = true) :
  tL sp M (fun z => left z && !z.sameKey (.int .i64 x)) = mo (tL sp M left) (M x) := by
 have e : sp.lo + (((x - sp.lo).toNat : Nat) : Int) = x := by omega
 unfold tL
 rw [fo_upd (f := fun j => if left (.int .i64 (sp.lo + (j : Int))) then none else M (sp.lo + (j : Int))) (k := (x - sp.lo).toNat) (by simp only [e, hl, if_true]) (by unfold spN; omega) (fun j _ hj => by simp only [strike_off h0 hj])]; simp only [e, WideAt.sameKey_self (key_int hx), Bool.not_true, Bool.and_false, Bool.false_eq_true, if_false]
end Go.Proofs.YtemingmeidmjkaaDoor.Q
