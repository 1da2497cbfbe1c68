/- Functions printed by the kit's printer over these walks, and the plain law. No condition. -/
import Derived.Test.YtemingmeidmjkaaDoorX0
import Derived.Test.YtemingmeidmjkaaDoorGWoolMisses1
import Derived.Test.YtemingmeidmjkaaDoorX2
import Derived.Test.YtemingmeidmjkaaDoorX3
import Derived.Test.YtemingmeidmjkaaDoorGWoolMisses0
import Derived.WalkKit
import Derived.ProofKit
import Derived.OpenShut
import Derived.ShutString
import Derived.ChangeOld
import Derived.Below
import Derived.SizedLaws
import Derived.ChangeArms
import Derived.WideShapes
import Derived.Carry
import Derived.Test.YtemingmeidmjkaaDoorX1
import Derived.Test.YtemingmeidmjkaaDoorRows
import Derived.LaidLaws
import Derived.LaidHandle
import Derived.Handed
import Derived.ChangeSame
set_option linter.unusedVariables false
set_option linter.unusedSimpArgs false
namespace Go.Proofs.YtemingmeidmjkaaDoor.Q
open Go.RowKit Go.Proofs.YtemingmeidmjkaaDoorW.PrintWords Go.Proofs.YtemingmeidmjkaaDoorW.PrintLast Go.Proofs.YtemingmeidmjkaaDoorW.PrintMore
attribute [local go_sem] max2_int min2_int max_two min_two max_three min_three max_four min_four   -- for this text's walks alone
set_option linter.unusedVariables false
set_option linter.unusedSimpArgs false
def rf_Missing.l0 : Nat → List Int → List Int → Int → Int → Int → Option (Int × Int)
 | 0, _, _, _, _, _ => none
 | k + 1, x3, x4, x6, x349000, x349001 => if x6 ≤ 400 then (if 0 ≤ x6 then (if x6 < (x3.length : Int) then (if (rd x3 x6) ≥ 0 then (if x349000 < 0 then (if x6 < (x4.length : Int) then (rf_Missing.l0 k x3 x4 (wrap64 (x6 + 1)) (rd x3 x6) (mx x349001 (rd x4 x6))) else (none)) else (if (rd x3 x6) < x349000 then (if x6 < (x4.length : Int) then (rf_Missing.l0 k x3 x4 (wrap64 (x6 + 1)) (rd x3 x6) (mx x349001 (rd x4 x6))) else (none)) else (if x6 < (x4.length : Int) then (rf_Missing.l0 k x3 x4 (wrap64 (x6 + 1)) x349000 (mx x349001 (rd x4 x6))) else (none)))) else (if x6 < (x4.length : Int) then (rf_Missing.l0 k x3 x4 (wrap64 (x6 + 1)) x349000 (mx x349001 (rd x4 x6))) else (none))) else (none)) else (none)) else (some (x349000, x349001))
def rf_Missing.f (k : Nat) (l0_0 : List (S41)) (l0_1 : List (S80)) : Option (Int × Int) := (rf_Totals.f k l0_0 l0_1 false).bind fun t342 => ((rf_Totals.f k l0_0 l0_1 true).bind fun t345 => (rf_Missing.l0 k t342 t345 0 (-1) (-1)))
def rf_Missing.T1 : Bool × List (List Nat × List Nat) := (true, [([], []), ([0], [0]), ([], []), ([2, 1], [2]), ([], []), ([], []), ([1, 3, 0, 1, 5], [1]), ([3, 6, 0, 1, 2, 3, 5, 6], [3]), ([5, 4, 7, 0, 1, 2, 3, 4, 5, 6, 7], [4, 5])])
def rf_Missing.B1 : List Nat := [0, 1, 0, 7, 0, 0, 47, 111, 255]
theorem rf_Missing.tab1 : rtab .any (opsOf Tryd.f30 1) = rf_Missing.T1 := by kernel_rfl
theorem rf_Missing.bits1 : waitsOk rf_Missing.T1.2 rf_Missing.B1 = true := by kernel_rfl
def rf_Missing.T5 : Bool × List (List Nat × List Nat) := (true, [([], []), ([], []), ([0, 1], [0, 1]), ([2], [2]), ([3], [3]), ([4], [4]), ([5], [5]), ([6, 5], [5, 6]), ([7, 5], [5, 7]), ([8, 5, 5], [5, 8]), ([9], [9]), ([9], [9]), ([10, 11, 9], [9, 10, 11]), ([12, 9], [9, 12]), ([9], [9]), ([14, 9], [9, 14]), ([13, 15, 9], [9, 13, 15]), ([9, 16, 5], [5, 9, 16]), ([5, 17], [5, 17])])
def rf_Missing.B5 : List Nat := [0, 0, 3, 7, 15, 31, 63, 127, 255, 511, 1023, 1023, 4095, 8191, 1023, 17407, 65535, 131071, 262143]
theorem rf_Missing.tab5 : rtab .any (opsOf Tryd.f30 5) = rf_Missing.T5 := by kernel_rfl
theorem rf_Missing.bits5 : waitsOk rf_Missing.T5.2 rf_Missing.B5 = true := by kernel_rfl
def rf_Missing.T7 : Bool × List (List Nat × List Nat) := (true, [([], []), ([0], [0]), ([], []), ([], []), ([2, 3], [2, 3]), ([4], [4]), ([1, 5], [1, 5]), ([0, 1, 2, 3, 4, 5, 6], []), ([7, 6, 0, 1, 2, 3, 4, 5, 6], [6, 7])])
def rf_Missing.B7 : List Nat := [0, 1, 0, 0, 12, 28, 63, 127, 255]
theorem rf_Missing.tab7 : rtab .any (opsOf Tryd.f30 7) = rf_Missing.T7 := by kernel_rfl
theorem rf_Missing.bits7 : waitsOk rf_Missing.T7.2 rf_Missing.B7 = true := by kernel_rfl
set_option maxHeartbeats 8000000 in
set_option maxRecDepth 100000 in
theorem rf_Missing.calls (k : Nat) (A0_0 : Option Addr) (c0_0 : Nat) (l0_0 : List (S41)) (A0_1 : Option Addr) (c0_1 : Nat) (l0_1 : List (S80)) (r1 : Int) (r2 : Int) (w : World) (hr0_0 : Kd.C k41 w A0_0 l0_0.length l0_0) (hc0_0 : l0_0.length ≤ c0_0) (hr0_1 : Kd.C k80 w A0_1 l0_1.length l0_1) (hc0_1 : l0_1.length ≤ c0_1) (h : rf_Missing.f k l0_0 l0_1 = some (r1, r2)) :
  Calls Tryd.prog 30 #[.agg #[.slice A0_0 l0_0.length c0_0, .slice A0_1 l0_1.length c0_1]] w fun e w' => e = .returned (.agg #[.int .i64 r1, .int .i64 r2]) ∧ Below w.heap.size w w' := by
 have hu25 := Tryd.underlying25; have hu41 := Tryd.underlying41; have HR0_0 := Aside0.mk hr0_0; have HC0_0 := Aside0.mk hc0_0; clear hr0_0 hc0_0; have HR0_1 := Aside0.mk hr0_1; have HC0_1 := Aside0.mk hc0_1; clear hr0_1 hc0_1; have HB := Aside0.mk (Below.refl w.heap.size w); have H : ((rf_Totals.f k l0_0 l0_1 false).bind fun t342 => ((rf_Totals.f k l0_0 l0_1 true).bind fun t345 => (rf_Missing.l0 k t342 t345 0 (-1) (-1)))) = some (r1, r2) := h; clear h; obtain ⟨t342, A20, H⟩ := Option.bind_eq_some_iff.mp H; have A2 := Aside0.mk A20; clear A20; obtain ⟨t345, A30, H⟩ := Option.bind_eq_some_iff.mp H; have A3 := Aside0.mk A30; clear A30; have H' := Aside0.mk H; clear H; go_enter Tryd.func30, Tryd.ntmps30
 try go_wp2_with (first | ((with_reducible refine gate_dst (N := 1) rfl ?_); refine box_event ?hg (N := 1) ?hd (cs := #[.slice A0_0 l0_0.length c0_0, .slice A0_1 l0_1.length c0_1]) (t := 25) ?hr ?_; (case hd => rfl); (case hg => rfl); (case hr => first | (go_simp; done) | (go_simp; rfl)); intro gb340 hg w4 hbox hb; have BK340 := Aside0.mk (hbox); have GW340 := Aside0.mk (sqZ hg HB); have GE340 := Aside0.mk (sqZ hg HB); replace HB := sqb hb HB; clear hb hbox hg) | ((with_reducible refine gate_dst (N := 2) rfl ?_); refine box_event ?hg (N := 2) ?hd (cs := #[.int .i64 0, .int .i64 0]) (t := 41) ?hr ?_; (case hd => rfl); (case hg => rfl); (case hr => first | (go_simp; done) | (go_simp; rfl)); intro gb341 hg w5 hbox hb; have BK341 := Aside0.mk (hbox); have GW341 := Aside0.mk (sqZ hg HB); have GE341 := Aside0.mk (sqZ hg HB); replace HB := sqb hb HB; have NB340_341 := Aside0.mk (sqL hg BK340); have NB341_340 := Aside0.mk (sqG hg BK340); replace BK340 := sqk BK340 hb; clear hb hbox hg))
 have n0_ := Aside0.mk (blk_drew BK340.out); have n1_ := Aside0.mk (blk_drew BK341.out); have n2_ := Aside0.mk (below_drew1 HB.out); clear BK340 BK341 HB; have BK340 := n0_; have BK341 := n1_; have HB := n2_; clear n0_ n1_ n2_; refine start_ (n := 9) (S := fun w' => w'.cell? ⟨gb340, 0, none⟩ = some (.slice A0_0 l0_0.length c0_0) ∧ w'.cell? ⟨gb340, 1, none⟩ = some (.slice A0_1 l0_1.length c0_1)) (ds := []) (bm 9 0) sqF rfl rfl ⟨(blk_cell BK340.out 0).trans rfl, (blk_cell BK340.out 1).trans rfl⟩ (fun hHeld => ?_); refine with_tabW rf_Missing.tab1 rf_Missing.bits1 (fun HT_ HW_ => ?_)
 generalize w5.drew = w6 at BK340 BK341 HB hHeld ⊢
 refine pure_ (i := 4) (N := some 11) (v := ?_) (a' := ?_) (bm 9 16) rfl rfl (any_of HT_.out sqF) (fun _ _ _ h => h) (Or.inl ⟨by rfl, ?_⟩) ?_ ?_
 rotate_left
 ·intro w'
  go_simp; with_reducible rfl
 rotate_left
 ·simp only [Act.put, sqA, i64_w, i32_w]; rfl
 refine take_ (i := 0) (N := some 7) (v := ?_) (a' := ?_) (bm 9 17) rfl rfl (take_ofW HT_.out HW_.out sqF) (fun _ _ _ h => h) (Or.inl ⟨by rfl, ?_⟩) hHeld ?_ ?_
 rotate_left
 ·rintro w' ⟨s0, s1⟩
  go_simp; with_reducible rfl
 rotate_left
 ·simp only [Act.put, sqA, i64_w, i32_w]; rfl
 refine take_ (i := 2) (N := some 9) (v := ?_) (a' := ?_) (bm 9 21) rfl rfl (take_ofW HT_.out HW_.out sqF) (fun _ _ _ h => h) (Or.inl ⟨by rfl, ?_⟩) hHeld ?_ ?_
 rotate_left
 ·rintro w' ⟨s0, s1⟩
  go_simp; with_reducible rfl
 rotate_left
 ·simp only [Act.put, sqA, i64_w, i32_w]; rfl
 refine join_ (σ := Value × Value × Nat) 3 #[true, true, true, true, true, true, false, false, false] (fun s_ => [(8, s_.1), (10, s_.2.1), (5, .pointer (some ⟨s_.2.2, 0, none⟩))]) (fun s_ w' => (w'.cell? ⟨gb340, 0, none⟩ = some (.slice A0_0 l0_0.length c0_0) ∧ w'.cell? ⟨gb340, 1, none⟩ = some (.slice A0_1 l0_1.length c0_1)) ∧ (Kd.R (Kd.int .i64) 3 w' w.heap.size (fun k_ => some k_ ≠ (s_.2.1 : Value).ownBlock) s_.1 t342) ∧ (Kd.R (Kd.int .i64) 3 w' w.heap.size (fun k_ => some k_ ≠ (s_.1 : Value).ownBlock) s_.2.1 t345) ∧ (w'.heap[gb340]? = some (.cells #[.slice A0_0 l0_0.length c0_0, .slice A0_1 l0_1.length c0_1] 25 (0, 0))) ∧ (w'.heap[gb341]? = some (.cells #[.int .i64 0, .int .i64 0] 41 (0, 0))) ∧ (w'.heap[s_.2.2]? = some (.cells #[.int .i64 0, .int .i64 0] 41 (0, 0))) ∧ (w.heap.size ≤ s_.2.2) ∧ (w.heap.size ≤ s_.2.2) ∧ (gb340 ≠ s_.2.2) ∧ (s_.2.2 ≠ gb340) ∧ (gb341 ≠ s_.2.2) ∧ (s_.2.2 ≠ gb341) ∧ (Below w.heap.size w w')) ?_ ?_; rotate_left
 ·intro hCont
  refine two_ (i := 1) (j := 5) (Ni := some 8) (Nj := some 5) (bm 9 23) #[true, false, true, false, true, true, false, false, false] rfl rfl rfl rfl (two_of HT_.out sqF) (by decide) (by decide) (fun K hK => ?_) (fun K hK => ?_)
  ·skip
   refine goes_ Tryd.func70 sqF rfl #[.agg #[.slice A0_0 l0_0.length c0_0, .slice A0_1 l0_1.length c0_1], .bool false] (by rfl) rfl rfl sqM ?_
   with_reducible refine (rf_Totals.calls k _ _ l0_0 _ _ l0_1 false t342 _ ?side1 ?side2 ?side3 ?side4 A2.out).mono ?_
   (case side1 => exact sqQ HR0_0 HB)
   (case side2 => exact HC0_0.out)
   (case side3 => exact sqQ HR0_1 HB)
   (case side4 => exact HC0_1.out)
   rintro e w7 ⟨v343, rfl, ho0, hb⟩; refine ⟨_, rfl, ?_⟩; have n0_ := Aside0.mk (Kd.R_lower ho0 (below_size (sqB HB))); have n1_ := Aside0.mk (blk_below (g := gb340) (o := .cells #[.slice A0_0 l0_0.length c0_0, .slice A0_1 l0_1.length c0_1] 25 (0, 0)) (sqK BK340) hb); have n2_ := Aside0.mk (blk_below (g := gb341) (o := .cells #[.int .i64 0, .int .i64 0] 41 (0, 0)) (sqK BK341) hb); have n3_ := Aside0.mk (below_step (sqB HB) hb); clear BK340 BK341 HB; have HO344 := n0_; have BK340 := n1_; have BK341 := n2_; have HB := n3_; clear n0_ n1_ n2_ n3_; (try clear hb); (try clear hb2); (try clear hk); (try clear hi); (try clear ho0); refine hK.out _ _ ⟨(blk_cell BK340.out 0).trans rfl, (blk_cell BK340.out 1).trans rfl⟩ (fun hHeld => ?_); clear hK K; refine norm_ (a' := ?_) ?_ ?_
   rotate_left
   ·show Act.put _ (some 8) _ = _
    simp only [Act.put, sqA, i64_w, i32_w]; rfl
   refine two_ (i := 3) (j := 5) (Ni := some 10) (Nj := some 5) (bm 9 31) #[true, true, true, false, true, true, false, false, false] rfl rfl rfl rfl (two_of HT_.out sqF) (by decide) (by decide) (fun K hK => ?_) (fun K hK => ?_)
   ·skip
    refine goes_ Tryd.func70 sqF rfl #[.agg #[.slice A0_0 l0_0.length c0_0, .slice A0_1 l0_1.length c0_1], .bool true] (by rfl) rfl rfl sqM ?_
    with_reducible refine (rf_Totals.calls k _ _ l0_0 _ _ l0_1 true t345 _ ?side1 ?side2 ?side3 ?side4 A3.out).mono ?_
    (case side1 => exact sqQ HR0_0 HB)
    (case side2 => exact HC0_0.out)
    (case side3 => exact sqQ HR0_1 HB)
    (case side4 => exact HC0_1.out)
    rintro e w8 ⟨v346, rfl, ho0, hb⟩; refine ⟨_, rfl, ?_⟩; have n0_ := Aside0.mk (Kd.R_elder' (sqR HO344) (Kd.R_base ho0) hb); have n1_ := Aside0.mk (Kd.R_lower (Kd.R_new' ho0 (Kd.R_lt (sqR HO344))) (below_size (sqB HB))); have n2_ := Aside0.mk (blk_below (g := gb340) (o := .cells #[.slice A0_0 l0_0.length c0_0, .slice A0_1 l0_1.length c0_1] 25 (0, 0)) (sqK BK340) hb); have n3_ := Aside0.mk (blk_below (g := gb341) (o := .cells #[.int .i64 0, .int .i64 0] 41 (0, 0)) (sqK BK341) hb); have n4_ := Aside0.mk (below_step (sqB HB) hb); clear HO344 BK340 BK341 HB; have HO344 := n0_; have HO347 := n1_; have BK340 := n2_; have BK341 := n3_; have HB := n4_; clear n0_ n1_ n2_ n3_ n4_; (try clear hb); (try clear hb2); (try clear hk); (try clear hi); (try clear ho0); refine hK.out _ _ ⟨(blk_cell BK340.out 0).trans rfl, (blk_cell BK340.out 1).trans rfl⟩ (fun hHeld => ?_); clear hK K; refine norm_ (a' := ?_) ?_ ?_
    rotate_left
    ·show Act.put _ (some 10) _ = _
     simp only [Act.put, sqA, i64_w, i32_w]; rfl
    refine one_ (i := 5) (N := some 5) (bm 9 63) rfl rfl (one_of HT_.out sqF) (by decide) (fun K hK => ?_); refine box_step ?hg (N := 5) ?hd (cs := #[.int .i64 0, .int .i64 0]) (t := 41) ?hr ?_; (case hd => rfl); (case hg => rfl); (case hr => first | (go_simp; done) | (go_simp; rfl)); intro gb348 hg w9 hbox hb; have n0_ := Aside0.mk (Kd.R_below (sqR HO344) hb); have n1_ := Aside0.mk (Kd.R_below (sqR HO347) hb); have n2_ := Aside0.mk (blk_below (g := gb340) (o := .cells #[.slice A0_0 l0_0.length c0_0, .slice A0_1 l0_1.length c0_1] 25 (0, 0)) (sqK BK340) hb); have n3_ := Aside0.mk (blk_below (g := gb341) (o := .cells #[.int .i64 0, .int .i64 0] 41 (0, 0)) (sqK BK341) hb); have n4_ := Aside0.mk (below_step (sqB HB) hb); have n5_ := Aside0.mk (hbox); have n6_ := Aside0.mk ((sqZ hg HB)); have n7_ := Aside0.mk ((sqZ hg HB)); have n8_ := Aside0.mk ((sqL hg BK340)); have n9_ := Aside0.mk ((sqG hg BK340)); have n10_ := Aside0.mk ((sqL hg BK341)); have n11_ := Aside0.mk ((sqG hg BK341)); clear HO344 HO347 BK340 BK341 HB; have HO344 := n0_; have HO347 := n1_; have BK340 := n2_; have BK341 := n3_; have HB := n4_; have BK348 := n5_; have GW348 := n6_; have GE348 := n7_; have NB340_348 := n8_; have NB348_340 := n9_; have NB341_348 := n10_; have NB348_341 := n11_; clear n0_ n1_ n2_ n3_ n4_ n5_ n6_ n7_ n8_ n9_ n10_ n11_ hb hbox hg; refine hK.out _ _ ⟨(blk_cell BK340.out 0).trans rfl, (blk_cell BK340.out 1).trans rfl⟩ (fun hHeld => ?_); clear hK K; refine norm_ (a' := ?_) ?_ ?_
    rotate_left
    ·show Act.put _ (some 5) _ = _
     simp only [Act.put, sqA, i64_w, i32_w]; rfl
    exact norm_ (by simp only [putAll, Act.put, sqA]) (hCont (v343, v346, gb348) _ ⟨hHeld, (by (with_reducible repeat (first | apply Kd.R_alloc | apply Kd.R_drewN | apply Kd.R_drew)); exact Kd.R_mono HO344.out (fun _ hk => hk.2)), (by (with_reducible repeat (first | apply Kd.R_alloc | apply Kd.R_drewN | apply Kd.R_drew)); exact Kd.R_mono HO347.out (fun _ hk => hk.2)), (sqK BK340), (sqK BK341), (sqK BK348), GW348.out, GE348.out, NB340_348.out, NB348_340.out, NB341_348.out, NB348_341.out, (sqB HB)⟩)
   ·skip
    refine box_step ?hg (N := 5) ?hd (cs := #[.int .i64 0, .int .i64 0]) (t := 41) ?hr ?_; (case hd => rfl); (case hg => rfl); (case hr => first | (go_simp; done) | (go_simp; rfl)); intro gb348 hg w8 hbox hb; have n0_ := Aside0.mk (Kd.R_below (sqR HO344) hb); have n1_ := Aside0.mk (blk_below (g := gb340) (o := .cells #[.slice A0_0 l0_0.length c0_0, .slice A0_1 l0_1.length c0_1] 25 (0, 0)) (sqK BK340) hb); have n2_ := Aside0.mk (blk_below (g := gb341) (o := .cells #[.int .i64 0, .int .i64 0] 41 (0, 0)) (sqK BK341) hb); have n3_ := Aside0.mk (below_step (sqB HB) hb); have n4_ := Aside0.mk (hbox); have n5_ := Aside0.mk ((sqZ hg HB)); have n6_ := Aside0.mk ((sqZ hg HB)); have n7_ := Aside0.mk ((sqL hg BK340)); have n8_ := Aside0.mk ((sqG hg BK340)); have n9_ := Aside0.mk ((sqL hg BK341)); have n10_ := Aside0.mk ((sqG hg BK341)); clear HO344 BK340 BK341 HB; have HO344 := n0_; have BK340 := n1_; have BK341 := n2_; have HB := n3_; have BK348 := n4_; have GW348 := n5_; have GE348 := n6_; have NB340_348 := n7_; have NB348_340 := n8_; have NB341_348 := n9_; have NB348_341 := n10_; clear n0_ n1_ n2_ n3_ n4_ n5_ n6_ n7_ n8_ n9_ n10_ hb hbox hg; refine hK.out _ _ ⟨(blk_cell BK340.out 0).trans rfl, (blk_cell BK340.out 1).trans rfl⟩ (fun hHeld => ?_); clear hK K; refine norm_ (a' := ?_) ?_ ?_
    rotate_left
    ·show Act.put _ (some 5) _ = _
     simp only [Act.put, sqA, i64_w, i32_w]; rfl
    refine one_ (i := 3) (N := some 10) (bm 9 63) rfl rfl (one_of HT_.out sqF) (by decide) (fun K hK => ?_); refine goes_ Tryd.func70 sqF rfl #[.agg #[.slice A0_0 l0_0.length c0_0, .slice A0_1 l0_1.length c0_1], .bool true] (by rfl) rfl rfl sqM ?_
    with_reducible refine (rf_Totals.calls k _ _ l0_0 _ _ l0_1 true t345 _ ?side1 ?side2 ?side3 ?side4 A3.out).mono ?_
    (case side1 => exact sqQ HR0_0 HB)
    (case side2 => exact HC0_0.out)
    (case side3 => exact sqQ HR0_1 HB)
    (case side4 => exact HC0_1.out)
    rintro e w9 ⟨v346, rfl, ho0, hb⟩; refine ⟨_, rfl, ?_⟩; have n0_ := Aside0.mk (Kd.R_elder' (sqR HO344) (Kd.R_base ho0) hb); have n1_ := Aside0.mk (Kd.R_lower (Kd.R_new' ho0 (Kd.R_lt (sqR HO344))) (below_size (sqB HB))); have n2_ := Aside0.mk (blk_below (g := gb340) (o := .cells #[.slice A0_0 l0_0.length c0_0, .slice A0_1 l0_1.length c0_1] 25 (0, 0)) (sqK BK340) hb); have n3_ := Aside0.mk (blk_below (g := gb341) (o := .cells #[.int .i64 0, .int .i64 0] 41 (0, 0)) (sqK BK341) hb); have n4_ := Aside0.mk (blk_below (g := gb348) (o := .cells #[.int .i64 0, .int .i64 0] 41 (0, 0)) (sqK BK348) hb); have n5_ := Aside0.mk (below_step (sqB HB) hb); clear HO344 BK340 BK341 BK348 HB; have HO344 := n0_; have HO347 := n1_; have BK340 := n2_; have BK341 := n3_; have BK348 := n4_; have HB := n5_; clear n0_ n1_ n2_ n3_ n4_ n5_; (try clear hb); (try clear hb2); (try clear hk); (try clear hi); (try clear ho0); refine hK.out _ _ ⟨(blk_cell BK340.out 0).trans rfl, (blk_cell BK340.out 1).trans rfl⟩ (fun hHeld => ?_); clear hK K; refine norm_ (a' := ?_) ?_ ?_
    rotate_left
    ·show Act.put _ (some 10) _ = _
     simp only [Act.put, sqA, i64_w, i32_w]; rfl
    exact norm_ (by simp only [putAll, Act.put, sqA]) (hCont (v343, v346, gb348) _ ⟨hHeld, (by (with_reducible repeat (first | apply Kd.R_alloc | apply Kd.R_drewN | apply Kd.R_drew)); exact Kd.R_mono HO344.out (fun _ hk => hk.2)), (by (with_reducible repeat (first | apply Kd.R_alloc | apply Kd.R_drewN | apply Kd.R_drew)); exact Kd.R_mono HO347.out (fun _ hk => hk.2)), (sqK BK340), (sqK BK341), (sqK BK348), GW348.out, GE348.out, NB340_348.out, NB348_340.out, NB341_348.out, NB348_341.out, (sqB HB)⟩)
  ·skip
   refine box_step ?hg (N := 5) ?hd (cs := #[.int .i64 0, .int .i64 0]) (t := 41) ?hr ?_; (case hd => rfl); (case hg => rfl); (case hr => first | (go_simp; done) | (go_simp; rfl)); intro gb348 hg w7 hbox hb; have n0_ := Aside0.mk (blk_below (g := gb340) (o := .cells #[.slice A0_0 l0_0.length c0_0, .slice A0_1 l0_1.length c0_1] 25 (0, 0)) (sqK BK340) hb); have n1_ := Aside0.mk (blk_below (g := gb341) (o := .cells #[.int .i64 0, .int .i64 0] 41 (0, 0)) (sqK BK341) hb); have n2_ := Aside0.mk (below_step (sqB HB) hb); have n3_ := Aside0.mk (hbox); have n4_ := Aside0.mk ((sqZ hg HB)); have n5_ := Aside0.mk ((sqZ hg HB)); have n6_ := Aside0.mk ((sqL hg BK340)); have n7_ := Aside0.mk ((sqG hg BK340)); have n8_ := Aside0.mk ((sqL hg BK341)); have n9_ := Aside0.mk ((sqG hg BK341)); clear BK340 BK341 HB; have BK340 := n0_; have BK341 := n1_; have HB := n2_; have BK348 := n3_; have GW348 := n4_; have GE348 := n5_; have NB340_348 := n6_; have NB348_340 := n7_; have NB341_348 := n8_; have NB348_341 := n9_; clear n0_ n1_ n2_ n3_ n4_ n5_ n6_ n7_ n8_ n9_ hb hbox hg; refine hK.out _ _ ⟨(blk_cell BK340.out 0).trans rfl, (blk_cell BK340.out 1).trans rfl⟩ (fun hHeld => ?_); clear hK K; refine norm_ (a' := ?_) ?_ ?_
   rotate_left
   ·show Act.put _ (some 5) _ = _
    simp only [Act.put, sqA, i64_w, i32_w]; rfl
   refine one_ (i := 1) (N := some 8) (bm 9 55) rfl rfl (one_of HT_.out sqF) (by decide) (fun K hK => ?_); refine goes_ Tryd.func70 sqF rfl #[.agg #[.slice A0_0 l0_0.length c0_0, .slice A0_1 l0_1.length c0_1], .bool false] (by rfl) rfl rfl sqM ?_
   with_reducible refine (rf_Totals.calls k _ _ l0_0 _ _ l0_1 false t342 _ ?side1 ?side2 ?side3 ?side4 A2.out).mono ?_
   (case side1 => exact sqQ HR0_0 HB)
   (case side2 => exact HC0_0.out)
   (case side3 => exact sqQ HR0_1 HB)
   (case side4 => exact HC0_1.out)
   rintro e w8 ⟨v343, rfl, ho0, hb⟩; refine ⟨_, rfl, ?_⟩; have n0_ := Aside0.mk (Kd.R_lower ho0 (below_size (sqB HB))); have n1_ := Aside0.mk (blk_below (g := gb340) (o := .cells #[.slice A0_0 l0_0.length c0_0, .slice A0_1 l0_1.length c0_1] 25 (0, 0)) (sqK BK340) hb); have n2_ := Aside0.mk (blk_below (g := gb341) (o := .cells #[.int .i64 0, .int .i64 0] 41 (0, 0)) (sqK BK341) hb); have n3_ := Aside0.mk (blk_below (g := gb348) (o := .cells #[.int .i64 0, .int .i64 0] 41 (0, 0)) (sqK BK348) hb); have n4_ := Aside0.mk (below_step (sqB HB) hb); clear BK340 BK341 BK348 HB; have HO344 := n0_; have BK340 := n1_; have BK341 := n2_; have BK348 := n3_; have HB := n4_; clear n0_ n1_ n2_ n3_ n4_; (try clear hb); (try clear hb2); (try clear hk); (try clear hi); (try clear ho0); refine hK.out _ _ ⟨(blk_cell BK340.out 0).trans rfl, (blk_cell BK340.out 1).trans rfl⟩ (fun hHeld => ?_); clear hK K; refine norm_ (a' := ?_) ?_ ?_
   rotate_left
   ·show Act.put _ (some 8) _ = _
    simp only [Act.put, sqA, i64_w, i32_w]; rfl
   refine one_ (i := 3) (N := some 10) (bm 9 63) rfl rfl (one_of HT_.out sqF) (by decide) (fun K hK => ?_); refine goes_ Tryd.func70 sqF rfl #[.agg #[.slice A0_0 l0_0.length c0_0, .slice A0_1 l0_1.length c0_1], .bool true] (by rfl) rfl rfl sqM ?_
   with_reducible refine (rf_Totals.calls k _ _ l0_0 _ _ l0_1 true t345 _ ?side1 ?side2 ?side3 ?side4 A3.out).mono ?_
   (case side1 => exact sqQ HR0_0 HB)
   (case side2 => exact HC0_0.out)
   (case side3 => exact sqQ HR0_1 HB)
   (case side4 => exact HC0_1.out)
   rintro e w9 ⟨v346, rfl, ho0, hb⟩; refine ⟨_, rfl, ?_⟩; have n0_ := Aside0.mk (Kd.R_elder' (sqR HO344) (Kd.R_base ho0) hb); have n1_ := Aside0.mk (Kd.R_lower (Kd.R_new' ho0 (Kd.R_lt (sqR HO344))) (below_size (sqB HB))); have n2_ := Aside0.mk (blk_below (g := gb340) (o := .cells #[.slice A0_0 l0_0.length c0_0, .slice A0_1 l0_1.length c0_1] 25 (0, 0)) (sqK BK340) hb); have n3_ := Aside0.mk (blk_below (g := gb341) (o := .cells #[.int .i64 0, .int .i64 0] 41 (0, 0)) (sqK BK341) hb); have n4_ := Aside0.mk (blk_below (g := gb348) (o := .cells #[.int .i64 0, .int .i64 0] 41 (0, 0)) (sqK BK348) hb); have n5_ := Aside0.mk (below_step (sqB HB) hb); clear HO344 BK340 BK341 BK348 HB; have HO344 := n0_; have HO347 := n1_; have BK340 := n2_; have BK341 := n3_; have BK348 := n4_; have HB := n5_; clear n0_ n1_ n2_ n3_ n4_ n5_; (try clear hb); (try clear hb2); (try clear hk); (try clear hi); (try clear ho0); refine hK.out _ _ ⟨(blk_cell BK340.out 0).trans rfl, (blk_cell BK340.out 1).trans rfl⟩ (fun hHeld => ?_); clear hK K; refine norm_ (a' := ?_) ?_ ?_
   rotate_left
   ·show Act.put _ (some 10) _ = _
    simp only [Act.put, sqA, i64_w, i32_w]; rfl
   exact norm_ (by simp only [putAll, Act.put, sqA]) (hCont (v343, v346, gb348) _ ⟨hHeld, (by (with_reducible repeat (first | apply Kd.R_alloc | apply Kd.R_drewN | apply Kd.R_drew)); exact Kd.R_mono HO344.out (fun _ hk => hk.2)), (by (with_reducible repeat (first | apply Kd.R_alloc | apply Kd.R_drewN | apply Kd.R_drew)); exact Kd.R_mono HO347.out (fun _ hk => hk.2)), (sqK BK340), (sqK BK341), (sqK BK348), GW348.out, GE348.out, NB340_348.out, NB348_340.out, NB341_348.out, NB348_341.out, (sqB HB)⟩)
 rintro ⟨v343, v346, gb348⟩ w10 ⟨hS_, h0_, h1_, h2_, h3_, h4_, h5_, h6_, h7_, h8_, h9_, h10_, h11_⟩; have n0_ : Aside0 (Kd.R (Kd.int .i64) 3 w10 w.heap.size (fun k_ => some k_ ≠ (v346 : Value).ownBlock) v343 t342) := ⟨h0_⟩; have n1_ : Aside0 (Kd.R (Kd.int .i64) 3 w10 w.heap.size (fun k_ => some k_ ≠ (v343 : Value).ownBlock) v346 t345) := ⟨h1_⟩; have n2_ : Aside0 (w10.heap[gb340]? = some (.cells #[.slice A0_0 l0_0.length c0_0, .slice A0_1 l0_1.length c0_1] 25 (0, 0))) := ⟨h2_⟩; have n3_ : Aside0 (w10.heap[gb341]? = some (.cells #[.int .i64 0, .int .i64 0] 41 (0, 0))) := ⟨h3_⟩; have n4_ : Aside0 (w10.heap[gb348]? = some (.cells #[.int .i64 0, .int .i64 0] 41 (0, 0))) := ⟨h4_⟩; have n5_ : Aside0 (w.heap.size ≤ gb348) := ⟨h5_⟩; have n6_ : Aside0 (w.heap.size ≤ gb348) := ⟨h6_⟩; have n7_ : Aside0 (gb340 ≠ gb348) := ⟨h7_⟩; have n8_ : Aside0 (gb348 ≠ gb340) := ⟨h8_⟩; have n9_ : Aside0 (gb341 ≠ gb348) := ⟨h9_⟩; have n10_ : Aside0 (gb348 ≠ gb341) := ⟨h10_⟩; have n11_ : Aside0 (Below w.heap.size w w10) := ⟨h11_⟩; clear BK340 BK341 HB h0_ h1_ h2_ h3_ h4_ h5_ h6_ h7_ h8_ h9_ h10_ h11_; have HO344 := n0_; have HO347 := n1_; have BK340 := n2_; have BK341 := n3_; have BK348 := n4_; have GW348 := n5_; have GE348 := n6_; have NB340_348 := n7_; have NB348_340 := n8_; have NB341_348 := n9_; have NB348_341 := n10_; have HB := n11_; clear n0_ n1_ n2_ n3_ n4_ n5_ n6_ n7_ n8_ n9_ n10_ n11_; have hHeld : w10.cell? ⟨gb340, 0, none⟩ = some (.slice A0_0 l0_0.length c0_0) ∧ w10.cell? ⟨gb340, 1, none⟩ = some (.slice A0_1 l0_1.length c0_1) := hS_
 refine norm_ (a' := ?_) ?_ ?_; rotate_left
 ·simp only [putAll, Act.put, sqA]; rfl
 refine pure_ (i := 6) (N := some 3) (v := ?_) (a' := ?_) (bm 9 127) rfl rfl (any_of HT_.out sqF) (fun _ _ _ h => h) (Or.inl ⟨by rfl, ?_⟩) ?_ ?_
 rotate_left
 ·intro w'
  go_simp; with_reducible rfl
 rotate_left
 ·simp only [Act.put, sqA, i64_w, i32_w]; rfl
 refine pure_ (i := 7) (N := some 4) (v := ?_) (a' := ?_) (bm 9 255) rfl rfl (any_of HT_.out sqF) (fun _ _ _ h => h) (Or.inl ⟨by rfl, ?_⟩) ?_ ?_
 rotate_left
 ·intro w'
  go_simp; with_reducible rfl
 rotate_left
 ·simp only [Act.put, sqA, i64_w, i32_w]; rfl
 refine one_ (i := 8) (N := none) (bm 9 511) rfl rfl (one_of HT_.out sqF) (by decide) (fun K hK => ?_); have hs11 : w10.cell? ⟨gb348, 0, none⟩ = some (.int .i64 0) := (blk_cell BK348.out 0).trans rfl; have hfs11 := blk_frozen BK348.out 0; have hns11_0 := NB340_348.out; have hns11_1 := NB341_348.out; have hms11_0 := NB348_340.out; have hms11_1 := NB348_341.out; have hs12 : w10.cell? ⟨gb348, 1, none⟩ = some (.int .i64 0) := (blk_cell BK348.out 1).trans rfl; have hfs12 := blk_frozen BK348.out 1; have hns12_0 := NB340_348.out; have hns12_1 := NB341_348.out; have hms12_0 := NB348_340.out; have hms12_1 := NB348_341.out; refine skip_ (w1 := ?_) (by rfl) rfl ?_ ?_
 rotate_left
 ·go_simp
  rfl
 refine hK.out _ _ ⟨((cell_far (p := ⟨gb348, _, none⟩) NB340_348.out _).trans (((cell_far (p := ⟨gb348, _, none⟩) NB340_348.out _).trans (hHeld.1)))), ((cell_far (p := ⟨gb348, _, none⟩) NB340_348.out _).trans (((cell_far (p := ⟨gb348, _, none⟩) NB340_348.out _).trans (hHeld.2))))⟩ (fun hHeld => ?_); clear hK K; refine done_ (done_of HT_.out sqF) ?_
 try go_wp2
 go_loopg [6] k (fun kq v6 w' => ∃ (x6_1 : Int) (x349000_1 : Int) (x349001_1 : Int), v6 = .int .i64 x6_1 ∧ Aside0 (rf_Missing.l0 kq t342 t345 x6_1 x349000_1 x349001_1 = some (r1, r2)) ∧ Aside0 (kq ≤ k) ∧ Aside0 (Kd.R (Kd.int .i64) 3 w' w.heap.size (fun k_ => some k_ ≠ (v346 : Value).ownBlock) v343 t342) ∧ Aside0 (Kd.R (Kd.int .i64) 3 w' w.heap.size (fun k_ => some k_ ≠ (v343 : Value).ownBlock) v346 t345) ∧ Aside0 (w'.heap[gb340]? = some (.cells #[(.slice A0_0 l0_0.length c0_0), (.slice A0_1 l0_1.length c0_1)] 25 (0, 0))) ∧ Aside0 (w'.heap[gb341]? = some (.cells #[.int .i64 0, .int .i64 0] 41 (0, 0))) ∧ Aside0 (w'.heap[gb348]? = some (.cells #[.int .i64 x349000_1, .int .i64 x349001_1] 41 (0, 0))) ∧ Aside0 (Below w.heap.size w w'))
 case atStart => exact ⟨(0), ((-1)), ((-1)), sqE, H', ⟨Nat.le_refl _⟩, ⟨by (with_reducible repeat (first | apply Kd.R_alloc | apply Kd.R_drewN | apply Kd.R_drew)); exact Kd.R_mono (Kd.R_far (p := ⟨gb348, 1, none⟩) (Kd.R_far (p := ⟨gb348, 0, none⟩) (Kd.R_types HO344.out BK348.out (by decide)) (fun _ hk => hk.2) (.int .i64 (-1))) (fun _ hk => hk.2) (.int .i64 (-1))) (fun _ hk => hk.1)⟩, ⟨by (with_reducible repeat (first | apply Kd.R_alloc | apply Kd.R_drewN | apply Kd.R_drew)); exact Kd.R_mono (Kd.R_far (p := ⟨gb348, 1, none⟩) (Kd.R_far (p := ⟨gb348, 0, none⟩) (Kd.R_types HO347.out BK348.out (by decide)) (fun _ hk => hk.2) (.int .i64 (-1))) (fun _ hk => hk.2) (.int .i64 (-1))) (fun _ hk => hk.1)⟩, ⟨sqX⟩, ⟨sqX⟩, ⟨by (with_reducible repeat (first | refine blk_drewN ?_ _ | refine blk_drew ?_ | refine blk_alloc ?_ _)); refine blk_put (cs := #[.int .i64 (-1), .int .i64 0]) ?_ 1 _ rfl; (with_reducible repeat (first | refine blk_drewN ?_ _ | refine blk_drew ?_ | refine blk_alloc ?_ _)); refine blk_put (cs := #[.int .i64 0, .int .i64 0]) ?_ 0 _ rfl; (with_reducible repeat (first | refine blk_drewN ?_ _ | refine blk_drew ?_ | refine blk_alloc ?_ _)); exact BK348.out⟩, ⟨sqB HB⟩⟩
 case round =>
  clear H'; obtain ⟨x6_1, x349000_1, x349001_1, rfl, HA, HK1, HO_3, HO_4, BK340, BK341, BK348, HB⟩ := hrel
  cases gk with
  | zero => exact absurd HA.out (by simp [rf_Missing.l0])
  | succ k1 =>
   have H := HA.out; clear HA; simp only [rf_Missing.l0] at H
   by_cases c13 : x6_1 ≤ 400
   ·rw [if_pos c13] at H
    have c13b0 : decide (x6_1 ≤ 400) = true := decide_eq_true c13; clear c13
    by_cases c14 : 0 ≤ x6_1
    ·rw [if_pos c14] at H
     have c14b0 : decide (0 ≤ x6_1) = true := decide_eq_true c14; clear c14
     by_cases c15 : x6_1 < (t342.length : Int)
     ·rw [if_pos c15] at H
      have c15b0 : decide (x6_1 < (t342.length : Int)) = true := decide_eq_true c15; clear c15
      by_cases c16 : (rd t342 x6_1) ≥ 0
      ·rw [if_pos c16] at H
       have c16b0 : decide (0 ≤ (rd t342 x6_1)) = true := decide_eq_true c16; clear c16
       by_cases c17 : x349000_1 < 0
       ·rw [if_pos c17] at H
        have c17b0 : decide (x349000_1 < 0) = true := decide_eq_true c17; clear c17
        by_cases c18 : x6_1 < (t345.length : Int)
        ·rw [if_pos c18] at H
         have c18b0 : decide (x6_1 < (t345.length : Int)) = true := decide_eq_true c18; clear c18; obtain ⟨ji19, hji19⟩ : ∃ j_ : Int, (mx x349001_1 (rd t345 x6_1)) = j_ := ⟨_, rfl⟩
         replace H : (rf_Missing.l0 k1 t342 t345 (wrap64 (x6_1 + 1)) (rd t342 x6_1) ji19) = some (r1, r2) := by first | (rw [hji19] at H; exact H) | (simp only [hji19] at H ⊢; exact H)
         have hji19_ : (if x349001_1 < (rd t345 x6_1) then (rd t345 x6_1) else x349001_1) = ji19 := hji19; have H' := Aside0.mk H
         clear H; try go_wp2
         have n0_ := Aside0.mk (Kd.R_drew HO_3.out); have n1_ := Aside0.mk (Kd.R_drew HO_4.out); have n2_ := Aside0.mk (blk_drew BK340.out); have n3_ := Aside0.mk (blk_drew BK341.out); have n4_ := Aside0.mk (blk_drew BK348.out); have n5_ := Aside0.mk (below_drew1 HB.out); clear HO_3 HO_4 BK340 BK341 BK348 HB; have HO_3 := n0_; have HO_4 := n1_; have BK340 := n2_; have BK341 := n3_; have BK348 := n4_; have HB := n5_; clear n0_ n1_ n2_ n3_ n4_ n5_; obtain ⟨Ao21, co21, eo21⟩ := Kd.R_slice HO_3.out
         (first | subst eo21 | (injection eo21 with f1_ f2_ f3_; have f4_ := f1_.symm; have f5_ := f3_.symm; clear f1_ f2_ f3_; subst f4_; subst f5_))
         have p349 : 0 ≤ (x6_1 : Int) := sqD; have q349 : x6_1 < (t342.length : Int) := sqD; obtain ⟨ad349, e349, hx349_0⟩ := Kd.at_int (Kd.R_reads' HO_3.out).2.2 x6_1 p349 q349
         cases e349
         replace p349 := eq_true p349; replace q349 := eq_true q349; refine start_ (n := 19) (S := fun w' => w'.cell? ⟨gb348, 0, none⟩ = some (.int .i64 x349000_1) ∧ w'.cell? ⟨gb348, 1, none⟩ = some (.int .i64 x349001_1) ∧ w'.cell? (ad349.add (x6_1).toNat) = some (.int .i64 (rd t342 x6_1))) (ds := []) (bm 19 0) sqF rfl rfl ⟨(blk_cell BK348.out 0).trans rfl, (blk_cell BK348.out 1).trans rfl, hx349_0⟩ (fun hHeld => ?_); refine with_tabW rf_Missing.tab5 rf_Missing.bits5 (fun HT_ HW_ => ?_)
         generalize wr.drew = w20 at HO_3 HO_4 BK340 BK341 BK348 HB hx349_0 hHeld ⊢
         refine pure_ (i := 0) (N := some 16) (v := ?_) (a' := ?_) (bm 19 1) rfl rfl (any_of HT_.out sqF) (fun _ _ _ h => h) (Or.inl ⟨by rfl, ?_⟩) ?_ ?_
         rotate_left
         ·intro w'
          go_simp; with_reducible rfl
         rotate_left
         ·simp only [Act.put, sqA, i64_w, i32_w]; rfl
         refine pure_ (i := 1) (N := some 17) (v := ?_) (a' := ?_) (bm 19 3) rfl rfl (any_of HT_.out sqF) (fun _ _ _ h => h) (Or.inl ⟨by rfl, ?_⟩) ?_ ?_
         rotate_left
         ·intro w'
          go_simp; with_reducible rfl
         rotate_left
         ·simp only [Act.put, sqA, i64_w, i32_w]; rfl
         refine pure_ (i := 2) (N := some 18) (v := ?_) (a' := ?_) (bm 19 7) rfl rfl (any_of HT_.out sqF) (fun _ _ _ h => h) (Or.inl ⟨by rfl, ?_⟩) ?_ ?_
         rotate_left
         ·intro w'
          go_simp; with_reducible rfl
         rotate_left
         ·simp only [Act.put, sqA, i64_w, i32_w]; rfl
         refine take_ (i := 3) (N := some 19) (v := ?_) (a' := ?_) (bm 19 15) rfl rfl (take_ofW HT_.out HW_.out sqF) (fun _ _ _ h => h) (Or.inl ⟨by rfl, ?_⟩) hHeld ?_ ?_
         rotate_left
         ·rintro w' ⟨s0, s1, s2⟩
          go_simp; with_reducible rfl
         rotate_left
         ·simp only [Act.put, sqA, i64_w, i32_w]; rfl
         refine pure_ (i := 4) (N := some 20) (v := ?_) (a' := ?_) (bm 19 31) rfl rfl (any_of HT_.out sqF) (fun _ _ _ h => h) (Or.inl ⟨by rfl, ?_⟩) ?_ ?_
         rotate_left
         ·intro w'
          go_simp; with_reducible rfl
         rotate_left
         ·simp only [Act.put, sqA, i64_w, i32_w]; rfl
         refine pure_ (i := 5) (N := some 21) (v := ?_) (a' := ?_) (bm 19 63) rfl rfl (any_of HT_.out sqF) (fun _ _ _ h => h) (Or.inl ⟨by rfl, ?_⟩) ?_ ?_
         rotate_left
         ·intro w'
          go_simp; with_reducible rfl
         rotate_left
         ·simp only [Act.put, sqA, i64_w, i32_w]; rfl
         refine pure_ (i := 6) (N := some 22) (v := ?_) (a' := ?_) (bm 19 127) rfl rfl (any_of HT_.out sqF) (fun _ _ _ h => h) (Or.inl ⟨by rfl, ?_⟩) ?_ ?_
         rotate_left
         ·intro w'
          go_simp; with_reducible rfl
         rotate_left
         ·simp only [Act.put, sqA, i64_w, i32_w]; rfl
         refine take_ (i := 7) (N := some 23) (v := ?_) (a' := ?_) (bm 19 255) rfl rfl (take_ofW HT_.out HW_.out sqF) (fun _ _ _ h => h) (Or.inl ⟨by rfl, ?_⟩) hHeld ?_ ?_
         rotate_left
         ·rintro w' ⟨s0, s1, s2⟩
          go_simp; with_reducible rfl
         rotate_left
         ·simp only [Act.put, sqA, i64_w, i32_w]; rfl
         refine pure_ (i := 8) (N := some 24) (v := ?_) (a' := ?_) (bm 19 511) rfl rfl (any_of HT_.out sqF) (fun _ _ _ h => h) (Or.inl ⟨by rfl, ?_⟩) ?_ ?_
         rotate_left
         ·intro w'
          go_simp; with_reducible rfl
         rotate_left
         ·simp only [Act.put, sqA, i64_w, i32_w]; rfl
         refine pure_ (i := 9) (N := some 25) (v := ?_) (a' := ?_) (bm 19 1023) rfl rfl (any_of HT_.out sqF) (fun _ _ _ h => h) (Or.inl ⟨by rfl, ?_⟩) ?_ ?_
         rotate_left
         ·intro w'
          go_simp; with_reducible rfl
         rotate_left
         ·simp only [Act.put, sqA, i64_w, i32_w]; rfl
         refine pure_ (i := 10) (N := some 26) (v := undef) (a' := ?_) (bm 19 2047) rfl rfl (any_of HT_.out sqF) (fun _ _ _ h => h) (Or.inr ⟨by rfl, rfl⟩) ?_ ?_
         rotate_left
         ·simp only [Act.put, sqA, i64_w, i32_w]; rfl
         refine pure_ (i := 11) (N := some 27) (v := undef) (a' := ?_) (bm 19 4095) rfl rfl (any_of HT_.out sqF) (fun _ _ _ h => h) (Or.inr ⟨by rfl, rfl⟩) ?_ ?_
         rotate_left
         ·simp only [Act.put, sqA, i64_w, i32_w]; rfl
         refine pure_ (i := 12) (N := some 28) (v := undef) (a' := ?_) (bm 19 8191) rfl rfl (any_of HT_.out sqF) (fun _ _ _ h => h) (Or.inr ⟨by rfl, rfl⟩) ?_ ?_
         rotate_left
         ·simp only [Act.put, sqA, i64_w, i32_w]; rfl
         refine pure_ (i := 13) (N := some 29) (v := undef) (a' := ?_) (bm 19 16383) rfl rfl (any_of HT_.out sqF) (fun _ _ _ h => h) (Or.inr ⟨by rfl, rfl⟩) ?_ ?_
         rotate_left
         ·simp only [Act.put, sqA, i64_w, i32_w]; rfl
         refine pure_ (i := 14) (N := some 30) (v := undef) (a' := ?_) (bm 19 32767) rfl rfl (any_of HT_.out sqF) (fun _ _ _ h => h) (Or.inr ⟨by rfl, rfl⟩) ?_ ?_
         rotate_left
         ·simp only [Act.put, sqA, i64_w, i32_w]; rfl
         refine pure_ (i := 15) (N := some 31) (v := undef) (a' := ?_) (bm 19 65535) rfl rfl (any_of HT_.out sqF) (fun _ _ _ h => h) (Or.inr ⟨by rfl, rfl⟩) ?_ ?_
         rotate_left
         ·simp only [Act.put, sqA, i64_w, i32_w]; rfl
         refine pure_ (i := 16) (N := some 32) (v := undef) (a' := ?_) (bm 19 131071) rfl rfl (any_of HT_.out sqF) (fun _ _ _ h => h) (Or.inr ⟨by rfl, rfl⟩) ?_ ?_
         rotate_left
         ·simp only [Act.put, sqA, i64_w, i32_w]; rfl
         refine pure_ (i := 17) (N := some 33) (v := ?_) (a' := ?_) (bm 19 262143) rfl rfl (any_of HT_.out sqF) (fun _ _ _ h => h) (Or.inl ⟨by rfl, ?_⟩) ?_ ?_
         rotate_left
         ·intro w'
          go_simp; with_reducible rfl
         rotate_left
         ·simp only [Act.put, sqA, i64_w, i32_w]; rfl
         refine pure_ (i := 18) (N := some 34) (v := ?_) (a' := ?_) (bm 19 524287) rfl rfl (any_of HT_.out sqF) (fun _ _ _ h => h) (Or.inl ⟨by rfl, ?_⟩) ?_ ?_
         rotate_left
         ·intro w'
          go_simp; with_reducible rfl
         rotate_left
         ·simp only [Act.put, sqA, i64_w, i32_w]; rfl
         refine done_ (done_of HT_.out sqF) ?_; have p350 : 0 ≤ (x6_1 : Int) := sqD; have q350 : x6_1 < (t342.length : Int) := sqD; obtain ⟨ad350, e350, hx350_0⟩ := Kd.at_int (Kd.R_reads' HO_3.out).2.2 x6_1 p350 q350; obtain rfl : ad349 = ad350 := (by injection e350); replace p350 := eq_true p350; replace q350 := eq_true q350; have hnb22 := NB348_340.out; have hnc22 := NB340_348.out; have hnb23 := NB348_341.out; have hnc23 := NB341_348.out; have hcz24_0 := sqc0 BK348; have hcz24_1 := sqc1 BK348; have hfz24_0 := blk_frozen BK348.out 0; have hfz24_1 := blk_frozen BK348.out 1
         try go_wp2
         have n0_ : Aside0 (Kd.R (Kd.int .i64) 3 (w20.setCell ⟨gb348, 0, none⟩ (.int .i64 (rd t342 x6_1))) w.heap.size (fun k_ => some k_ ≠ (v346 : Value).ownBlock) (.slice (some ad349) t342.length co21) t342) := ⟨by (with_reducible repeat (first | apply Kd.R_alloc | apply Kd.R_drewN | apply Kd.R_drew)); exact Kd.R_mono (Kd.R_far (p := ⟨gb348, 0, none⟩) (Kd.R_types HO_3.out BK348.out (by decide)) (fun _ hk => hk.2) (.int .i64 (rd t342 x6_1))) (fun _ hk => hk.1)⟩; have n1_ : Aside0 (Kd.R (Kd.int .i64) 3 (w20.setCell ⟨gb348, 0, none⟩ (.int .i64 (rd t342 x6_1))) w.heap.size (fun k_ => some k_ ≠ (.slice (some ad349) t342.length co21 : Value).ownBlock) v346 t345) := ⟨by (with_reducible repeat (first | apply Kd.R_alloc | apply Kd.R_drewN | apply Kd.R_drew)); exact Kd.R_mono (Kd.R_far (p := ⟨gb348, 0, none⟩) (Kd.R_types HO_4.out BK348.out (by decide)) (fun _ hk => hk.2) (.int .i64 (rd t342 x6_1))) (fun _ hk => hk.1)⟩; have n2_ : Aside0 ((w20.setCell ⟨gb348, 0, none⟩ (.int .i64 (rd t342 x6_1))).heap[gb340]? = some (.cells #[.slice A0_0 l0_0.length c0_0, .slice A0_1 l0_1.length c0_1] 25 (0, 0))) := ⟨sqX⟩; have n3_ : Aside0 ((w20.setCell ⟨gb348, 0, none⟩ (.int .i64 (rd t342 x6_1))).heap[gb341]? = some (.cells #[.int .i64 0, .int .i64 0] 41 (0, 0))) := ⟨sqX⟩; have n4_ : Aside0 ((w20.setCell ⟨gb348, 0, none⟩ (.int .i64 (rd t342 x6_1))).heap[gb348]? = some (.cells #[.int .i64 (rd t342 x6_1), .int .i64 x349001_1] 41 (0, 0))) := ⟨by (with_reducible repeat (first | refine blk_drewN ?_ _ | refine blk_drew ?_ | refine blk_alloc ?_ _)); refine blk_put (cs := #[.int .i64 x349000_1, .int .i64 x349001_1]) ?_ 0 _ rfl; (with_reducible repeat (first | refine blk_drewN ?_ _ | refine blk_drew ?_ | refine blk_alloc ?_ _)); exact BK348.out⟩; have n5_ : Aside0 (Below w.heap.size w (w20.setCell ⟨gb348, 0, none⟩ (.int .i64 (rd t342 x6_1)))) := ⟨sqB HB⟩; (try clear HO_3); (try clear HO_4); (try clear BK340); (try clear BK341); (try clear BK348); (try clear HB)
         generalize (w20.setCell ⟨gb348, 0, none⟩ (.int .i64 (rd t342 x6_1))) = w25 at n0_ n1_ n2_ n3_ n4_ n5_ ⊢
         have HO_3 := n0_; have HO_4 := n1_; have BK340 := n2_; have BK341 := n3_; have BK348 := n4_; have HB := n5_; clear n0_ n1_ n2_ n3_ n4_ n5_; have n0_ := Aside0.mk (Kd.R_drew HO_3.out); have n1_ := Aside0.mk (Kd.R_drew HO_4.out); have n2_ := Aside0.mk (blk_drew BK340.out); have n3_ := Aside0.mk (blk_drew BK341.out); have n4_ := Aside0.mk (blk_drew BK348.out); have n5_ := Aside0.mk (below_drew1 HB.out); clear HO_3 HO_4 BK340 BK341 BK348 HB; have HO_3 := n0_; have HO_4 := n1_; have BK340 := n2_; have BK341 := n3_; have BK348 := n4_; have HB := n5_; clear n0_ n1_ n2_ n3_ n4_ n5_; obtain ⟨Ao27, co27, eo27⟩ := Kd.R_slice HO_4.out
         (first | subst eo27 | (injection eo27 with f1_ f2_ f3_; have f4_ := f1_.symm; have f5_ := f3_.symm; clear f1_ f2_ f3_; subst f4_; subst f5_))
         have p351 : 0 ≤ (x6_1 : Int) := sqD; have q351 : x6_1 < (t345.length : Int) := sqD; obtain ⟨ad351, e351, hx351_0⟩ := Kd.at_int (Kd.R_reads' HO_4.out).2.2 x6_1 p351 q351
         cases e351
         replace p351 := eq_true p351; replace q351 := eq_true q351; refine start_ (n := 9) (S := fun w' => w'.cell? ⟨gb348, 0, none⟩ = some (.int .i64 (rd t342 x6_1)) ∧ w'.cell? ⟨gb348, 1, none⟩ = some (.int .i64 x349001_1) ∧ w'.cell? (ad351.add (x6_1).toNat) = some (.int .i64 (rd t345 x6_1))) (ds := [8]) (bm 9 0) sqF rfl rfl ⟨(blk_cell BK348.out 0).trans rfl, (blk_cell BK348.out 1).trans rfl, hx351_0⟩ (fun hHeld => ?_); refine with_tabW rf_Missing.tab7 rf_Missing.bits7 (fun HT_ HW_ => ?_)
         generalize w25.drew = w26 at HO_3 HO_4 BK340 BK341 BK348 HB hx351_0 hHeld ⊢
         refine pure_ (i := 0) (N := some 40) (v := ?_) (a' := ?_) (bm 9 1) rfl rfl (any_of HT_.out sqF) (fun _ _ _ h => h) (Or.inl ⟨by rfl, ?_⟩) ?_ ?_
         rotate_left
         ·intro w'
          go_simp; with_reducible rfl
         rotate_left
         ·simp only [Act.put, sqA, i64_w, i32_w]; rfl
         refine pure_ (i := 2) (N := some 42) (v := ?_) (a' := ?_) (bm 9 5) rfl rfl (any_of HT_.out sqF) (fun _ _ _ h => h) (Or.inl ⟨by rfl, ?_⟩) ?_ ?_
         rotate_left
         ·intro w'
          go_simp; with_reducible rfl
         rotate_left
         ·simp only [Act.put, sqA, i64_w, i32_w]; rfl
         refine pure_ (i := 3) (N := some 43) (v := ?_) (a' := ?_) (bm 9 13) rfl rfl (any_of HT_.out sqF) (fun _ _ _ h => h) (Or.inl ⟨by rfl, ?_⟩) ?_ ?_
         rotate_left
         ·intro w'
          go_simp; with_reducible rfl
         rotate_left
         ·simp only [Act.put, sqA, i64_w, i32_w]; rfl
         refine pure_ (i := 4) (N := some 44) (v := ?_) (a' := ?_) (bm 9 29) rfl rfl (any_of HT_.out sqF) (fun _ _ _ h => h) (Or.inl ⟨by rfl, ?_⟩) ?_ ?_
         rotate_left
         ·intro w'
          go_simp; with_reducible rfl
         rotate_left
         ·simp only [Act.put, sqA, i64_w, i32_w]; rfl
         refine take_ (i := 1) (N := some 41) (v := ?_) (a' := ?_) (bm 9 31) rfl rfl (take_ofW HT_.out HW_.out sqF) (fun _ _ _ h => h) (Or.inl ⟨by rfl, ?_⟩) hHeld ?_ ?_
         rotate_left
         ·rintro w' ⟨s0, s1, s2⟩
          go_simp; with_reducible rfl
         rotate_left
         ·simp only [Act.put, sqA, i64_w, i32_w]; rfl
         refine take_ (i := 5) (N := some 45) (v := ?_) (a' := ?_) (bm 9 63) rfl rfl (take_ofW HT_.out HW_.out sqF) (fun _ _ _ h => h) (Or.inl ⟨by rfl, ?_⟩) hHeld ?_ ?_
         rotate_left
         ·rintro w' ⟨s0, s1, s2⟩
          go_simp; with_reducible rfl
         rotate_left
         ·simp only [Act.put, sqA, i64_w, i32_w]; rfl
         refine pure_ (i := 6) (N := some 46) (v := ?_) (a' := ?_) (bm 9 127) rfl rfl (any_of HT_.out sqF) (fun _ _ _ h => h) (Or.inl ⟨by rfl, ?_⟩) ?_ ?_
         rotate_left
         ·intro w'
          go_simp; with_reducible rfl
         rotate_left
         ·simp only [Act.put, sqA, i64_w, i32_w]; rfl
         refine pure_ (i := 7) (N := some 47) (v := ?_) (a' := ?_) (bm 9 255) rfl rfl (any_of HT_.out sqF) (fun _ _ _ h => h) (Or.inl ⟨by rfl, ?_⟩) ?_ ?_
         rotate_left
         ·intro w'
          go_simp; with_reducible rfl
         rotate_left
         ·simp only [Act.put, sqA, i64_w, i32_w]; rfl
         refine last_ (i := 8) (N := none) (bm 9 511) rfl rfl (one_of HT_.out sqF) (by decide) (fun K hK => ?_); have hs28 : w26.cell? ⟨gb348, 1, none⟩ = some (.int .i64 x349001_1) := (blk_cell BK348.out 1).trans rfl; have hfs28 := blk_frozen BK348.out 1; have hns28_0 := NB340_348.out; have hns28_1 := NB341_348.out; have hms28_0 := NB348_340.out; have hms28_1 := NB348_341.out; refine skip_ (w1 := ?_) (by rfl) rfl ?_ ?_
         rotate_left
         ·go_simp
          rfl
         refine hK.out _ _ ?_; clear hK K; refine done_ (done_of HT_.out sqF) ?_
         try go_wp2
         go_roundg k1
         case measure => have := HK1.out; omega
         case rel => exact ⟨(wrap64 (x6_1 + 1)), (rd t342 x6_1), (ji19), sqE, H', ⟨by have := HK1.out; omega⟩, ⟨by (with_reducible repeat (first | apply Kd.R_alloc | apply Kd.R_drewN | apply Kd.R_drew)); exact Kd.R_mono (Kd.R_far (p := ⟨gb348, 1, none⟩) (Kd.R_types HO_3.out BK348.out (by decide)) (fun _ hk => hk.2) (.int .i64 ji19)) (fun _ hk => hk.1)⟩, ⟨by (with_reducible repeat (first | apply Kd.R_alloc | apply Kd.R_drewN | apply Kd.R_drew)); exact Kd.R_mono (Kd.R_far (p := ⟨gb348, 1, none⟩) (Kd.R_types HO_4.out BK348.out (by decide)) (fun _ hk => hk.2) (.int .i64 ji19)) (fun _ hk => hk.1)⟩, ⟨sqX⟩, ⟨sqX⟩, ⟨by (with_reducible repeat (first | refine blk_drewN ?_ _ | refine blk_drew ?_ | refine blk_alloc ?_ _)); refine blk_put (cs := #[.int .i64 (rd t342 x6_1), .int .i64 x349001_1]) ?_ 1 _ rfl; (with_reducible repeat (first | refine blk_drewN ?_ _ | refine blk_drew ?_ | refine blk_alloc ?_ _)); exact BK348.out⟩, ⟨sqB HB⟩⟩
        ·rw [if_neg c18] at H
         exact absurd H (by simp)
       ·rw [if_neg c17] at H
        have c17b0 : decide (x349000_1 < 0) = false := decide_eq_false c17; clear c17
        by_cases c29 : (rd t342 x6_1) < x349000_1
        ·rw [if_pos c29] at H
         have c29b0 : decide ((rd t342 x6_1) < x349000_1) = true := decide_eq_true c29; clear c29
         by_cases c30 : x6_1 < (t345.length : Int)
         ·rw [if_pos c30] at H
          have c30b0 : decide (x6_1 < (t345.length : Int)) = true := decide_eq_true c30; clear c30; obtain ⟨ji31, hji31⟩ : ∃ j_ : Int, (mx x349001_1 (rd t345 x6_1)) = j_ := ⟨_, rfl⟩
          replace H : (rf_Missing.l0 k1 t342 t345 (wrap64 (x6_1 + 1)) (rd t342 x6_1) ji31) = some (r1, r2) := by first | (rw [hji31] at H; exact H) | (simp only [hji31] at H ⊢; exact H)
          have hji31_ : (if x349001_1 < (rd t345 x6_1) then (rd t345 x6_1) else x349001_1) = ji31 := hji31; have H' := Aside0.mk H
          clear H; try go_wp2
          have n0_ := Aside0.mk (Kd.R_drew HO_3.out); have n1_ := Aside0.mk (Kd.R_drew HO_4.out); have n2_ := Aside0.mk (blk_drew BK340.out); have n3_ := Aside0.mk (blk_drew BK341.out); have n4_ := Aside0.mk (blk_drew BK348.out); have n5_ := Aside0.mk (below_drew1 HB.out); clear HO_3 HO_4 BK340 BK341 BK348 HB; have HO_3 := n0_; have HO_4 := n1_; have BK340 := n2_; have BK341 := n3_; have BK348 := n4_; have HB := n5_; clear n0_ n1_ n2_ n3_ n4_ n5_; obtain ⟨Ao33, co33, eo33⟩ := Kd.R_slice HO_3.out
          (first | subst eo33 | (injection eo33 with f1_ f2_ f3_; have f4_ := f1_.symm; have f5_ := f3_.symm; clear f1_ f2_ f3_; subst f4_; subst f5_))
          have p349 : 0 ≤ (x6_1 : Int) := sqD; have q349 : x6_1 < (t342.length : Int) := sqD; obtain ⟨ad349, e349, hx349_0⟩ := Kd.at_int (Kd.R_reads' HO_3.out).2.2 x6_1 p349 q349
          cases e349
          replace p349 := eq_true p349; replace q349 := eq_true q349; have p352 : 0 ≤ (x6_1 : Int) := sqD; have q352 : x6_1 < (t342.length : Int) := sqD; obtain ⟨ad352, e352, hx352_0⟩ := Kd.at_int (Kd.R_reads' HO_3.out).2.2 x6_1 p352 q352; obtain rfl : ad349 = ad352 := (by injection e352); replace p352 := eq_true p352; replace q352 := eq_true q352; refine start_ (n := 19) (S := fun w' => w'.cell? ⟨gb348, 0, none⟩ = some (.int .i64 x349000_1) ∧ w'.cell? ⟨gb348, 1, none⟩ = some (.int .i64 x349001_1) ∧ w'.cell? (ad349.add (x6_1).toNat) = some (.int .i64 (rd t342 x6_1)) ∧ w'.cell? (ad349.add (x6_1).toNat) = some (.int .i64 (rd t342 x6_1))) (ds := []) (bm 19 0) sqF rfl rfl ⟨(blk_cell BK348.out 0).trans rfl, (blk_cell BK348.out 1).trans rfl, hx349_0, hx352_0⟩ (fun hHeld => ?_); refine with_tabW rf_Missing.tab5 rf_Missing.bits5 (fun HT_ HW_ => ?_)
          generalize wr.drew = w32 at HO_3 HO_4 BK340 BK341 BK348 HB hx349_0 hx352_0 hHeld ⊢
          refine pure_ (i := 0) (N := some 16) (v := ?_) (a' := ?_) (bm 19 1) rfl rfl (any_of HT_.out sqF) (fun _ _ _ h => h) (Or.inl ⟨by rfl, ?_⟩) ?_ ?_
          rotate_left
          ·intro w'
           go_simp; with_reducible rfl
          rotate_left
          ·simp only [Act.put, sqA, i64_w, i32_w]; rfl
          refine pure_ (i := 1) (N := some 17) (v := ?_) (a' := ?_) (bm 19 3) rfl rfl (any_of HT_.out sqF) (fun _ _ _ h => h) (Or.inl ⟨by rfl, ?_⟩) ?_ ?_
          rotate_left
          ·intro w'
           go_simp; with_reducible rfl
          rotate_left
          ·simp only [Act.put, sqA, i64_w, i32_w]; rfl
          refine pure_ (i := 2) (N := some 18) (v := ?_) (a' := ?_) (bm 19 7) rfl rfl (any_of HT_.out sqF) (fun _ _ _ h => h) (Or.inl ⟨by rfl, ?_⟩) ?_ ?_
          rotate_left
          ·intro w'
           go_simp; with_reducible rfl
          rotate_left
          ·simp only [Act.put, sqA, i64_w, i32_w]; rfl
          refine take_ (i := 3) (N := some 19) (v := ?_) (a' := ?_) (bm 19 15) rfl rfl (take_ofW HT_.out HW_.out sqF) (fun _ _ _ h => h) (Or.inl ⟨by rfl, ?_⟩) hHeld ?_ ?_
          rotate_left
          ·rintro w' ⟨s0, s1, s2, s3⟩
           go_simp; with_reducible rfl
          rotate_left
          ·simp only [Act.put, sqA, i64_w, i32_w]; rfl
          refine pure_ (i := 4) (N := some 20) (v := ?_) (a' := ?_) (bm 19 31) rfl rfl (any_of HT_.out sqF) (fun _ _ _ h => h) (Or.inl ⟨by rfl, ?_⟩) ?_ ?_
          rotate_left
          ·intro w'
           go_simp; with_reducible rfl
          rotate_left
          ·simp only [Act.put, sqA, i64_w, i32_w]; rfl
          refine pure_ (i := 5) (N := some 21) (v := ?_) (a' := ?_) (bm 19 63) rfl rfl (any_of HT_.out sqF) (fun _ _ _ h => h) (Or.inl ⟨by rfl, ?_⟩) ?_ ?_
          rotate_left
          ·intro w'
           go_simp; with_reducible rfl
          rotate_left
          ·simp only [Act.put, sqA, i64_w, i32_w]; rfl
          refine pure_ (i := 6) (N := some 22) (v := ?_) (a' := ?_) (bm 19 127) rfl rfl (any_of HT_.out sqF) (fun _ _ _ h => h) (Or.inl ⟨by rfl, ?_⟩) ?_ ?_
          rotate_left
          ·intro w'
           go_simp; with_reducible rfl
          rotate_left
          ·simp only [Act.put, sqA, i64_w, i32_w]; rfl
          refine take_ (i := 7) (N := some 23) (v := ?_) (a' := ?_) (bm 19 255) rfl rfl (take_ofW HT_.out HW_.out sqF) (fun _ _ _ h => h) (Or.inl ⟨by rfl, ?_⟩) hHeld ?_ ?_
          rotate_left
          ·rintro w' ⟨s0, s1, s2, s3⟩
           go_simp; with_reducible rfl
          rotate_left
          ·simp only [Act.put, sqA, i64_w, i32_w]; rfl
          refine pure_ (i := 8) (N := some 24) (v := ?_) (a' := ?_) (bm 19 511) rfl rfl (any_of HT_.out sqF) (fun _ _ _ h => h) (Or.inl ⟨by rfl, ?_⟩) ?_ ?_
          rotate_left
          ·intro w'
           go_simp; with_reducible rfl
          rotate_left
          ·simp only [Act.put, sqA, i64_w, i32_w]; rfl
          refine pure_ (i := 9) (N := some 25) (v := ?_) (a' := ?_) (bm 19 1023) rfl rfl (any_of HT_.out sqF) (fun _ _ _ h => h) (Or.inl ⟨by rfl, ?_⟩) ?_ ?_
          rotate_left
          ·intro w'
           go_simp; with_reducible rfl
          rotate_left
          ·simp only [Act.put, sqA, i64_w, i32_w]; rfl
          refine pure_ (i := 10) (N := some 26) (v := ?_) (a' := ?_) (bm 19 2047) rfl rfl (any_of HT_.out sqF) (fun _ _ _ h => h) (Or.inl ⟨by rfl, ?_⟩) ?_ ?_
          rotate_left
          ·intro w'
           go_simp; with_reducible rfl
          rotate_left
          ·simp only [Act.put, sqA, i64_w, i32_w]; rfl
          refine pure_ (i := 11) (N := some 27) (v := ?_) (a' := ?_) (bm 19 4095) rfl rfl (any_of HT_.out sqF) (fun _ _ _ h => h) (Or.inl ⟨by rfl, ?_⟩) ?_ ?_
          rotate_left
          ·intro w'
           go_simp; with_reducible rfl
          rotate_left
          ·simp only [Act.put, sqA, i64_w, i32_w]; rfl
          refine pure_ (i := 12) (N := some 28) (v := ?_) (a' := ?_) (bm 19 8191) rfl rfl (any_of HT_.out sqF) (fun _ _ _ h => h) (Or.inl ⟨by rfl, ?_⟩) ?_ ?_
          rotate_left
          ·intro w'
           go_simp; with_reducible rfl
          rotate_left
          ·simp only [Act.put, sqA, i64_w, i32_w]; rfl
          refine pure_ (i := 14) (N := some 30) (v := ?_) (a' := ?_) (bm 19 24575) rfl rfl (any_of HT_.out sqF) (fun _ _ _ h => h) (Or.inl ⟨by rfl, ?_⟩) ?_ ?_
          rotate_left
          ·intro w'
           go_simp; with_reducible rfl
          rotate_left
          ·simp only [Act.put, sqA, i64_w, i32_w]; rfl
          refine take_ (i := 13) (N := some 29) (v := ?_) (a' := ?_) (bm 19 32767) rfl rfl (take_ofW HT_.out HW_.out sqF) (fun _ _ _ h => h) (Or.inl ⟨by rfl, ?_⟩) hHeld ?_ ?_
          rotate_left
          ·rintro w' ⟨s0, s1, s2, s3⟩
           go_simp; with_reducible rfl
          rotate_left
          ·simp only [Act.put, sqA, i64_w, i32_w]; rfl
          refine take_ (i := 15) (N := some 31) (v := ?_) (a' := ?_) (bm 19 65535) rfl rfl (take_ofW HT_.out HW_.out sqF) (fun _ _ _ h => h) (Or.inl ⟨by rfl, ?_⟩) hHeld ?_ ?_
          rotate_left
          ·rintro w' ⟨s0, s1, s2, s3⟩
           go_simp; with_reducible rfl
          rotate_left
          ·simp only [Act.put, sqA, i64_w, i32_w]; rfl
          refine pure_ (i := 16) (N := some 32) (v := ?_) (a' := ?_) (bm 19 131071) rfl rfl (any_of HT_.out sqF) (fun _ _ _ h => h) (Or.inl ⟨by rfl, ?_⟩) ?_ ?_
          rotate_left
          ·intro w'
           go_simp; with_reducible rfl
          rotate_left
          ·simp only [Act.put, sqA, i64_w, i32_w]; rfl
          refine pure_ (i := 17) (N := some 33) (v := ?_) (a' := ?_) (bm 19 262143) rfl rfl (any_of HT_.out sqF) (fun _ _ _ h => h) (Or.inl ⟨by rfl, ?_⟩) ?_ ?_
          rotate_left
          ·intro w'
           go_simp; with_reducible rfl
          rotate_left
          ·simp only [Act.put, sqA, i64_w, i32_w]; rfl
          refine pure_ (i := 18) (N := some 34) (v := ?_) (a' := ?_) (bm 19 524287) rfl rfl (any_of HT_.out sqF) (fun _ _ _ h => h) (Or.inl ⟨by rfl, ?_⟩) ?_ ?_
          rotate_left
          ·intro w'
           go_simp; with_reducible rfl
          rotate_left
          ·simp only [Act.put, sqA, i64_w, i32_w]; rfl
          refine done_ (done_of HT_.out sqF) ?_; have p353 : 0 ≤ (x6_1 : Int) := sqD; have q353 : x6_1 < (t342.length : Int) := sqD; obtain ⟨ad353, e353, hx353_0⟩ := Kd.at_int (Kd.R_reads' HO_3.out).2.2 x6_1 p353 q353; obtain rfl : ad349 = ad353 := (by injection e353); replace p353 := eq_true p353; replace q353 := eq_true q353; have hnb34 := NB348_340.out; have hnc34 := NB340_348.out; have hnb35 := NB348_341.out; have hnc35 := NB341_348.out; have hcz36_0 := sqc0 BK348; have hcz36_1 := sqc1 BK348; have hfz36_0 := blk_frozen BK348.out 0; have hfz36_1 := blk_frozen BK348.out 1
          try go_wp2
          have n0_ : Aside0 (Kd.R (Kd.int .i64) 3 (w32.setCell ⟨gb348, 0, none⟩ (.int .i64 (rd t342 x6_1))) w.heap.size (fun k_ => some k_ ≠ (v346 : Value).ownBlock) (.slice (some ad349) t342.length co33) t342) := ⟨by (with_reducible repeat (first | apply Kd.R_alloc | apply Kd.R_drewN | apply Kd.R_drew)); exact Kd.R_mono (Kd.R_far (p := ⟨gb348, 0, none⟩) (Kd.R_types HO_3.out BK348.out (by decide)) (fun _ hk => hk.2) (.int .i64 (rd t342 x6_1))) (fun _ hk => hk.1)⟩; have n1_ : Aside0 (Kd.R (Kd.int .i64) 3 (w32.setCell ⟨gb348, 0, none⟩ (.int .i64 (rd t342 x6_1))) w.heap.size (fun k_ => some k_ ≠ (.slice (some ad349) t342.length co33 : Value).ownBlock) v346 t345) := ⟨by (with_reducible repeat (first | apply Kd.R_alloc | apply Kd.R_drewN | apply Kd.R_drew)); exact Kd.R_mono (Kd.R_far (p := ⟨gb348, 0, none⟩) (Kd.R_types HO_4.out BK348.out (by decide)) (fun _ hk => hk.2) (.int .i64 (rd t342 x6_1))) (fun _ hk => hk.1)⟩; have n2_ : Aside0 ((w32.setCell ⟨gb348, 0, none⟩ (.int .i64 (rd t342 x6_1))).heap[gb340]? = some (.cells #[.slice A0_0 l0_0.length c0_0, .slice A0_1 l0_1.length c0_1] 25 (0, 0))) := ⟨sqX⟩; have n3_ : Aside0 ((w32.setCell ⟨gb348, 0, none⟩ (.int .i64 (rd t342 x6_1))).heap[gb341]? = some (.cells #[.int .i64 0, .int .i64 0] 41 (0, 0))) := ⟨sqX⟩; have n4_ : Aside0 ((w32.setCell ⟨gb348, 0, none⟩ (.int .i64 (rd t342 x6_1))).heap[gb348]? = some (.cells #[.int .i64 (rd t342 x6_1), .int .i64 x349001_1] 41 (0, 0))) := ⟨by (with_reducible repeat (first | refine blk_drewN ?_ _ | refine blk_drew ?_ | refine blk_alloc ?_ _)); refine blk_put (cs := #[.int .i64 x349000_1, .int .i64 x349001_1]) ?_ 0 _ rfl; (with_reducible repeat (first | refine blk_drewN ?_ _ | refine blk_drew ?_ | refine blk_alloc ?_ _)); exact BK348.out⟩; have n5_ : Aside0 (Below w.heap.size w (w32.setCell ⟨gb348, 0, none⟩ (.int .i64 (rd t342 x6_1)))) := ⟨sqB HB⟩; (try clear HO_3); (try clear HO_4); (try clear BK340); (try clear BK341); (try clear BK348); (try clear HB)
          generalize (w32.setCell ⟨gb348, 0, none⟩ (.int .i64 (rd t342 x6_1))) = w37 at n0_ n1_ n2_ n3_ n4_ n5_ ⊢
          have HO_3 := n0_; have HO_4 := n1_; have BK340 := n2_; have BK341 := n3_; have BK348 := n4_; have HB := n5_; clear n0_ n1_ n2_ n3_ n4_ n5_; have n0_ := Aside0.mk (Kd.R_drew HO_3.out); have n1_ := Aside0.mk (Kd.R_drew HO_4.out); have n2_ := Aside0.mk (blk_drew BK340.out); have n3_ := Aside0.mk (blk_drew BK341.out); have n4_ := Aside0.mk (blk_drew BK348.out); have n5_ := Aside0.mk (below_drew1 HB.out); clear HO_3 HO_4 BK340 BK341 BK348 HB; have HO_3 := n0_; have HO_4 := n1_; have BK340 := n2_; have BK341 := n3_; have BK348 := n4_; have HB := n5_; clear n0_ n1_ n2_ n3_ n4_ n5_; obtain ⟨Ao39, co39, eo39⟩ := Kd.R_slice HO_4.out
          (first | subst eo39 | (injection eo39 with f1_ f2_ f3_; have f4_ := f1_.symm; have f5_ := f3_.symm; clear f1_ f2_ f3_; subst f4_; subst f5_))
          have p354 : 0 ≤ (x6_1 : Int) := sqD; have q354 : x6_1 < (t345.length : Int) := sqD; obtain ⟨ad354, e354, hx354_0⟩ := Kd.at_int (Kd.R_reads' HO_4.out).2.2 x6_1 p354 q354
          cases e354
          replace p354 := eq_true p354; replace q354 := eq_true q354; refine start_ (n := 9) (S := fun w' => w'.cell? ⟨gb348, 0, none⟩ = some (.int .i64 (rd t342 x6_1)) ∧ w'.cell? ⟨gb348, 1, none⟩ = some (.int .i64 x349001_1) ∧ w'.cell? (ad354.add (x6_1).toNat) = some (.int .i64 (rd t345 x6_1))) (ds := [8]) (bm 9 0) sqF rfl rfl ⟨(blk_cell BK348.out 0).trans rfl, (blk_cell BK348.out 1).trans rfl, hx354_0⟩ (fun hHeld => ?_); refine with_tabW rf_Missing.tab7 rf_Missing.bits7 (fun HT_ HW_ => ?_)
          generalize w37.drew = w38 at HO_3 HO_4 BK340 BK341 BK348 HB hx354_0 hHeld ⊢
          refine pure_ (i := 0) (N := some 40) (v := ?_) (a' := ?_) (bm 9 1) rfl rfl (any_of HT_.out sqF) (fun _ _ _ h => h) (Or.inl ⟨by rfl, ?_⟩) ?_ ?_
          rotate_left
          ·intro w'
           go_simp; with_reducible rfl
          rotate_left
          ·simp only [Act.put, sqA, i64_w, i32_w]; rfl
          refine pure_ (i := 2) (N := some 42) (v := ?_) (a' := ?_) (bm 9 5) rfl rfl (any_of HT_.out sqF) (fun _ _ _ h => h) (Or.inl ⟨by rfl, ?_⟩) ?_ ?_
          rotate_left
          ·intro w'
           go_simp; with_reducible rfl
          rotate_left
          ·simp only [Act.put, sqA, i64_w, i32_w]; rfl
          refine pure_ (i := 3) (N := some 43) (v := ?_) (a' := ?_) (bm 9 13) rfl rfl (any_of HT_.out sqF) (fun _ _ _ h => h) (Or.inl ⟨by rfl, ?_⟩) ?_ ?_
          rotate_left
          ·intro w'
           go_simp; with_reducible rfl
          rotate_left
          ·simp only [Act.put, sqA, i64_w, i32_w]; rfl
          refine pure_ (i := 4) (N := some 44) (v := ?_) (a' := ?_) (bm 9 29) rfl rfl (any_of HT_.out sqF) (fun _ _ _ h => h) (Or.inl ⟨by rfl, ?_⟩) ?_ ?_
          rotate_left
          ·intro w'
           go_simp; with_reducible rfl
          rotate_left
          ·simp only [Act.put, sqA, i64_w, i32_w]; rfl
          refine take_ (i := 1) (N := some 41) (v := ?_) (a' := ?_) (bm 9 31) rfl rfl (take_ofW HT_.out HW_.out sqF) (fun _ _ _ h => h) (Or.inl ⟨by rfl, ?_⟩) hHeld ?_ ?_
          rotate_left
          ·rintro w' ⟨s0, s1, s2⟩
           go_simp; with_reducible rfl
          rotate_left
          ·simp only [Act.put, sqA, i64_w, i32_w]; rfl
          refine take_ (i := 5) (N := some 45) (v := ?_) (a' := ?_) (bm 9 63) rfl rfl (take_ofW HT_.out HW_.out sqF) (fun _ _ _ h => h) (Or.inl ⟨by rfl, ?_⟩) hHeld ?_ ?_
          rotate_left
          ·rintro w' ⟨s0, s1, s2⟩
           go_simp; with_reducible rfl
          rotate_left
          ·simp only [Act.put, sqA, i64_w, i32_w]; rfl
          refine pure_ (i := 6) (N := some 46) (v := ?_) (a' := ?_) (bm 9 127) rfl rfl (any_of HT_.out sqF) (fun _ _ _ h => h) (Or.inl ⟨by rfl, ?_⟩) ?_ ?_
          rotate_left
          ·intro w'
           go_simp; with_reducible rfl
          rotate_left
          ·simp only [Act.put, sqA, i64_w, i32_w]; rfl
          refine pure_ (i := 7) (N := some 47) (v := ?_) (a' := ?_) (bm 9 255) rfl rfl (any_of HT_.out sqF) (fun _ _ _ h => h) (Or.inl ⟨by rfl, ?_⟩) ?_ ?_
          rotate_left
          ·intro w'
           go_simp; with_reducible rfl
          rotate_left
          ·simp only [Act.put, sqA, i64_w, i32_w]; rfl
          refine last_ (i := 8) (N := none) (bm 9 511) rfl rfl (one_of HT_.out sqF) (by decide) (fun K hK => ?_); have hs40 : w38.cell? ⟨gb348, 1, none⟩ = some (.int .i64 x349001_1) := (blk_cell BK348.out 1).trans rfl; have hfs40 := blk_frozen BK348.out 1; have hns40_0 := NB340_348.out; have hns40_1 := NB341_348.out; have hms40_0 := NB348_340.out; have hms40_1 := NB348_341.out; refine skip_ (w1 := ?_) (by rfl) rfl ?_ ?_
          rotate_left
          ·go_simp
           rfl
          refine hK.out _ _ ?_; clear hK K; refine done_ (done_of HT_.out sqF) ?_
          try go_wp2
          go_roundg k1
          case measure => have := HK1.out; omega
          case rel => exact ⟨(wrap64 (x6_1 + 1)), (rd t342 x6_1), (ji31), sqE, H', ⟨by have := HK1.out; omega⟩, ⟨by (with_reducible repeat (first | apply Kd.R_alloc | apply Kd.R_drewN | apply Kd.R_drew)); exact Kd.R_mono (Kd.R_far (p := ⟨gb348, 1, none⟩) (Kd.R_types HO_3.out BK348.out (by decide)) (fun _ hk => hk.2) (.int .i64 ji31)) (fun _ hk => hk.1)⟩, ⟨by (with_reducible repeat (first | apply Kd.R_alloc | apply Kd.R_drewN | apply Kd.R_drew)); exact Kd.R_mono (Kd.R_far (p := ⟨gb348, 1, none⟩) (Kd.R_types HO_4.out BK348.out (by decide)) (fun _ hk => hk.2) (.int .i64 ji31)) (fun _ hk => hk.1)⟩, ⟨sqX⟩, ⟨sqX⟩, ⟨by (with_reducible repeat (first | refine blk_drewN ?_ _ | refine blk_drew ?_ | refine blk_alloc ?_ _)); refine blk_put (cs := #[.int .i64 (rd t342 x6_1), .int .i64 x349001_1]) ?_ 1 _ rfl; (with_reducible repeat (first | refine blk_drewN ?_ _ | refine blk_drew ?_ | refine blk_alloc ?_ _)); exact BK348.out⟩, ⟨sqB HB⟩⟩
         ·rw [if_neg c30] at H
          exact absurd H (by simp)
        ·rw [if_neg c29] at H
         have c29b0 : decide ((rd t342 x6_1) < x349000_1) = false := decide_eq_false c29; clear c29
         by_cases c41 : x6_1 < (t345.length : Int)
         ·rw [if_pos c41] at H
          have c41b0 : decide (x6_1 < (t345.length : Int)) = true := decide_eq_true c41; clear c41; obtain ⟨ji42, hji42⟩ : ∃ j_ : Int, (mx x349001_1 (rd t345 x6_1)) = j_ := ⟨_, rfl⟩
          replace H : (rf_Missing.l0 k1 t342 t345 (wrap64 (x6_1 + 1)) x349000_1 ji42) = some (r1, r2) := by first | (rw [hji42] at H; exact H) | (simp only [hji42] at H ⊢; exact H)
          have hji42_ : (if x349001_1 < (rd t345 x6_1) then (rd t345 x6_1) else x349001_1) = ji42 := hji42; have H' := Aside0.mk H
          clear H; try go_wp2
          have n0_ := Aside0.mk (Kd.R_drew HO_3.out); have n1_ := Aside0.mk (Kd.R_drew HO_4.out); have n2_ := Aside0.mk (blk_drew BK340.out); have n3_ := Aside0.mk (blk_drew BK341.out); have n4_ := Aside0.mk (blk_drew BK348.out); have n5_ := Aside0.mk (below_drew1 HB.out); clear HO_3 HO_4 BK340 BK341 BK348 HB; have HO_3 := n0_; have HO_4 := n1_; have BK340 := n2_; have BK341 := n3_; have BK348 := n4_; have HB := n5_; clear n0_ n1_ n2_ n3_ n4_ n5_; obtain ⟨Ao44, co44, eo44⟩ := Kd.R_slice HO_3.out
          (first | subst eo44 | (injection eo44 with f1_ f2_ f3_; have f4_ := f1_.symm; have f5_ := f3_.symm; clear f1_ f2_ f3_; subst f4_; subst f5_))
          have p349 : 0 ≤ (x6_1 : Int) := sqD; have q349 : x6_1 < (t342.length : Int) := sqD; obtain ⟨ad349, e349, hx349_0⟩ := Kd.at_int (Kd.R_reads' HO_3.out).2.2 x6_1 p349 q349
          cases e349
          replace p349 := eq_true p349; replace q349 := eq_true q349; have p352 : 0 ≤ (x6_1 : Int) := sqD; have q352 : x6_1 < (t342.length : Int) := sqD; obtain ⟨ad352, e352, hx352_0⟩ := Kd.at_int (Kd.R_reads' HO_3.out).2.2 x6_1 p352 q352; obtain rfl : ad349 = ad352 := (by injection e352); replace p352 := eq_true p352; replace q352 := eq_true q352; refine start_ (n := 19) (S := fun w' => w'.cell? ⟨gb348, 0, none⟩ = some (.int .i64 x349000_1) ∧ w'.cell? ⟨gb348, 1, none⟩ = some (.int .i64 x349001_1) ∧ w'.cell? (ad349.add (x6_1).toNat) = some (.int .i64 (rd t342 x6_1)) ∧ w'.cell? (ad349.add (x6_1).toNat) = some (.int .i64 (rd t342 x6_1))) (ds := []) (bm 19 0) sqF rfl rfl ⟨(blk_cell BK348.out 0).trans rfl, (blk_cell BK348.out 1).trans rfl, hx349_0, hx352_0⟩ (fun hHeld => ?_); refine with_tabW rf_Missing.tab5 rf_Missing.bits5 (fun HT_ HW_ => ?_)
          generalize wr.drew = w43 at HO_3 HO_4 BK340 BK341 BK348 HB hx349_0 hx352_0 hHeld ⊢
          refine pure_ (i := 0) (N := some 16) (v := ?_) (a' := ?_) (bm 19 1) rfl rfl (any_of HT_.out sqF) (fun _ _ _ h => h) (Or.inl ⟨by rfl, ?_⟩) ?_ ?_
          rotate_left
          ·intro w'
           go_simp; with_reducible rfl
          rotate_left
          ·simp only [Act.put, sqA, i64_w, i32_w]; rfl
          refine pure_ (i := 1) (N := some 17) (v := ?_) (a' := ?_) (bm 19 3) rfl rfl (any_of HT_.out sqF) (fun _ _ _ h => h) (Or.inl ⟨by rfl, ?_⟩) ?_ ?_
          rotate_left
          ·intro w'
           go_simp; with_reducible rfl
          rotate_left
          ·simp only [Act.put, sqA, i64_w, i32_w]; rfl
          refine pure_ (i := 2) (N := some 18) (v := ?_) (a' := ?_) (bm 19 7) rfl rfl (any_of HT_.out sqF) (fun _ _ _ h => h) (Or.inl ⟨by rfl, ?_⟩) ?_ ?_
          rotate_left
          ·intro w'
           go_simp; with_reducible rfl
          rotate_left
          ·simp only [Act.put, sqA, i64_w, i32_w]; rfl
          refine take_ (i := 3) (N := some 19) (v := ?_) (a' := ?_) (bm 19 15) rfl rfl (take_ofW HT_.out HW_.out sqF) (fun _ _ _ h => h) (Or.inl ⟨by rfl, ?_⟩) hHeld ?_ ?_
          rotate_left
          ·rintro w' ⟨s0, s1, s2, s3⟩
           go_simp; with_reducible rfl
          rotate_left
          ·simp only [Act.put, sqA, i64_w, i32_w]; rfl
          refine pure_ (i := 4) (N := some 20) (v := ?_) (a' := ?_) (bm 19 31) rfl rfl (any_of HT_.out sqF) (fun _ _ _ h => h) (Or.inl ⟨by rfl, ?_⟩) ?_ ?_
          rotate_left
          ·intro w'
           go_simp; with_reducible rfl
          rotate_left
          ·simp only [Act.put, sqA, i64_w, i32_w]; rfl
          refine pure_ (i := 5) (N := some 21) (v := ?_) (a' := ?_) (bm 19 63) rfl rfl (any_of HT_.out sqF) (fun _ _ _ h => h) (Or.inl ⟨by rfl, ?_⟩) ?_ ?_
          rotate_left
          ·intro w'
           go_simp; with_reducible rfl
          rotate_left
          ·simp only [Act.put, sqA, i64_w, i32_w]; rfl
          refine pure_ (i := 6) (N := some 22) (v := ?_) (a' := ?_) (bm 19 127) rfl rfl (any_of HT_.out sqF) (fun _ _ _ h => h) (Or.inl ⟨by rfl, ?_⟩) ?_ ?_
          rotate_left
          ·intro w'
           go_simp; with_reducible rfl
          rotate_left
          ·simp only [Act.put, sqA, i64_w, i32_w]; rfl
          refine take_ (i := 7) (N := some 23) (v := ?_) (a' := ?_) (bm 19 255) rfl rfl (take_ofW HT_.out HW_.out sqF) (fun _ _ _ h => h) (Or.inl ⟨by rfl, ?_⟩) hHeld ?_ ?_
          rotate_left
          ·rintro w' ⟨s0, s1, s2, s3⟩
           go_simp; with_reducible rfl
          rotate_left
          ·simp only [Act.put, sqA, i64_w, i32_w]; rfl
          refine pure_ (i := 8) (N := some 24) (v := ?_) (a' := ?_) (bm 19 511) rfl rfl (any_of HT_.out sqF) (fun _ _ _ h => h) (Or.inl ⟨by rfl, ?_⟩) ?_ ?_
          rotate_left
          ·intro w'
           go_simp; with_reducible rfl
          rotate_left
          ·simp only [Act.put, sqA, i64_w, i32_w]; rfl
          refine pure_ (i := 9) (N := some 25) (v := ?_) (a' := ?_) (bm 19 1023) rfl rfl (any_of HT_.out sqF) (fun _ _ _ h => h) (Or.inl ⟨by rfl, ?_⟩) ?_ ?_
          rotate_left
          ·intro w'
           go_simp; with_reducible rfl
          rotate_left
          ·simp only [Act.put, sqA, i64_w, i32_w]; rfl
          refine pure_ (i := 10) (N := some 26) (v := ?_) (a' := ?_) (bm 19 2047) rfl rfl (any_of HT_.out sqF) (fun _ _ _ h => h) (Or.inl ⟨by rfl, ?_⟩) ?_ ?_
          rotate_left
          ·intro w'
           go_simp; with_reducible rfl
          rotate_left
          ·simp only [Act.put, sqA, i64_w, i32_w]; rfl
          refine pure_ (i := 11) (N := some 27) (v := ?_) (a' := ?_) (bm 19 4095) rfl rfl (any_of HT_.out sqF) (fun _ _ _ h => h) (Or.inl ⟨by rfl, ?_⟩) ?_ ?_
          rotate_left
          ·intro w'
           go_simp; with_reducible rfl
          rotate_left
          ·simp only [Act.put, sqA, i64_w, i32_w]; rfl
          refine pure_ (i := 12) (N := some 28) (v := ?_) (a' := ?_) (bm 19 8191) rfl rfl (any_of HT_.out sqF) (fun _ _ _ h => h) (Or.inl ⟨by rfl, ?_⟩) ?_ ?_
          rotate_left
          ·intro w'
           go_simp; with_reducible rfl
          rotate_left
          ·simp only [Act.put, sqA, i64_w, i32_w]; rfl
          refine pure_ (i := 14) (N := some 30) (v := ?_) (a' := ?_) (bm 19 24575) rfl rfl (any_of HT_.out sqF) (fun _ _ _ h => h) (Or.inl ⟨by rfl, ?_⟩) ?_ ?_
          rotate_left
          ·intro w'
           go_simp; with_reducible rfl
          rotate_left
          ·simp only [Act.put, sqA, i64_w, i32_w]; rfl
          refine take_ (i := 13) (N := some 29) (v := ?_) (a' := ?_) (bm 19 32767) rfl rfl (take_ofW HT_.out HW_.out sqF) (fun _ _ _ h => h) (Or.inl ⟨by rfl, ?_⟩) hHeld ?_ ?_
          rotate_left
          ·rintro w' ⟨s0, s1, s2, s3⟩
           go_simp; with_reducible rfl
          rotate_left
          ·simp only [Act.put, sqA, i64_w, i32_w]; rfl
          refine take_ (i := 15) (N := some 31) (v := ?_) (a' := ?_) (bm 19 65535) rfl rfl (take_ofW HT_.out HW_.out sqF) (fun _ _ _ h => h) (Or.inl ⟨by rfl, ?_⟩) hHeld ?_ ?_
          rotate_left
          ·rintro w' ⟨s0, s1, s2, s3⟩
           go_simp; with_reducible rfl
          rotate_left
          ·simp only [Act.put, sqA, i64_w, i32_w]; rfl
          refine pure_ (i := 16) (N := some 32) (v := ?_) (a' := ?_) (bm 19 131071) rfl rfl (any_of HT_.out sqF) (fun _ _ _ h => h) (Or.inl ⟨by rfl, ?_⟩) ?_ ?_
          rotate_left
          ·intro w'
           go_simp; with_reducible rfl
          rotate_left
          ·simp only [Act.put, sqA, i64_w, i32_w]; rfl
          refine pure_ (i := 17) (N := some 33) (v := ?_) (a' := ?_) (bm 19 262143) rfl rfl (any_of HT_.out sqF) (fun _ _ _ h => h) (Or.inl ⟨by rfl, ?_⟩) ?_ ?_
          rotate_left
          ·intro w'
           go_simp; with_reducible rfl
          rotate_left
          ·simp only [Act.put, sqA, i64_w, i32_w]; rfl
          refine pure_ (i := 18) (N := some 34) (v := ?_) (a' := ?_) (bm 19 524287) rfl rfl (any_of HT_.out sqF) (fun _ _ _ h => h) (Or.inl ⟨by rfl, ?_⟩) ?_ ?_
          rotate_left
          ·intro w'
           go_simp; with_reducible rfl
          rotate_left
          ·simp only [Act.put, sqA, i64_w, i32_w]; rfl
          refine done_ (done_of HT_.out sqF) ?_
          try go_wp2
          have n0_ := Aside0.mk (Kd.R_drew HO_3.out); have n1_ := Aside0.mk (Kd.R_drew HO_4.out); have n2_ := Aside0.mk (blk_drew BK340.out); have n3_ := Aside0.mk (blk_drew BK341.out); have n4_ := Aside0.mk (blk_drew BK348.out); have n5_ := Aside0.mk (below_drew1 HB.out); clear HO_3 HO_4 BK340 BK341 BK348 HB; have HO_3 := n0_; have HO_4 := n1_; have BK340 := n2_; have BK341 := n3_; have BK348 := n4_; have HB := n5_; clear n0_ n1_ n2_ n3_ n4_ n5_; obtain ⟨Ao46, co46, eo46⟩ := Kd.R_slice HO_4.out
          (first | subst eo46 | (injection eo46 with f1_ f2_ f3_; have f4_ := f1_.symm; have f5_ := f3_.symm; clear f1_ f2_ f3_; subst f4_; subst f5_))
          have p355 : 0 ≤ (x6_1 : Int) := sqD; have q355 : x6_1 < (t345.length : Int) := sqD; obtain ⟨ad355, e355, hx355_0⟩ := Kd.at_int (Kd.R_reads' HO_4.out).2.2 x6_1 p355 q355
          cases e355
          replace p355 := eq_true p355; replace q355 := eq_true q355; refine start_ (n := 9) (S := fun w' => w'.cell? ⟨gb348, 0, none⟩ = some (.int .i64 x349000_1) ∧ w'.cell? ⟨gb348, 1, none⟩ = some (.int .i64 x349001_1) ∧ w'.cell? (ad355.add (x6_1).toNat) = some (.int .i64 (rd t345 x6_1))) (ds := [8]) (bm 9 0) sqF rfl rfl ⟨(blk_cell BK348.out 0).trans rfl, (blk_cell BK348.out 1).trans rfl, hx355_0⟩ (fun hHeld => ?_); refine with_tabW rf_Missing.tab7 rf_Missing.bits7 (fun HT_ HW_ => ?_)
          generalize w43.drew = w45 at HO_3 HO_4 BK340 BK341 BK348 HB hx355_0 hHeld ⊢
          refine pure_ (i := 0) (N := some 40) (v := ?_) (a' := ?_) (bm 9 1) rfl rfl (any_of HT_.out sqF) (fun _ _ _ h => h) (Or.inl ⟨by rfl, ?_⟩) ?_ ?_
          rotate_left
          ·intro w'
           go_simp; with_reducible rfl
          rotate_left
          ·simp only [Act.put, sqA, i64_w, i32_w]; rfl
          refine pure_ (i := 2) (N := some 42) (v := ?_) (a' := ?_) (bm 9 5) rfl rfl (any_of HT_.out sqF) (fun _ _ _ h => h) (Or.inl ⟨by rfl, ?_⟩) ?_ ?_
          rotate_left
          ·intro w'
           go_simp; with_reducible rfl
          rotate_left
          ·simp only [Act.put, sqA, i64_w, i32_w]; rfl
          refine pure_ (i := 3) (N := some 43) (v := ?_) (a' := ?_) (bm 9 13) rfl rfl (any_of HT_.out sqF) (fun _ _ _ h => h) (Or.inl ⟨by rfl, ?_⟩) ?_ ?_
          rotate_left
          ·intro w'
           go_simp; with_reducible rfl
          rotate_left
          ·simp only [Act.put, sqA, i64_w, i32_w]; rfl
          refine pure_ (i := 4) (N := some 44) (v := ?_) (a' := ?_) (bm 9 29) rfl rfl (any_of HT_.out sqF) (fun _ _ _ h => h) (Or.inl ⟨by rfl, ?_⟩) ?_ ?_
          rotate_left
          ·intro w'
           go_simp; with_reducible rfl
          rotate_left
          ·simp only [Act.put, sqA, i64_w, i32_w]; rfl
          refine take_ (i := 1) (N := some 41) (v := ?_) (a' := ?_) (bm 9 31) rfl rfl (take_ofW HT_.out HW_.out sqF) (fun _ _ _ h => h) (Or.inl ⟨by rfl, ?_⟩) hHeld ?_ ?_
          rotate_left
          ·rintro w' ⟨s0, s1, s2⟩
           go_simp; with_reducible rfl
          rotate_left
          ·simp only [Act.put, sqA, i64_w, i32_w]; rfl
          refine take_ (i := 5) (N := some 45) (v := ?_) (a' := ?_) (bm 9 63) rfl rfl (take_ofW HT_.out HW_.out sqF) (fun _ _ _ h => h) (Or.inl ⟨by rfl, ?_⟩) hHeld ?_ ?_
          rotate_left
          ·rintro w' ⟨s0, s1, s2⟩
           go_simp; with_reducible rfl
          rotate_left
          ·simp only [Act.put, sqA, i64_w, i32_w]; rfl
          refine pure_ (i := 6) (N := some 46) (v := ?_) (a' := ?_) (bm 9 127) rfl rfl (any_of HT_.out sqF) (fun _ _ _ h => h) (Or.inl ⟨by rfl, ?_⟩) ?_ ?_
          rotate_left
          ·intro w'
           go_simp; with_reducible rfl
          rotate_left
          ·simp only [Act.put, sqA, i64_w, i32_w]; rfl
          refine pure_ (i := 7) (N := some 47) (v := ?_) (a' := ?_) (bm 9 255) rfl rfl (any_of HT_.out sqF) (fun _ _ _ h => h) (Or.inl ⟨by rfl, ?_⟩) ?_ ?_
          rotate_left
          ·intro w'
           go_simp; with_reducible rfl
          rotate_left
          ·simp only [Act.put, sqA, i64_w, i32_w]; rfl
          refine last_ (i := 8) (N := none) (bm 9 511) rfl rfl (one_of HT_.out sqF) (by decide) (fun K hK => ?_); have hs47 : w45.cell? ⟨gb348, 1, none⟩ = some (.int .i64 x349001_1) := (blk_cell BK348.out 1).trans rfl; have hfs47 := blk_frozen BK348.out 1; have hns47_0 := NB340_348.out; have hns47_1 := NB341_348.out; have hms47_0 := NB348_340.out; have hms47_1 := NB348_341.out; refine skip_ (w1 := ?_) (by rfl) rfl ?_ ?_
          rotate_left
          ·go_simp
           rfl
          refine hK.out _ _ ?_; clear hK K; refine done_ (done_of HT_.out sqF) ?_
          try go_wp2
          go_roundg k1
          case measure => have := HK1.out; omega
          case rel => exact ⟨(wrap64 (x6_1 + 1)), (x349000_1), (ji42), sqE, H', ⟨by have := HK1.out; omega⟩, ⟨by (with_reducible repeat (first | apply Kd.R_alloc | apply Kd.R_drewN | apply Kd.R_drew)); exact Kd.R_mono (Kd.R_far (p := ⟨gb348, 1, none⟩) (Kd.R_types HO_3.out BK348.out (by decide)) (fun _ hk => hk.2) (.int .i64 ji42)) (fun _ hk => hk.1)⟩, ⟨by (with_reducible repeat (first | apply Kd.R_alloc | apply Kd.R_drewN | apply Kd.R_drew)); exact Kd.R_mono (Kd.R_far (p := ⟨gb348, 1, none⟩) (Kd.R_types HO_4.out BK348.out (by decide)) (fun _ hk => hk.2) (.int .i64 ji42)) (fun _ hk => hk.1)⟩, ⟨sqX⟩, ⟨sqX⟩, ⟨by (with_reducible repeat (first | refine blk_drewN ?_ _ | refine blk_drew ?_ | refine blk_alloc ?_ _)); refine blk_put (cs := #[.int .i64 x349000_1, .int .i64 x349001_1]) ?_ 1 _ rfl; (with_reducible repeat (first | refine blk_drewN ?_ _ | refine blk_drew ?_ | refine blk_alloc ?_ _)); exact BK348.out⟩, ⟨sqB HB⟩⟩
         ·rw [if_neg c41] at H
          exact absurd H (by simp)
      ·rw [if_neg c16] at H
       have c16b0 : decide (0 ≤ (rd t342 x6_1)) = false := decide_eq_false c16; clear c16
       by_cases c48 : x6_1 < (t345.length : Int)
       ·rw [if_pos c48] at H
        have c48b0 : decide (x6_1 < (t345.length : Int)) = true := decide_eq_true c48; clear c48; obtain ⟨ji49, hji49⟩ : ∃ j_ : Int, (mx x349001_1 (rd t345 x6_1)) = j_ := ⟨_, rfl⟩
        replace H : (rf_Missing.l0 k1 t342 t345 (wrap64 (x6_1 + 1)) x349000_1 ji49) = some (r1, r2) := by first | (rw [hji49] at H; exact H) | (simp only [hji49] at H ⊢; exact H)
        have hji49_ : (if x349001_1 < (rd t345 x6_1) then (rd t345 x6_1) else x349001_1) = ji49 := hji49; have H' := Aside0.mk H
        clear H; try go_wp2
        have n0_ := Aside0.mk (Kd.R_drew HO_3.out); have n1_ := Aside0.mk (Kd.R_drew HO_4.out); have n2_ := Aside0.mk (blk_drew BK340.out); have n3_ := Aside0.mk (blk_drew BK341.out); have n4_ := Aside0.mk (blk_drew BK348.out); have n5_ := Aside0.mk (below_drew1 HB.out); clear HO_3 HO_4 BK340 BK341 BK348 HB; have HO_3 := n0_; have HO_4 := n1_; have BK340 := n2_; have BK341 := n3_; have BK348 := n4_; have HB := n5_; clear n0_ n1_ n2_ n3_ n4_ n5_; obtain ⟨Ao51, co51, eo51⟩ := Kd.R_slice HO_3.out
        (first | subst eo51 | (injection eo51 with f1_ f2_ f3_; have f4_ := f1_.symm; have f5_ := f3_.symm; clear f1_ f2_ f3_; subst f4_; subst f5_))
        have p349 : 0 ≤ (x6_1 : Int) := sqD; have q349 : x6_1 < (t342.length : Int) := sqD; obtain ⟨ad349, e349, hx349_0⟩ := Kd.at_int (Kd.R_reads' HO_3.out).2.2 x6_1 p349 q349
        cases e349
        replace p349 := eq_true p349; replace q349 := eq_true q349; refine start_ (n := 19) (S := fun w' => w'.cell? (ad349.add (x6_1).toNat) = some (.int .i64 (rd t342 x6_1))) (ds := []) (bm 19 0) sqF rfl rfl (hx349_0) (fun hHeld => ?_); refine with_tabW rf_Missing.tab5 rf_Missing.bits5 (fun HT_ HW_ => ?_)
        generalize wr.drew = w50 at HO_3 HO_4 BK340 BK341 BK348 HB hx349_0 hHeld ⊢
        refine pure_ (i := 0) (N := some 16) (v := ?_) (a' := ?_) (bm 19 1) rfl rfl (any_of HT_.out sqF) (fun _ _ _ h => h) (Or.inl ⟨by rfl, ?_⟩) ?_ ?_
        rotate_left
        ·intro w'
         go_simp; with_reducible rfl
        rotate_left
        ·simp only [Act.put, sqA, i64_w, i32_w]; rfl
        refine pure_ (i := 1) (N := some 17) (v := ?_) (a' := ?_) (bm 19 3) rfl rfl (any_of HT_.out sqF) (fun _ _ _ h => h) (Or.inl ⟨by rfl, ?_⟩) ?_ ?_
        rotate_left
        ·intro w'
         go_simp; with_reducible rfl
        rotate_left
        ·simp only [Act.put, sqA, i64_w, i32_w]; rfl
        refine pure_ (i := 2) (N := some 18) (v := ?_) (a' := ?_) (bm 19 7) rfl rfl (any_of HT_.out sqF) (fun _ _ _ h => h) (Or.inl ⟨by rfl, ?_⟩) ?_ ?_
        rotate_left
        ·intro w'
         go_simp; with_reducible rfl
        rotate_left
        ·simp only [Act.put, sqA, i64_w, i32_w]; rfl
        refine take_ (i := 3) (N := some 19) (v := ?_) (a' := ?_) (bm 19 15) rfl rfl (take_ofW HT_.out HW_.out sqF) (fun _ _ _ h => h) (Or.inl ⟨by rfl, ?_⟩) hHeld ?_ ?_
        rotate_left
        ·intro w' s0
         go_simp; with_reducible rfl
        rotate_left
        ·simp only [Act.put, sqA, i64_w, i32_w]; rfl
        refine pure_ (i := 4) (N := some 20) (v := ?_) (a' := ?_) (bm 19 31) rfl rfl (any_of HT_.out sqF) (fun _ _ _ h => h) (Or.inl ⟨by rfl, ?_⟩) ?_ ?_
        rotate_left
        ·intro w'
         go_simp; with_reducible rfl
        rotate_left
        ·simp only [Act.put, sqA, i64_w, i32_w]; rfl
        refine pure_ (i := 5) (N := some 21) (v := ?_) (a' := ?_) (bm 19 63) rfl rfl (any_of HT_.out sqF) (fun _ _ _ h => h) (Or.inl ⟨by rfl, ?_⟩) ?_ ?_
        rotate_left
        ·intro w'
         go_simp; with_reducible rfl
        rotate_left
        ·simp only [Act.put, sqA, i64_w, i32_w]; rfl
        refine pure_ (i := 6) (N := some 22) (v := undef) (a' := ?_) (bm 19 127) rfl rfl (any_of HT_.out sqF) (fun _ _ _ h => h) (Or.inr ⟨by rfl, rfl⟩) ?_ ?_
        rotate_left
        ·simp only [Act.put, sqA, i64_w, i32_w]; rfl
        refine pure_ (i := 7) (N := some 23) (v := undef) (a' := ?_) (bm 19 255) rfl rfl (any_of HT_.out sqF) (fun _ _ _ h => h) (Or.inr ⟨by rfl, rfl⟩) ?_ ?_
        rotate_left
        ·simp only [Act.put, sqA, i64_w, i32_w]; rfl
        refine pure_ (i := 8) (N := some 24) (v := undef) (a' := ?_) (bm 19 511) rfl rfl (any_of HT_.out sqF) (fun _ _ _ h => h) (Or.inr ⟨by rfl, rfl⟩) ?_ ?_
        rotate_left
        ·simp only [Act.put, sqA, i64_w, i32_w]; rfl
        refine pure_ (i := 9) (N := some 25) (v := undef) (a' := ?_) (bm 19 1023) rfl rfl (any_of HT_.out sqF) (fun _ _ _ h => h) (Or.inr ⟨by rfl, rfl⟩) ?_ ?_
        rotate_left
        ·simp only [Act.put, sqA, i64_w, i32_w]; rfl
        refine pure_ (i := 10) (N := some 26) (v := undef) (a' := ?_) (bm 19 2047) rfl rfl (any_of HT_.out sqF) (fun _ _ _ h => h) (Or.inr ⟨by rfl, rfl⟩) ?_ ?_
        rotate_left
        ·simp only [Act.put, sqA, i64_w, i32_w]; rfl
        refine pure_ (i := 11) (N := some 27) (v := undef) (a' := ?_) (bm 19 4095) rfl rfl (any_of HT_.out sqF) (fun _ _ _ h => h) (Or.inr ⟨by rfl, rfl⟩) ?_ ?_
        rotate_left
        ·simp only [Act.put, sqA, i64_w, i32_w]; rfl
        refine pure_ (i := 12) (N := some 28) (v := undef) (a' := ?_) (bm 19 8191) rfl rfl (any_of HT_.out sqF) (fun _ _ _ h => h) (Or.inr ⟨by rfl, rfl⟩) ?_ ?_
        rotate_left
        ·simp only [Act.put, sqA, i64_w, i32_w]; rfl
        refine pure_ (i := 13) (N := some 29) (v := undef) (a' := ?_) (bm 19 16383) rfl rfl (any_of HT_.out sqF) (fun _ _ _ h => h) (Or.inr ⟨by rfl, rfl⟩) ?_ ?_
        rotate_left
        ·simp only [Act.put, sqA, i64_w, i32_w]; rfl
        refine pure_ (i := 14) (N := some 30) (v := undef) (a' := ?_) (bm 19 32767) rfl rfl (any_of HT_.out sqF) (fun _ _ _ h => h) (Or.inr ⟨by rfl, rfl⟩) ?_ ?_
        rotate_left
        ·simp only [Act.put, sqA, i64_w, i32_w]; rfl
        refine pure_ (i := 15) (N := some 31) (v := undef) (a' := ?_) (bm 19 65535) rfl rfl (any_of HT_.out sqF) (fun _ _ _ h => h) (Or.inr ⟨by rfl, rfl⟩) ?_ ?_
        rotate_left
        ·simp only [Act.put, sqA, i64_w, i32_w]; rfl
        refine pure_ (i := 16) (N := some 32) (v := undef) (a' := ?_) (bm 19 131071) rfl rfl (any_of HT_.out sqF) (fun _ _ _ h => h) (Or.inr ⟨by rfl, rfl⟩) ?_ ?_
        rotate_left
        ·simp only [Act.put, sqA, i64_w, i32_w]; rfl
        refine pure_ (i := 17) (N := some 33) (v := undef) (a' := ?_) (bm 19 262143) rfl rfl (any_of HT_.out sqF) (fun _ _ _ h => h) (Or.inr ⟨by rfl, rfl⟩) ?_ ?_
        rotate_left
        ·simp only [Act.put, sqA, i64_w, i32_w]; rfl
        refine pure_ (i := 18) (N := some 34) (v := ?_) (a' := ?_) (bm 19 524287) rfl rfl (any_of HT_.out sqF) (fun _ _ _ h => h) (Or.inl ⟨by rfl, ?_⟩) ?_ ?_
        rotate_left
        ·intro w'
         go_simp; with_reducible rfl
        rotate_left
        ·simp only [Act.put, sqA, i64_w, i32_w]; rfl
        refine done_ (done_of HT_.out sqF) ?_
        try go_wp2
        have n0_ := Aside0.mk (Kd.R_drew HO_3.out); have n1_ := Aside0.mk (Kd.R_drew HO_4.out); have n2_ := Aside0.mk (blk_drew BK340.out); have n3_ := Aside0.mk (blk_drew BK341.out); have n4_ := Aside0.mk (blk_drew BK348.out); have n5_ := Aside0.mk (below_drew1 HB.out); clear HO_3 HO_4 BK340 BK341 BK348 HB; have HO_3 := n0_; have HO_4 := n1_; have BK340 := n2_; have BK341 := n3_; have BK348 := n4_; have HB := n5_; clear n0_ n1_ n2_ n3_ n4_ n5_; obtain ⟨Ao53, co53, eo53⟩ := Kd.R_slice HO_4.out
        (first | subst eo53 | (injection eo53 with f1_ f2_ f3_; have f4_ := f1_.symm; have f5_ := f3_.symm; clear f1_ f2_ f3_; subst f4_; subst f5_))
        have p356 : 0 ≤ (x6_1 : Int) := sqD; have q356 : x6_1 < (t345.length : Int) := sqD; obtain ⟨ad356, e356, hx356_0⟩ := Kd.at_int (Kd.R_reads' HO_4.out).2.2 x6_1 p356 q356
        cases e356
        replace p356 := eq_true p356; replace q356 := eq_true q356; refine start_ (n := 9) (S := fun w' => w'.cell? ⟨gb348, 0, none⟩ = some (.int .i64 x349000_1) ∧ w'.cell? ⟨gb348, 1, none⟩ = some (.int .i64 x349001_1) ∧ w'.cell? (ad356.add (x6_1).toNat) = some (.int .i64 (rd t345 x6_1))) (ds := [8]) (bm 9 0) sqF rfl rfl ⟨(blk_cell BK348.out 0).trans rfl, (blk_cell BK348.out 1).trans rfl, hx356_0⟩ (fun hHeld => ?_); refine with_tabW rf_Missing.tab7 rf_Missing.bits7 (fun HT_ HW_ => ?_)
        generalize w50.drew = w52 at HO_3 HO_4 BK340 BK341 BK348 HB hx356_0 hHeld ⊢
        refine pure_ (i := 0) (N := some 40) (v := ?_) (a' := ?_) (bm 9 1) rfl rfl (any_of HT_.out sqF) (fun _ _ _ h => h) (Or.inl ⟨by rfl, ?_⟩) ?_ ?_
        rotate_left
        ·intro w'
         go_simp; with_reducible rfl
        rotate_left
        ·simp only [Act.put, sqA, i64_w, i32_w]; rfl
        refine pure_ (i := 2) (N := some 42) (v := ?_) (a' := ?_) (bm 9 5) rfl rfl (any_of HT_.out sqF) (fun _ _ _ h => h) (Or.inl ⟨by rfl, ?_⟩) ?_ ?_
        rotate_left
        ·intro w'
         go_simp; with_reducible rfl
        rotate_left
        ·simp only [Act.put, sqA, i64_w, i32_w]; rfl
        refine pure_ (i := 3) (N := some 43) (v := ?_) (a' := ?_) (bm 9 13) rfl rfl (any_of HT_.out sqF) (fun _ _ _ h => h) (Or.inl ⟨by rfl, ?_⟩) ?_ ?_
        rotate_left
        ·intro w'
         go_simp; with_reducible rfl
        rotate_left
        ·simp only [Act.put, sqA, i64_w, i32_w]; rfl
        refine pure_ (i := 4) (N := some 44) (v := ?_) (a' := ?_) (bm 9 29) rfl rfl (any_of HT_.out sqF) (fun _ _ _ h => h) (Or.inl ⟨by rfl, ?_⟩) ?_ ?_
        rotate_left
        ·intro w'
         go_simp; with_reducible rfl
        rotate_left
        ·simp only [Act.put, sqA, i64_w, i32_w]; rfl
        refine take_ (i := 1) (N := some 41) (v := ?_) (a' := ?_) (bm 9 31) rfl rfl (take_ofW HT_.out HW_.out sqF) (fun _ _ _ h => h) (Or.inl ⟨by rfl, ?_⟩) hHeld ?_ ?_
        rotate_left
        ·rintro w' ⟨s0, s1, s2⟩
         go_simp; with_reducible rfl
        rotate_left
        ·simp only [Act.put, sqA, i64_w, i32_w]; rfl
        refine take_ (i := 5) (N := some 45) (v := ?_) (a' := ?_) (bm 9 63) rfl rfl (take_ofW HT_.out HW_.out sqF) (fun _ _ _ h => h) (Or.inl ⟨by rfl, ?_⟩) hHeld ?_ ?_
        rotate_left
        ·rintro w' ⟨s0, s1, s2⟩
         go_simp; with_reducible rfl
        rotate_left
        ·simp only [Act.put, sqA, i64_w, i32_w]; rfl
        refine pure_ (i := 6) (N := some 46) (v := ?_) (a' := ?_) (bm 9 127) rfl rfl (any_of HT_.out sqF) (fun _ _ _ h => h) (Or.inl ⟨by rfl, ?_⟩) ?_ ?_
        rotate_left
        ·intro w'
         go_simp; with_reducible rfl
        rotate_left
        ·simp only [Act.put, sqA, i64_w, i32_w]; rfl
        refine pure_ (i := 7) (N := some 47) (v := ?_) (a' := ?_) (bm 9 255) rfl rfl (any_of HT_.out sqF) (fun _ _ _ h => h) (Or.inl ⟨by rfl, ?_⟩) ?_ ?_
        rotate_left
        ·intro w'
         go_simp; with_reducible rfl
        rotate_left
        ·simp only [Act.put, sqA, i64_w, i32_w]; rfl
        refine last_ (i := 8) (N := none) (bm 9 511) rfl rfl (one_of HT_.out sqF) (by decide) (fun K hK => ?_); have hs54 : w52.cell? ⟨gb348, 1, none⟩ = some (.int .i64 x349001_1) := (blk_cell BK348.out 1).trans rfl; have hfs54 := blk_frozen BK348.out 1; have hns54_0 := NB340_348.out; have hns54_1 := NB341_348.out; have hms54_0 := NB348_340.out; have hms54_1 := NB348_341.out; refine skip_ (w1 := ?_) (by rfl) rfl ?_ ?_
        rotate_left
        ·go_simp
         rfl
        refine hK.out _ _ ?_; clear hK K; refine done_ (done_of HT_.out sqF) ?_
        try go_wp2
        go_roundg k1
        case measure => have := HK1.out; omega
        case rel => exact ⟨(wrap64 (x6_1 + 1)), (x349000_1), (ji49), sqE, H', ⟨by have := HK1.out; omega⟩, ⟨by (with_reducible repeat (first | apply Kd.R_alloc | apply Kd.R_drewN | apply Kd.R_drew)); exact Kd.R_mono (Kd.R_far (p := ⟨gb348, 1, none⟩) (Kd.R_types HO_3.out BK348.out (by decide)) (fun _ hk => hk.2) (.int .i64 ji49)) (fun _ hk => hk.1)⟩, ⟨by (with_reducible repeat (first | apply Kd.R_alloc | apply Kd.R_drewN | apply Kd.R_drew)); exact Kd.R_mono (Kd.R_far (p := ⟨gb348, 1, none⟩) (Kd.R_types HO_4.out BK348.out (by decide)) (fun _ hk => hk.2) (.int .i64 ji49)) (fun _ hk => hk.1)⟩, ⟨sqX⟩, ⟨sqX⟩, ⟨by (with_reducible repeat (first | refine blk_drewN ?_ _ | refine blk_drew ?_ | refine blk_alloc ?_ _)); refine blk_put (cs := #[.int .i64 x349000_1, .int .i64 x349001_1]) ?_ 1 _ rfl; (with_reducible repeat (first | refine blk_drewN ?_ _ | refine blk_drew ?_ | refine blk_alloc ?_ _)); exact BK348.out⟩, ⟨sqB HB⟩⟩
       ·rw [if_neg c48] at H
        exact absurd H (by simp)
     ·rw [if_neg c15] at H
      exact absurd H (by simp)
    ·rw [if_neg c14] at H
     exact absurd H (by simp)
   ·rw [if_neg c13] at H
    have c13b0 : decide (x6_1 ≤ 400) = false := decide_eq_false c13; clear c13; simp only [Option.some.injEq, Prod.mk.injEq] at H; obtain ⟨rfl, rfl⟩ := H; have hnb55 := NB348_340.out; have hnc55 := NB340_348.out; have hnb56 := NB348_341.out; have hnc56 := NB341_348.out; have hcz57_0 := sqc0 BK348; have hcz57_1 := sqc1 BK348; have hfz57_0 := blk_frozen BK348.out 0; have hfz57_1 := blk_frozen BK348.out 1; have hnb58 := NB341_340.out; have hnc58 := NB340_341.out; have hcz59_0 := sqc0 BK341; have hcz59_1 := sqc1 BK341; have hfz59_0 := blk_frozen BK341.out 0; have hfz59_1 := blk_frozen BK341.out 1
    go_wp2
    refine bodyPost_ret (results_cell_row rfl _ _ gb341 41 #[.int .i64 x349000_1, .int .i64 x349001_1] (0, 0) _ rfl (by (with_reducible repeat (first | refine blk_drewN ?_ _ | refine blk_drew ?_ | refine blk_alloc ?_ _)); refine blk_put (cs := #[.int .i64 x349000_1, .int .i64 0]) ?_ 1 _ rfl; (with_reducible repeat (first | refine blk_drewN ?_ _ | refine blk_drew ?_ | refine blk_alloc ?_ _)); refine blk_put (cs := #[.int .i64 0, .int .i64 0]) ?_ 0 _ rfl; (with_reducible repeat (first | refine blk_drewN ?_ _ | refine blk_drew ?_ | refine blk_alloc ?_ _)); exact BK341.out) Tryd.underlying41 rfl sqF) rfl ?_; exact ⟨by first | rfl | (simp [errW_none, errW_some] <;> rfl) | (simp [*, errW_none, errW_some] <;> rfl), sqB HB⟩
end Go.Proofs.YtemingmeidmjkaaDoor.Q
namespace Go.Proofs.YtemingmeidmjkaaDoor.Q
open Go.RowKit Go.Proofs.YtemingmeidmjkaaDoorW.PrintWords Go.Proofs.YtemingmeidmjkaaDoorW.PrintLast Go.Proofs.YtemingmeidmjkaaDoorW.PrintMore
attribute [local go_sem] max2_int min2_int max_two min_two max_three min_three max_four min_four   -- for this text's walks alone
set_option linter.unusedVariables false
set_option linter.unusedSimpArgs false
attribute [local go_sem high] eqA41
def lw_WoolMisses.j0 : Nat → Int → Int → Int → Int → Int → Int → Option (Bool)
 | 0, _, _, _, _, _, _ => none
 | k + 1, x5, x6, x371000, x371001, x374000, x374001 => if x6 = 0 then (if x5 = 0 then (if (x371000 == x374000 && (x371001 == x374001)) = true then ((lw_known.f).bind fun t376 => (some t376)) else (some false)) else (some false)) else (if x5 = x6 then (if (x371000 == 0 && (x371001 == 0)) = true then ((lw_known.f).bind fun t377 => (some t377)) else (some false)) else (some false))
def lw_WoolMisses.f (k : Nat) (l0_0 : List (S41)) (l0_1 : List (S80)) : Option (Bool) := (lw_long.f l0_0 l0_1).bind fun t358 => (if t358 = true then ((lw_known.f).bind fun t359 => (some t359)) else ((rf_Copy.f l0_0 l0_1).bind fun bt360 => ((wool_Missing.f bt360.1 bt360.2).bind fun bt367 => ((rf_Same.f k bt360.1 bt360.2 l0_0 l0_1).bind fun t371 => (if t371 = true then ((rf_Check.f k l0_0 l0_1).bind fun t372 => (if t372 = 0 then ((rf_Missing.f k l0_0 l0_1).bind fun bt374 => (if bt374.1 < 0 then (lw_WoolMisses.j0 k bt367.2.2 9 bt367.1 bt367.2.1 bt374.1 bt374.2) else (lw_WoolMisses.j0 k bt367.2.2 t372 bt367.1 bt367.2.1 bt374.1 bt374.2))) else (lw_WoolMisses.j0 k bt367.2.2 t372 bt367.1 bt367.2.1 0 0))) else (some false))))))
set_option maxHeartbeats 8000000 in
set_option maxRecDepth 100000 in
theorem lw_WoolMisses.calls (k : Nat) (A0_0 : Option Addr) (c0_0 : Nat) (l0_0 : List (S41)) (A0_1 : Option Addr) (c0_1 : Nat) (l0_1 : List (S80)) (r : Bool) (w : World) (hG : GL w) (hr0_0 : Kd.C k41 w A0_0 l0_0.length l0_0) (hc0_0 : l0_0.length ≤ c0_0) (hr0_1 : Kd.C k80 w A0_1 l0_1.length l0_1) (hc0_1 : l0_1.length ≤ c0_1) (h : lw_WoolMisses.f k l0_0 l0_1 = some r) :
  Calls Tryd.prog 4 #[.agg #[.slice A0_0 l0_0.length c0_0, .slice A0_1 l0_1.length c0_1]] w fun e w' => e = .returned (.bool r) ∧ Below w.heap.size w w' := by
 have hu25 := Tryd.underlying25; have hu41 := Tryd.underlying41; have HR0_0 := Aside0.mk hr0_0; have HC0_0 := Aside0.mk hc0_0; clear hr0_0 hc0_0; have HR0_1 := Aside0.mk hr0_1; have HC0_1 := Aside0.mk hc0_1; clear hr0_1 hc0_1; have HB := Aside0.mk (Below.refl w.heap.size w); have HGL := Aside0.mk hG; clear hG; have H : ((lw_long.f l0_0 l0_1).bind fun t358 => (if t358 = true then ((lw_known.f).bind fun t359 => (some t359)) else ((rf_Copy.f l0_0 l0_1).bind fun bt360 => ((wool_Missing.f bt360.1 bt360.2).bind fun bt367 => ((rf_Same.f k bt360.1 bt360.2 l0_0 l0_1).bind fun t371 => (if t371 = true then ((rf_Check.f k l0_0 l0_1).bind fun t372 => (if t372 = 0 then ((rf_Missing.f k l0_0 l0_1).bind fun bt374 => (if bt374.1 < 0 then (lw_WoolMisses.j0 k bt367.2.2 9 bt367.1 bt367.2.1 bt374.1 bt374.2) else (lw_WoolMisses.j0 k bt367.2.2 t372 bt367.1 bt367.2.1 bt374.1 bt374.2))) else (lw_WoolMisses.j0 k bt367.2.2 t372 bt367.1 bt367.2.1 0 0))) else (some false))))))) = some r := h; clear h; obtain ⟨t358, A20, H⟩ := Option.bind_eq_some_iff.mp H; have A2 := Aside0.mk A20; clear A20
 by_cases c3 : t358 = true
 ·subst c3
  rw [if_pos rfl] at H; obtain ⟨t359, A40, H⟩ := Option.bind_eq_some_iff.mp H; have A4 := Aside0.mk A40; clear A40; obtain rfl := Option.some.inj H
  go_enter Tryd.func4, Tryd.ntmps4
  go_wp2_with (first | ((with_reducible refine gate_dst (N := 1) rfl ?_); refine box_event ?hg (N := 1) ?hd (cs := #[.slice A0_0 l0_0.length c0_0, .slice A0_1 l0_1.length c0_1]) (t := 25) ?hr ?_; (case hd => rfl); (case hg => rfl); (case hr => first | (go_simp; done) | (go_simp; rfl)); intro gb357 hg w5 hbox hb; have BK357 := Aside0.mk (hbox); have GW357 := Aside0.mk (sqZ hg HB); have GE357 := Aside0.mk (sqZ hg HB); replace HB := sqb hb HB; clear hb hbox hg; have hcz6_0 := sqc0 BK357; have hcz6_1 := sqc1 BK357; have hfz6_0 := blk_frozen BK357.out 0; have hfz6_1 := blk_frozen BK357.out 1) | ((with_reducible refine gate_callee (f := 16) rfl ?_); refine goesL_ (some 9) rfl rfl Tryd.func16 sqF rfl #[.agg #[.slice A0_0 l0_0.length c0_0, .slice A0_1 l0_1.length c0_1]] rfl sqM ?_; (with_reducible refine (lw_long.calls _ _ l0_0 _ _ l0_1 true _ ?side1 ?side2 ?side3 ?side4 A2.out).mono ?_); (case side1 => exact sqQ HR0_0 HB); (case side2 => exact HC0_0.out); (case side3 => exact sqQ HR0_1 HB); (case side4 => exact HC0_1.out); rintro e w7 ⟨rfl, hb⟩; refine ⟨_, rfl, ?_⟩; replace BK357 := sqk BK357 hb; replace HB := sqb hb HB; (try clear hb); (try clear hb2); (try clear hk); (try clear hi)) | ((with_reducible refine gate_callee (f := 17) rfl ?_); refine goesL_ (some 10) rfl rfl Tryd.func17 sqF rfl #[] rfl sqM ?_; (with_reducible refine (lw_known.calls t359 _ ?sideG A4.out).mono ?_); (case sideG => exact (Kd.C_below HGL.out (sqB HB))); rintro e w8 ⟨rfl, hb⟩; refine ⟨_, rfl, ?_⟩; replace BK357 := sqk BK357 hb; replace HB := sqb hb HB; (try clear hb); (try clear hb2); (try clear hk); (try clear hi)))
  go_ret
  exact ⟨by first | rfl | (simp [errW_none, errW_some] <;> rfl) | (simp [*, errW_none, errW_some] <;> rfl), sqB HB⟩
 ·replace c3 := Bool.eq_false_iff.mpr c3
  subst c3; rw [if_neg Bool.false_ne_true] at H; obtain ⟨⟨t360, t363⟩, A90, H⟩ := Option.bind_eq_some_iff.mp H; replace H : ((wool_Missing.f t360 t363).bind fun bt367 => ((rf_Same.f k t360 t363 l0_0 l0_1).bind fun t371 => (if t371 = true then ((rf_Check.f k l0_0 l0_1).bind fun t372 => (if t372 = 0 then ((rf_Missing.f k l0_0 l0_1).bind fun bt374 => (if bt374.1 < 0 then (lw_WoolMisses.j0 k bt367.2.2 9 bt367.1 bt367.2.1 bt374.1 bt374.2) else (lw_WoolMisses.j0 k bt367.2.2 t372 bt367.1 bt367.2.1 bt374.1 bt374.2))) else (lw_WoolMisses.j0 k bt367.2.2 t372 bt367.1 bt367.2.1 0 0))) else (some false)))) = some r := H; have A9 := Aside0.mk A90; clear A90; obtain ⟨⟨t367, t368, t369⟩, A100, H⟩ := Option.bind_eq_some_iff.mp H; replace H : ((rf_Same.f k t360 t363 l0_0 l0_1).bind fun t371 => (if t371 = true then ((rf_Check.f k l0_0 l0_1).bind fun t372 => (if t372 = 0 then ((rf_Missing.f k l0_0 l0_1).bind fun bt374 => (if bt374.1 < 0 then (lw_WoolMisses.j0 k t369 9 t367 t368 bt374.1 bt374.2) else (lw_WoolMisses.j0 k t369 t372 t367 t368 bt374.1 bt374.2))) else (lw_WoolMisses.j0 k t369 t372 t367 t368 0 0))) else (some false))) = some r := H; have A10 := Aside0.mk A100; clear A100; obtain ⟨t371, A110, H⟩ := Option.bind_eq_some_iff.mp H; have A11 := Aside0.mk A110; clear A110
  by_cases c12 : t371 = true
  ·subst c12
   rw [if_pos rfl] at H; obtain ⟨t372, A130, H⟩ := Option.bind_eq_some_iff.mp H; have A13 := Aside0.mk A130; clear A130; have HC14 := Aside0.mk H; clear H; go_enter Tryd.func4, Tryd.ntmps4
   go_upto_if 26 with (first | ((with_reducible refine gate_dst (N := 1) rfl ?_); refine box_event ?hg (N := 1) ?hd (cs := #[.slice A0_0 l0_0.length c0_0, .slice A0_1 l0_1.length c0_1]) (t := 25) ?hr ?_; (case hd => rfl); (case hg => rfl); (case hr => first | (go_simp; done) | (go_simp; rfl)); intro gb357 hg w15 hbox hb; have BK357 := Aside0.mk (hbox); have GW357 := Aside0.mk (sqZ hg HB); have GE357 := Aside0.mk (sqZ hg HB); replace HB := sqb hb HB; clear hb hbox hg; have hcz16_0 := sqc0 BK357; have hcz16_1 := sqc1 BK357; have hfz16_0 := blk_frozen BK357.out 0; have hfz16_1 := blk_frozen BK357.out 1) | ((with_reducible refine gate_callee (f := 16) rfl ?_); refine goesL_ (some 9) rfl rfl Tryd.func16 sqF rfl #[.agg #[.slice A0_0 l0_0.length c0_0, .slice A0_1 l0_1.length c0_1]] rfl sqM ?_; (with_reducible refine (lw_long.calls _ _ l0_0 _ _ l0_1 false _ ?side1 ?side2 ?side3 ?side4 A2.out).mono ?_); (case side1 => exact sqQ HR0_0 HB); (case side2 => exact HC0_0.out); (case side3 => exact sqQ HR0_1 HB); (case side4 => exact HC0_1.out); rintro e w17 ⟨rfl, hb⟩; refine ⟨_, rfl, ?_⟩; replace BK357 := sqk BK357 hb; replace HB := sqb hb HB; (try clear hb); (try clear hb2); (try clear hk); (try clear hi); have hcz18_0 := sqc0 BK357; have hcz18_1 := sqc1 BK357; have hfz18_0 := blk_frozen BK357.out 0; have hfz18_1 := blk_frozen BK357.out 1) | ((with_reducible refine gate_callee (f := 18) rfl ?_); refine goesL_ (some 12) rfl rfl Tryd.func18 sqF rfl #[.agg #[.slice A0_0 l0_0.length c0_0, .slice A0_1 l0_1.length c0_1]] rfl sqM ?_; (with_reducible refine (rf_Copy.calls _ _ l0_0 _ _ l0_1 t360 t363 _ ?side1 ?side2 ?side3 ?side4 A9.out).mono ?_); (case side1 => exact sqQ HR0_0 HB); (case side2 => exact HC0_0.out); (case side3 => exact sqQ HR0_1 HB); (case side4 => exact HC0_1.out); rintro e w19 ⟨v361, v364, rfl, ho0, ho1, hb⟩; refine ⟨_, rfl, ?_⟩; have HO362 := Aside0.mk (Kd.R_lower ho0 (below_size (sqB HB))); have HO365 := Aside0.mk (Kd.R_lower ho1 (below_size (sqB HB))); replace BK357 := sqk BK357 hb; replace HB := sqb hb HB; (try clear hb); (try clear hb2); (try clear hk); (try clear hi); (try clear ho0); (try clear ho1)) | ((with_reducible refine gate_dst (N := 3) rfl ?_); refine box_event ?hg (N := 3) ?hd (cs := #[.slice none 0 0, .slice none 0 0]) (t := 25) ?hr ?_; (case hd => rfl); (case hg => rfl); (case hr => first | (go_simp; done) | (go_simp; rfl)); intro gb366 hg w20 hbox hb; replace HO362 := Aside0.mk (Kd.R_below (sqR HO362) hb); replace HO365 := Aside0.mk (Kd.R_below (sqR HO365) hb); have BK366 := Aside0.mk (hbox); have GW366 := Aside0.mk (sqZ hg HB); have GE366 := Aside0.mk (sqZ hg HB); replace HB := sqb hb HB; have NB357_366 := Aside0.mk (sqL hg BK357); have NB366_357 := Aside0.mk (sqG hg BK357); replace BK357 := sqk BK357 hb; clear hb hbox hg; obtain ⟨Ao21, co21, eo21⟩ := Kd.R_slice HO362.out; subst eo21; have hnb22 := NB366_357.out; have hnc22 := NB357_366.out; have hcz23_0 := sqc0 BK366; have hcz23_1 := sqc1 BK366; have hfz23_0 := blk_frozen BK366.out 0; have hfz23_1 := blk_frozen BK366.out 1; obtain ⟨Ao24, co24, eo24⟩ := Kd.R_slice HO365.out; subst eo24) | ((with_reducible refine gate_callee (f := 29) rfl ?_); refine goesL_ (some 15) rfl rfl Tryd.func29 sqF rfl #[.agg #[.slice Ao21 t360.length co21, .slice Ao24 t363.length co24]] rfl sqM ?_; (with_reducible refine (wool_Missing.calls _ _ t360 _ _ t363 t367 t368 t369 _ ?sideG ?side1 ?side2 ?side3 ?side4 A10.out).mono ?_); (case sideG => exact (Kd.C_below HGL.out (sqB HB))); (case side1 => refine (Kd.R_reads' (e := 41) (base := w.heap.size) (ok := fun k_ => True) (n := t360.length) (c := co21) ?_).2.2; exact (by (with_reducible repeat (first | apply Kd.R_alloc | apply Kd.R_drewN | apply Kd.R_drew)); exact (Kd.R_mono (Kd.R_far (p := ⟨gb366, 1, none⟩) (Kd.R_far (p := ⟨gb366, 0, none⟩) (Kd.R_types HO362.out BK366.out (by decide)) (fun _ hk => hk.2) (.slice Ao21 t360.length co21)) (fun _ hk => hk.2) (.slice Ao24 t363.length co24)) (fun _ h_ => h_.1)))); (case side2 => exact (Kd.R_reads' HO362.out).2.1); (case side3 => refine (Kd.R_reads' (e := 80) (base := w.heap.size) (ok := fun k_ => True) (n := t363.length) (c := co24) ?_).2.2; exact (by (with_reducible repeat (first | apply Kd.R_alloc | apply Kd.R_drewN | apply Kd.R_drew)); exact (Kd.R_mono (Kd.R_far (p := ⟨gb366, 1, none⟩) (Kd.R_far (p := ⟨gb366, 0, none⟩) (Kd.R_types HO365.out BK366.out (by decide)) (fun _ hk => hk.2) (.slice Ao21 t360.length co21)) (fun _ hk => hk.2) (.slice Ao24 t363.length co24)) (fun _ h_ => h_.1)))); (case side4 => exact (Kd.R_reads' HO365.out).2.1); rintro e w25 ⟨rfl, hb⟩; refine ⟨_, rfl, ?_⟩; replace HO362 := Aside0.mk (Kd.R_below (by (with_reducible repeat (first | apply Kd.R_alloc | apply Kd.R_drewN | apply Kd.R_drew)); exact (Kd.R_mono (Kd.R_far (p := ⟨gb366, 1, none⟩) (Kd.R_far (p := ⟨gb366, 0, none⟩) (Kd.R_types HO362.out BK366.out (by decide)) (fun _ hk => hk.2) (.slice Ao21 t360.length co21)) (fun _ hk => hk.2) (.slice Ao24 t363.length co24)) (fun _ h_ => h_.1))) hb); replace HO365 := Aside0.mk (Kd.R_below (by (with_reducible repeat (first | apply Kd.R_alloc | apply Kd.R_drewN | apply Kd.R_drew)); exact (Kd.R_mono (Kd.R_far (p := ⟨gb366, 1, none⟩) (Kd.R_far (p := ⟨gb366, 0, none⟩) (Kd.R_types HO365.out BK366.out (by decide)) (fun _ hk => hk.2) (.slice Ao21 t360.length co21)) (fun _ hk => hk.2) (.slice Ao24 t363.length co24)) (fun _ h_ => h_.1))) hb); replace BK357 := Aside0.mk (blk_below (g := gb357) (o := .cells #[.slice A0_0 l0_0.length c0_0, .slice A0_1 l0_1.length c0_1] 25 (0, 0)) sqX hb); replace BK366 := Aside0.mk (blk_below (g := gb366) (o := .cells #[.slice Ao21 t360.length co21, .slice Ao24 t363.length co24] 25 (0, 0)) (by (with_reducible repeat (first | refine blk_drewN ?_ _ | refine blk_drew ?_ | refine blk_alloc ?_ _)); refine blk_put (cs := #[.slice Ao21 t360.length co21, .slice none 0 0]) ?_ 1 _ rfl; (with_reducible repeat (first | refine blk_drewN ?_ _ | refine blk_drew ?_ | refine blk_alloc ?_ _)); refine blk_put (cs := #[.slice none 0 0, .slice none 0 0]) ?_ 0 _ rfl; (with_reducible repeat (first | refine blk_drewN ?_ _ | refine blk_drew ?_ | refine blk_alloc ?_ _)); exact BK366.out) hb); replace HB := sqb hb HB; (try clear hb); (try clear hb2); (try clear hk); (try clear hi)) | ((with_reducible refine gate_dst (N := 4) rfl ?_); refine box_event ?hg (N := 4) ?hd (cs := #[.int .i64 0, .int .i64 0]) (t := 41) ?hr ?_; (case hd => rfl); (case hg => rfl); (case hr => first | (go_simp; done) | (go_simp; rfl)); intro gb370 hg w26 hbox hb; replace HO362 := Aside0.mk (Kd.R_below (Kd.R_elderB (sqR HO362) gb370 (Nat.le_of_eq hg.symm)) hb); replace HO365 := Aside0.mk (Kd.R_below (sqR HO365) hb); have BK370 := Aside0.mk (hbox); have GW370 := Aside0.mk (sqZ hg HB); have GE370 := Aside0.mk (sqZ hg HB); replace HB := sqb hb HB; have NB357_370 := Aside0.mk (sqL hg BK357); have NB370_357 := Aside0.mk (sqG hg BK357); replace BK357 := sqk BK357 hb; have NB366_370 := Aside0.mk (sqL hg BK366); have NB370_366 := Aside0.mk (sqG hg BK366); replace BK366 := sqk BK366 hb; clear hb hbox hg; have hnb27 := NB370_357.out; have hnc27 := NB357_370.out; have hnb28 := NB370_366.out; have hnc28 := NB366_370.out; have hcz29_0 := sqc0 BK370; have hcz29_1 := sqc1 BK370; have hfz29_0 := blk_frozen BK370.out 0; have hfz29_1 := blk_frozen BK370.out 1; have hcz30_0 := sqc0 BK366; have hcz30_1 := sqc1 BK366; have hfz30_0 := blk_frozen BK366.out 0; have hfz30_1 := blk_frozen BK366.out 1; have hcz31_0 := sqc0 BK357; have hcz31_1 := sqc1 BK357; have hfz31_0 := blk_frozen BK357.out 0; have hfz31_1 := blk_frozen BK357.out 1) | ((with_reducible refine gate_callee (f := 23) rfl ?_); refine goesL_ (some 20) rfl rfl Tryd.func23 sqF rfl #[.agg #[.slice Ao21 t360.length co21, .slice Ao24 t363.length co24], .agg #[.slice A0_0 l0_0.length c0_0, .slice A0_1 l0_1.length c0_1]] rfl sqM ?_; (with_reducible refine (rf_Same.calls k _ _ t360 _ _ t363 _ _ l0_0 _ _ l0_1 true _ ?side1 ?side2 ?side3 ?side4 ?side5 ?side6 ?side7 ?side8 A11.out).mono ?_); (case side1 => refine (Kd.R_reads' (e := 41) (base := w.heap.size) (ok := fun k_ => (True ∧ k_ ≠ gb370)) (n := t360.length) (c := co21) ?_).2.2; exact (by (with_reducible repeat (first | apply Kd.R_alloc | apply Kd.R_drewN | apply Kd.R_drew)); exact (Kd.R_mono (Kd.R_far (p := ⟨gb370, 1, none⟩) (Kd.R_far (p := ⟨gb370, 0, none⟩) (Kd.R_mono HO362.out (fun k_ hk => (⟨hk, hk.2⟩ : _ ∧ k_ ≠ gb370))) (fun _ hk => hk.2) (.int .i64 t367)) (fun _ hk => hk.2) (.int .i64 t368)) (fun _ h_ => h_.1)))); (case side2 => exact (Kd.R_reads' HO362.out).2.1); (case side3 => refine (Kd.R_reads' (e := 80) (base := w.heap.size) (ok := fun k_ => True) (n := t363.length) (c := co24) ?_).2.2; exact (by (with_reducible repeat (first | apply Kd.R_alloc | apply Kd.R_drewN | apply Kd.R_drew)); exact (Kd.R_mono (Kd.R_far (p := ⟨gb370, 1, none⟩) (Kd.R_far (p := ⟨gb370, 0, none⟩) (Kd.R_types HO365.out BK370.out (by decide)) (fun _ hk => hk.2) (.int .i64 t367)) (fun _ hk => hk.2) (.int .i64 t368)) (fun _ h_ => h_.1)))); (case side4 => exact (Kd.R_reads' HO365.out).2.1); (case side5 => exact Kd.C_below HR0_0.out (sqB HB)); (case side6 => exact HC0_0.out); (case side7 => exact Kd.C_below HR0_1.out (sqB HB)); (case side8 => exact HC0_1.out); rintro e w32 ⟨rfl, hb⟩; refine ⟨_, rfl, ?_⟩; replace HO362 := Aside0.mk (Kd.R_below (by (with_reducible repeat (first | apply Kd.R_alloc | apply Kd.R_drewN | apply Kd.R_drew)); exact (Kd.R_mono (Kd.R_far (p := ⟨gb370, 1, none⟩) (Kd.R_far (p := ⟨gb370, 0, none⟩) (Kd.R_mono HO362.out (fun k_ hk => (⟨hk, hk.2⟩ : _ ∧ k_ ≠ gb370))) (fun _ hk => hk.2) (.int .i64 t367)) (fun _ hk => hk.2) (.int .i64 t368)) (fun _ h_ => h_.1))) hb); replace HO365 := Aside0.mk (Kd.R_below (by (with_reducible repeat (first | apply Kd.R_alloc | apply Kd.R_drewN | apply Kd.R_drew)); exact (Kd.R_mono (Kd.R_far (p := ⟨gb370, 1, none⟩) (Kd.R_far (p := ⟨gb370, 0, none⟩) (Kd.R_types HO365.out BK370.out (by decide)) (fun _ hk => hk.2) (.int .i64 t367)) (fun _ hk => hk.2) (.int .i64 t368)) (fun _ h_ => h_.1))) hb); replace BK357 := Aside0.mk (blk_below (g := gb357) (o := .cells #[.slice A0_0 l0_0.length c0_0, .slice A0_1 l0_1.length c0_1] 25 (0, 0)) sqX hb); replace BK366 := Aside0.mk (blk_below (g := gb366) (o := .cells #[.slice Ao21 t360.length co21, .slice Ao24 t363.length co24] 25 (0, 0)) sqX hb); replace BK370 := Aside0.mk (blk_below (g := gb370) (o := .cells #[.int .i64 t367, .int .i64 t368] 41 (0, 0)) (by (with_reducible repeat (first | refine blk_drewN ?_ _ | refine blk_drew ?_ | refine blk_alloc ?_ _)); refine blk_put (cs := #[.int .i64 t367, .int .i64 0]) ?_ 1 _ rfl; (with_reducible repeat (first | refine blk_drewN ?_ _ | refine blk_drew ?_ | refine blk_alloc ?_ _)); refine blk_put (cs := #[.int .i64 0, .int .i64 0]) ?_ 0 _ rfl; (with_reducible repeat (first | refine blk_drewN ?_ _ | refine blk_drew ?_ | refine blk_alloc ?_ _)); exact BK370.out) hb); replace HB := sqb hb HB; (try clear hb); (try clear hb2); (try clear hk); (try clear hi); have hcz33_0 := sqc0 BK357; have hcz33_1 := sqc1 BK357; have hfz33_0 := blk_frozen BK357.out 0; have hfz33_1 := blk_frozen BK357.out 1) | ((with_reducible refine gate_callee (f := 22) rfl ?_); refine goesL_ (some 23) rfl rfl Tryd.func22 sqF rfl #[.agg #[.slice A0_0 l0_0.length c0_0, .slice A0_1 l0_1.length c0_1]] rfl sqM ?_; (with_reducible refine (rf_Check.calls k _ _ l0_0 _ _ l0_1 t372 _ ?side1 ?side2 ?side3 ?side4 A13.out).mono ?_); (case side1 => exact sqQ HR0_0 HB); (case side2 => exact HC0_0.out); (case side3 => exact sqQ HR0_1 HB); (case side4 => exact HC0_1.out); rintro e w34 ⟨rfl, hb⟩; refine ⟨_, rfl, ?_⟩; replace HO362 := Aside0.mk (Kd.R_below (sqR HO362) hb); replace HO365 := Aside0.mk (Kd.R_below (sqR HO365) hb); replace BK357 := sqk BK357 hb; replace BK366 := sqk BK366 hb; replace BK370 := sqk BK370 hb; replace HB := sqb hb HB; (try clear hb); (try clear hb2); (try clear hk); (try clear hi)) | ((with_reducible refine gate_dst (N := 7) rfl ?_); refine box_event ?hg (N := 7) ?hd (cs := #[.int .i64 0, .int .i64 0]) (t := 41) ?hr ?_; (case hd => rfl); (case hg => rfl); (case hr => first | (go_simp; done) | (go_simp; rfl)); intro gb373 hg w35 hbox hb; replace HO362 := Aside0.mk (Kd.R_below (Kd.R_elderB (sqR HO362) gb373 (Nat.le_of_eq hg.symm)) hb); replace HO365 := Aside0.mk (Kd.R_below (sqR HO365) hb); have BK373 := Aside0.mk (hbox); have GW373 := Aside0.mk (sqZ hg HB); have GE373 := Aside0.mk (sqZ hg HB); replace HB := sqb hb HB; have NB357_373 := Aside0.mk (sqL hg BK357); have NB373_357 := Aside0.mk (sqG hg BK357); replace BK357 := sqk BK357 hb; have NB366_373 := Aside0.mk (sqL hg BK366); have NB373_366 := Aside0.mk (sqG hg BK366); replace BK366 := sqk BK366 hb; have NB370_373 := Aside0.mk (sqL hg BK370); have NB373_370 := Aside0.mk (sqG hg BK370); replace BK370 := sqk BK370 hb; clear hb hbox hg; have hnb36 := NB373_357.out; have hnc36 := NB357_373.out; have hnb37 := NB373_366.out; have hnc37 := NB366_373.out; have hnb38 := NB373_370.out; have hnc38 := NB370_373.out; have hcz39_0 := sqc0 BK373; have hcz39_1 := sqc1 BK373; have hfz39_0 := blk_frozen BK373.out 0; have hfz39_1 := blk_frozen BK373.out 1))
   (try simp only [Act.put, sqA])
   go_cut [6] (fun v6 wc => ∃ (kq : Nat) (x6_13 : Int) (x374000_13 : Int) (x374001_13 : Int), v6 = .int .i64 x6_13 ∧ Aside0 (lw_WoolMisses.j0 kq t369 x6_13 t367 t368 x374000_13 x374001_13 = some r) ∧ Aside0 (kq ≤ k) ∧ Aside0 (Kd.R k41 41 wc w.heap.size (fun k_ => k_ ≠ gb370 ∧ k_ ≠ gb373) (.slice Ao21 t360.length co21) t360) ∧ Aside0 (Kd.R k80 80 wc w.heap.size (fun _ => True) (.slice Ao24 t363.length co24) t363) ∧ Aside0 (wc.heap[gb357]? = some (.cells #[(.slice A0_0 l0_0.length c0_0), (.slice A0_1 l0_1.length c0_1)] 25 (0, 0))) ∧ Aside0 (wc.heap[gb366]? = some (.cells #[(.slice Ao21 t360.length co21), (.slice Ao24 t363.length co24)] 25 (0, 0))) ∧ Aside0 (wc.heap[gb370]? = some (.cells #[.int .i64 t367, .int .i64 t368] 41 (0, 0))) ∧ Aside0 (wc.heap[gb373]? = some (.cells #[.int .i64 x374000_13, .int .i64 x374001_13] 41 (0, 0))) ∧ Aside0 (Below w.heap.size w wc))
   case first =>
    have H := HC14.out; clear HC14
    by_cases c40 : t372 = 0
    ·rw [if_pos c40] at H
     have c40b0 : (t372 == 0) = true := beq_iff_eq.mpr c40; have c40b1 : (t372 != 0) = false := bne_eq_false_iff_eq.mpr c40; clear c40
     (first | rw [c40b0] | (simp only [i64_w, i32_w]; rw [c40b0]) | skip)
     obtain ⟨⟨t374, t375⟩, A410, H⟩ := Option.bind_eq_some_iff.mp H; replace H : (if t374 < 0 then (lw_WoolMisses.j0 k t369 9 t367 t368 t374 t375) else (lw_WoolMisses.j0 k t369 t372 t367 t368 t374 t375)) = some r := H; have A41 := Aside0.mk A410; clear A410
     by_cases c42 : t374 < 0
     ·rw [if_pos c42] at H
      have c42b0 : decide (t374 < 0) = true := decide_eq_true c42; clear c42; have H' := Aside0.mk H; clear H; have hnb43 := NB357_366.out; have hnc43 := NB366_357.out; have hnb44 := NB357_370.out; have hnc44 := NB370_357.out; have hnb45 := NB357_373.out; have hnc45 := NB373_357.out; have hcz46_0 := sqc0 BK357; have hcz46_1 := sqc1 BK357; have hfz46_0 := blk_frozen BK357.out 0; have hfz46_1 := blk_frozen BK357.out 1
      go_wp2_with (first | ((with_reducible refine gate_callee (f := 30) rfl ?_); refine goesL_ (some 28) rfl rfl Tryd.func30 sqF rfl #[.agg #[.slice A0_0 l0_0.length c0_0, .slice A0_1 l0_1.length c0_1]] rfl sqM ?_; (with_reducible refine (rf_Missing.calls k _ _ l0_0 _ _ l0_1 t374 t375 _ ?side1 ?side2 ?side3 ?side4 A41.out).mono ?_); (case side1 => exact Kd.C_below HR0_0.out (sqB HB)); (case side2 => exact HC0_0.out); (case side3 => exact Kd.C_below HR0_1.out (sqB HB)); (case side4 => exact HC0_1.out); rintro e w47 ⟨rfl, hb⟩; refine ⟨_, rfl, ?_⟩; replace HO362 := Aside0.mk (Kd.R_below (by (with_reducible repeat (first | apply Kd.R_alloc | apply Kd.R_drewN | apply Kd.R_drew)); exact (Kd.R_mono (Kd.R_far (p := ⟨gb373, 1, none⟩) (Kd.R_far (p := ⟨gb373, 0, none⟩) (Kd.R_mono HO362.out (fun k_ hk => (⟨hk, hk.2⟩ : _ ∧ k_ ≠ gb373))) (fun _ hk => hk.2) (.int .i64 0)) (fun _ hk => hk.2) (.int .i64 0)) (fun _ h_ => h_.1))) hb); replace HO365 := Aside0.mk (Kd.R_below (by (with_reducible repeat (first | apply Kd.R_alloc | apply Kd.R_drewN | apply Kd.R_drew)); exact (Kd.R_mono (Kd.R_far (p := ⟨gb373, 1, none⟩) (Kd.R_far (p := ⟨gb373, 0, none⟩) (Kd.R_types HO365.out BK373.out (by decide)) (fun _ hk => hk.2) (.int .i64 0)) (fun _ hk => hk.2) (.int .i64 0)) (fun _ h_ => h_.1))) hb); replace BK357 := Aside0.mk (blk_below (g := gb357) (o := .cells #[.slice A0_0 l0_0.length c0_0, .slice A0_1 l0_1.length c0_1] 25 (0, 0)) sqX hb); replace BK366 := Aside0.mk (blk_below (g := gb366) (o := .cells #[.slice Ao21 t360.length co21, .slice Ao24 t363.length co24] 25 (0, 0)) sqX hb); replace BK370 := Aside0.mk (blk_below (g := gb370) (o := .cells #[.int .i64 t367, .int .i64 t368] 41 (0, 0)) sqX hb); replace BK373 := Aside0.mk (blk_below (g := gb373) (o := .cells #[.int .i64 0, .int .i64 0] 41 (0, 0)) (by (with_reducible repeat (first | refine blk_drewN ?_ _ | refine blk_drew ?_ | refine blk_alloc ?_ _)); refine blk_put (cs := #[.int .i64 0, .int .i64 0]) ?_ 1 _ rfl; (with_reducible repeat (first | refine blk_drewN ?_ _ | refine blk_drew ?_ | refine blk_alloc ?_ _)); refine blk_put (cs := #[.int .i64 0, .int .i64 0]) ?_ 0 _ rfl; (with_reducible repeat (first | refine blk_drewN ?_ _ | refine blk_drew ?_ | refine blk_alloc ?_ _)); exact BK373.out) hb); replace HB := sqb hb HB; (try clear hb); (try clear hb2); (try clear hk); (try clear hi); have hnb48 := NB373_366.out; have hnc48 := NB366_373.out; have hnb49 := NB373_370.out; have hnc49 := NB370_373.out; have hcz50_0 := sqc0 BK373; have hcz50_1 := sqc1 BK373; have hfz50_0 := blk_frozen BK373.out 0; have hfz50_1 := blk_frozen BK373.out 1))
      go_meet
      case rel => exact ⟨_, (9), (t374), (t375), sqE, H', ⟨by first | omega | exact Nat.le_refl _⟩, ⟨by (with_reducible repeat (first | apply Kd.R_alloc | apply Kd.R_drewN | apply Kd.R_drew)); exact Kd.R_mono (Kd.R_far (p := ⟨gb373, 1, none⟩) (Kd.R_far (p := ⟨gb373, 0, none⟩) (Kd.R_mono HO362.out (fun k_ hk => (⟨hk, hk.2⟩ : _ ∧ k_ ≠ gb373))) (fun _ hk => hk.2) (.int .i64 t374)) (fun _ hk => hk.2) (.int .i64 t375)) (fun _ hk => ⟨hk.1.1.2, hk.1.2⟩)⟩, ⟨by (with_reducible repeat (first | apply Kd.R_alloc | apply Kd.R_drewN | apply Kd.R_drew)); exact Kd.R_mono (Kd.R_far (p := ⟨gb373, 1, none⟩) (Kd.R_far (p := ⟨gb373, 0, none⟩) (Kd.R_types HO365.out BK373.out (by decide)) (fun _ hk => hk.2) (.int .i64 t374)) (fun _ hk => hk.2) (.int .i64 t375)) (fun _ hk => trivial)⟩, ⟨sqX⟩, ⟨sqX⟩, ⟨sqX⟩, ⟨by (with_reducible repeat (first | refine blk_drewN ?_ _ | refine blk_drew ?_ | refine blk_alloc ?_ _)); refine blk_put (cs := #[.int .i64 t374, .int .i64 0]) ?_ 1 _ rfl; (with_reducible repeat (first | refine blk_drewN ?_ _ | refine blk_drew ?_ | refine blk_alloc ?_ _)); refine blk_put (cs := #[.int .i64 0, .int .i64 0]) ?_ 0 _ rfl; (with_reducible repeat (first | refine blk_drewN ?_ _ | refine blk_drew ?_ | refine blk_alloc ?_ _)); exact BK373.out⟩, ⟨sqB HB⟩⟩
     ·rw [if_neg c42] at H
      have c42b0 : decide (t374 < 0) = false := decide_eq_false c42; clear c42; have H' := Aside0.mk H; clear H; have hnb51 := NB357_366.out; have hnc51 := NB366_357.out; have hnb52 := NB357_370.out; have hnc52 := NB370_357.out; have hnb53 := NB357_373.out; have hnc53 := NB373_357.out; have hcz54_0 := sqc0 BK357; have hcz54_1 := sqc1 BK357; have hfz54_0 := blk_frozen BK357.out 0; have hfz54_1 := blk_frozen BK357.out 1
      go_wp2_with (first | ((with_reducible refine gate_callee (f := 30) rfl ?_); refine goesL_ (some 28) rfl rfl Tryd.func30 sqF rfl #[.agg #[.slice A0_0 l0_0.length c0_0, .slice A0_1 l0_1.length c0_1]] rfl sqM ?_; (with_reducible refine (rf_Missing.calls k _ _ l0_0 _ _ l0_1 t374 t375 _ ?side1 ?side2 ?side3 ?side4 A41.out).mono ?_); (case side1 => exact Kd.C_below HR0_0.out (sqB HB)); (case side2 => exact HC0_0.out); (case side3 => exact Kd.C_below HR0_1.out (sqB HB)); (case side4 => exact HC0_1.out); rintro e w55 ⟨rfl, hb⟩; refine ⟨_, rfl, ?_⟩; replace HO362 := Aside0.mk (Kd.R_below (by (with_reducible repeat (first | apply Kd.R_alloc | apply Kd.R_drewN | apply Kd.R_drew)); exact (Kd.R_mono (Kd.R_far (p := ⟨gb373, 1, none⟩) (Kd.R_far (p := ⟨gb373, 0, none⟩) (Kd.R_mono HO362.out (fun k_ hk => (⟨hk, hk.2⟩ : _ ∧ k_ ≠ gb373))) (fun _ hk => hk.2) (.int .i64 0)) (fun _ hk => hk.2) (.int .i64 0)) (fun _ h_ => h_.1))) hb); replace HO365 := Aside0.mk (Kd.R_below (by (with_reducible repeat (first | apply Kd.R_alloc | apply Kd.R_drewN | apply Kd.R_drew)); exact (Kd.R_mono (Kd.R_far (p := ⟨gb373, 1, none⟩) (Kd.R_far (p := ⟨gb373, 0, none⟩) (Kd.R_types HO365.out BK373.out (by decide)) (fun _ hk => hk.2) (.int .i64 0)) (fun _ hk => hk.2) (.int .i64 0)) (fun _ h_ => h_.1))) hb); replace BK357 := Aside0.mk (blk_below (g := gb357) (o := .cells #[.slice A0_0 l0_0.length c0_0, .slice A0_1 l0_1.length c0_1] 25 (0, 0)) sqX hb); replace BK366 := Aside0.mk (blk_below (g := gb366) (o := .cells #[.slice Ao21 t360.length co21, .slice Ao24 t363.length co24] 25 (0, 0)) sqX hb); replace BK370 := Aside0.mk (blk_below (g := gb370) (o := .cells #[.int .i64 t367, .int .i64 t368] 41 (0, 0)) sqX hb); replace BK373 := Aside0.mk (blk_below (g := gb373) (o := .cells #[.int .i64 0, .int .i64 0] 41 (0, 0)) (by (with_reducible repeat (first | refine blk_drewN ?_ _ | refine blk_drew ?_ | refine blk_alloc ?_ _)); refine blk_put (cs := #[.int .i64 0, .int .i64 0]) ?_ 1 _ rfl; (with_reducible repeat (first | refine blk_drewN ?_ _ | refine blk_drew ?_ | refine blk_alloc ?_ _)); refine blk_put (cs := #[.int .i64 0, .int .i64 0]) ?_ 0 _ rfl; (with_reducible repeat (first | refine blk_drewN ?_ _ | refine blk_drew ?_ | refine blk_alloc ?_ _)); exact BK373.out) hb); replace HB := sqb hb HB; (try clear hb); (try clear hb2); (try clear hk); (try clear hi); have hnb56 := NB373_366.out; have hnc56 := NB366_373.out; have hnb57 := NB373_370.out; have hnc57 := NB370_373.out; have hcz58_0 := sqc0 BK373; have hcz58_1 := sqc1 BK373; have hfz58_0 := blk_frozen BK373.out 0; have hfz58_1 := blk_frozen BK373.out 1))
      go_meet
      case rel => exact ⟨_, (t372), (t374), (t375), sqE, H', ⟨by first | omega | exact Nat.le_refl _⟩, ⟨by (with_reducible repeat (first | apply Kd.R_alloc | apply Kd.R_drewN | apply Kd.R_drew)); exact Kd.R_mono (Kd.R_far (p := ⟨gb373, 1, none⟩) (Kd.R_far (p := ⟨gb373, 0, none⟩) (Kd.R_mono HO362.out (fun k_ hk => (⟨hk, hk.2⟩ : _ ∧ k_ ≠ gb373))) (fun _ hk => hk.2) (.int .i64 t374)) (fun _ hk => hk.2) (.int .i64 t375)) (fun _ hk => ⟨hk.1.1.2, hk.1.2⟩)⟩, ⟨by (with_reducible repeat (first | apply Kd.R_alloc | apply Kd.R_drewN | apply Kd.R_drew)); exact Kd.R_mono (Kd.R_far (p := ⟨gb373, 1, none⟩) (Kd.R_far (p := ⟨gb373, 0, none⟩) (Kd.R_types HO365.out BK373.out (by decide)) (fun _ hk => hk.2) (.int .i64 t374)) (fun _ hk => hk.2) (.int .i64 t375)) (fun _ hk => trivial)⟩, ⟨sqX⟩, ⟨sqX⟩, ⟨sqX⟩, ⟨by (with_reducible repeat (first | refine blk_drewN ?_ _ | refine blk_drew ?_ | refine blk_alloc ?_ _)); refine blk_put (cs := #[.int .i64 t374, .int .i64 0]) ?_ 1 _ rfl; (with_reducible repeat (first | refine blk_drewN ?_ _ | refine blk_drew ?_ | refine blk_alloc ?_ _)); refine blk_put (cs := #[.int .i64 0, .int .i64 0]) ?_ 0 _ rfl; (with_reducible repeat (first | refine blk_drewN ?_ _ | refine blk_drew ?_ | refine blk_alloc ?_ _)); exact BK373.out⟩, ⟨sqB HB⟩⟩
    ·rw [if_neg c40] at H
     have c40b0 : (t372 == 0) = false := beq_eq_false_iff_ne.mpr c40; have c40b1 : (t372 != 0) = true := bne_iff_ne.mpr c40
     (first | rw [c40b0] | (simp only [i64_w, i32_w]; rw [c40b0]) | skip)
     have H' := Aside0.mk H; clear H; go_wp2
     go_meet
     case rel => exact ⟨_, (t372), (0), (0), sqE, H', ⟨by first | omega | exact Nat.le_refl _⟩, ⟨by (with_reducible repeat (first | apply Kd.R_alloc | apply Kd.R_drewN | apply Kd.R_drew)); exact Kd.R_mono (Kd.R_far (p := ⟨gb373, 1, none⟩) (Kd.R_far (p := ⟨gb373, 0, none⟩) (Kd.R_mono HO362.out (fun k_ hk => (⟨hk, hk.2⟩ : _ ∧ k_ ≠ gb373))) (fun _ hk => hk.2) (.int .i64 0)) (fun _ hk => hk.2) (.int .i64 0)) (fun _ hk => ⟨hk.1.1.2, hk.1.2⟩)⟩, ⟨by (with_reducible repeat (first | apply Kd.R_alloc | apply Kd.R_drewN | apply Kd.R_drew)); exact Kd.R_mono (Kd.R_far (p := ⟨gb373, 1, none⟩) (Kd.R_far (p := ⟨gb373, 0, none⟩) (Kd.R_types HO365.out BK373.out (by decide)) (fun _ hk => hk.2) (.int .i64 0)) (fun _ hk => hk.2) (.int .i64 0)) (fun _ hk => trivial)⟩, ⟨sqX⟩, ⟨sqX⟩, ⟨sqX⟩, ⟨by (with_reducible repeat (first | refine blk_drewN ?_ _ | refine blk_drew ?_ | refine blk_alloc ?_ _)); refine blk_put (cs := #[.int .i64 0, .int .i64 0]) ?_ 1 _ rfl; (with_reducible repeat (first | refine blk_drewN ?_ _ | refine blk_drew ?_ | refine blk_alloc ?_ _)); refine blk_put (cs := #[.int .i64 0, .int .i64 0]) ?_ 0 _ rfl; (with_reducible repeat (first | refine blk_drewN ?_ _ | refine blk_drew ?_ | refine blk_alloc ?_ _)); exact BK373.out⟩, ⟨sqB HB⟩⟩
   case rest =>
    clear HC14; try clear c3
    (try clear c12); (try clear hcz16_0); (try clear hcz16_1); (try clear hcz18_0); (try clear hcz18_1); (try clear hcz23_0); (try clear hcz23_1); (try clear hcz29_0); (try clear hcz29_1); (try clear hcz30_0); (try clear hcz30_1); (try clear hcz31_0); (try clear hcz31_1); (try clear hcz33_0); (try clear hcz33_1); (try clear hcz39_0); (try clear hcz39_1); (try clear hfz16_0); (try clear hfz16_1); (try clear hfz18_0); (try clear hfz18_1); (try clear hfz23_0); (try clear hfz23_1); (try clear hfz29_0); (try clear hfz29_1); (try clear hfz30_0); (try clear hfz30_1); (try clear hfz31_0); (try clear hfz31_1); (try clear hfz33_0); (try clear hfz33_1); (try clear hfz39_0); (try clear hfz39_1); obtain ⟨kq, x6_13, x374000_13, x374001_13, rfl, HA, HJ13, HO_367000, HO_367001, BK357, BK366, BK370, BK373, HB⟩ := hcut
    cases kq with
    | zero => exact absurd HA.out (by simp [lw_WoolMisses.j0])
    | succ kj13 =>
     have H := HA.out; clear HA; simp only [lw_WoolMisses.j0] at H
     by_cases c59 : x6_13 = 0
     ·rw [if_pos c59] at H
      have c59b0 : (x6_13 == 0) = true := beq_iff_eq.mpr c59; have c59b1 : (x6_13 != 0) = false := bne_eq_false_iff_eq.mpr c59; clear c59
      by_cases c60 : t369 = 0
      ·rw [if_pos c60] at H
       have c60b0 : (t369 == 0) = true := beq_iff_eq.mpr c60; have c60b1 : (t369 != 0) = false := bne_eq_false_iff_eq.mpr c60; clear c60
       by_cases c61 : (t367 == x374000_13 && (t368 == x374001_13)) = true
       ·rw [if_pos c61] at H
        have c61b0 : (t367 == x374000_13 && (t368 == x374001_13)) = true := c61
        (try (have c61b1 : decide (t367 = x374000_13 && (t368 == x374001_13)) = true := by simpa using c61))
        (try (have c61b2 : (t367 == x374000_13 && (t368 == x374001_13)) = true := by simpa using c61))
        clear c61; obtain ⟨t376, A620, H⟩ := Option.bind_eq_some_iff.mp H; have A62 := Aside0.mk A620; clear A620; obtain rfl := Option.some.inj H; have hnb63 := NB370_357.out; have hnc63 := NB357_370.out; have hnb64 := NB370_366.out; have hnc64 := NB366_370.out; have hnb65 := NB370_373.out; have hnc65 := NB373_370.out; have hcz66_0 := sqc0 BK370; have hcz66_1 := sqc1 BK370; have hfz66_0 := blk_frozen BK370.out 0; have hfz66_1 := blk_frozen BK370.out 1; have hnb67 := NB373_357.out; have hnc67 := NB357_373.out; have hnb68 := NB373_366.out; have hnc68 := NB366_373.out; have hcz69_0 := sqc0 BK373; have hcz69_1 := sqc1 BK373; have hfz69_0 := blk_frozen BK373.out 0; have hfz69_1 := blk_frozen BK373.out 1
        go_wp2_with (first | (go_at_call 17; (with_reducible refine (lw_known.calls t376 _ ?sideG A62.out).mono ?_); (case sideG => exact (Kd.C_below HGL.out (sqB HB))); rintro e w70 ⟨rfl, hb⟩; replace HO_367000 := Aside0.mk (Kd.R_below (sqR HO_367000) hb); replace HO_367001 := Aside0.mk (Kd.R_below (sqR HO_367001) hb); replace BK357 := sqk BK357 hb; replace BK366 := sqk BK366 hb; replace BK370 := sqk BK370 hb; replace BK373 := sqk BK373 hb; replace HB := sqb hb HB; (try clear hb); (try clear hb2); (try clear hk); (try clear hi)))
        go_ret
        exact ⟨by first | rfl | (simp [errW_none, errW_some] <;> rfl) | (simp [*, errW_none, errW_some] <;> rfl), sqB HB⟩
       ·rw [if_neg c61] at H
        have c61b0 : (t367 == x374000_13 && (t368 == x374001_13)) = false := by simpa using c61
        (try (have c61b1 : decide (t367 = x374000_13 && (t368 == x374001_13)) = false := by simpa using c61))
        (try (have c61b2 : (t367 == x374000_13 && (t368 == x374001_13)) = false := by simpa using c61))
        (try (have c61b3 : ¬ (t367 = x374000_13 && (t368 == x374001_13)) := by simpa using c61))
        clear c61; obtain rfl := Option.some.inj H; have hnb71 := NB370_357.out; have hnc71 := NB357_370.out; have hnb72 := NB370_366.out; have hnc72 := NB366_370.out; have hnb73 := NB370_373.out; have hnc73 := NB373_370.out; have hcz74_0 := sqc0 BK370; have hcz74_1 := sqc1 BK370; have hfz74_0 := blk_frozen BK370.out 0; have hfz74_1 := blk_frozen BK370.out 1; have hnb75 := NB373_357.out; have hnc75 := NB357_373.out; have hnb76 := NB373_366.out; have hnc76 := NB366_373.out; have hcz77_0 := sqc0 BK373; have hcz77_1 := sqc1 BK373; have hfz77_0 := blk_frozen BK373.out 0; have hfz77_1 := blk_frozen BK373.out 1
        go_wp2
        go_ret
        exact ⟨by first | rfl | (simp [errW_none, errW_some] <;> rfl) | (simp [*, errW_none, errW_some] <;> rfl), sqB HB⟩
      ·rw [if_neg c60] at H
       have c60b0 : (t369 == 0) = false := beq_eq_false_iff_ne.mpr c60; have c60b1 : (t369 != 0) = true := bne_iff_ne.mpr c60; obtain rfl := Option.some.inj H
       go_wp2
       go_ret
       exact ⟨by first | rfl | (simp [errW_none, errW_some] <;> rfl) | (simp [*, errW_none, errW_some] <;> rfl), sqB HB⟩
     ·rw [if_neg c59] at H
      have c59b0 : (x6_13 == 0) = false := beq_eq_false_iff_ne.mpr c59; have c59b1 : (x6_13 != 0) = true := bne_iff_ne.mpr c59
      by_cases c78 : t369 = x6_13
      ·rw [if_pos c78] at H
       have c78b0 : (t369 == x6_13) = true := beq_iff_eq.mpr c78; have c78b1 : (t369 != x6_13) = false := bne_eq_false_iff_eq.mpr c78; clear c78
       by_cases c79 : (t367 == 0 && (t368 == 0)) = true
       ·rw [if_pos c79] at H
        have c79b0 : (t367 == 0 && (t368 == 0)) = true := c79
        (try (have c79b1 : decide (t367 = 0 && (t368 == 0)) = true := by simpa using c79))
        (try (have c79b2 : (t367 == 0 && (t368 == 0)) = true := by simpa using c79))
        clear c79; obtain ⟨t377, A800, H⟩ := Option.bind_eq_some_iff.mp H; have A80 := Aside0.mk A800; clear A800; obtain rfl := Option.some.inj H; have hnb81 := NB370_357.out; have hnc81 := NB357_370.out; have hnb82 := NB370_366.out; have hnc82 := NB366_370.out; have hnb83 := NB370_373.out; have hnc83 := NB373_370.out; have hcz84_0 := sqc0 BK370; have hcz84_1 := sqc1 BK370; have hfz84_0 := blk_frozen BK370.out 0; have hfz84_1 := blk_frozen BK370.out 1
        go_wp2_with (first | (go_at_call 17; (with_reducible refine (lw_known.calls t377 _ ?sideG A80.out).mono ?_); (case sideG => exact (Kd.C_below HGL.out (sqB HB))); rintro e w85 ⟨rfl, hb⟩; replace HO_367000 := Aside0.mk (Kd.R_below (sqR HO_367000) hb); replace HO_367001 := Aside0.mk (Kd.R_below (sqR HO_367001) hb); replace BK357 := sqk BK357 hb; replace BK366 := sqk BK366 hb; replace BK370 := sqk BK370 hb; replace BK373 := sqk BK373 hb; replace HB := sqb hb HB; (try clear hb); (try clear hb2); (try clear hk); (try clear hi)))
        go_ret
        exact ⟨by first | rfl | (simp [errW_none, errW_some] <;> rfl) | (simp [*, errW_none, errW_some] <;> rfl), sqB HB⟩
       ·rw [if_neg c79] at H
        have c79b0 : (t367 == 0 && (t368 == 0)) = false := by simpa using c79
        (try (have c79b1 : decide (t367 = 0 && (t368 == 0)) = false := by simpa using c79))
        (try (have c79b2 : (t367 == 0 && (t368 == 0)) = false := by simpa using c79))
        (try (have c79b3 : ¬ (t367 = 0 && (t368 == 0)) := by simpa using c79))
        clear c79; obtain rfl := Option.some.inj H; have hnb86 := NB370_357.out; have hnc86 := NB357_370.out; have hnb87 := NB370_366.out; have hnc87 := NB366_370.out; have hnb88 := NB370_373.out; have hnc88 := NB373_370.out; have hcz89_0 := sqc0 BK370; have hcz89_1 := sqc1 BK370; have hfz89_0 := blk_frozen BK370.out 0; have hfz89_1 := blk_frozen BK370.out 1
        go_wp2
        go_ret
        exact ⟨by first | rfl | (simp [errW_none, errW_some] <;> rfl) | (simp [*, errW_none, errW_some] <;> rfl), sqB HB⟩
      ·rw [if_neg c78] at H
       have c78b0 : (t369 == x6_13) = false := beq_eq_false_iff_ne.mpr c78; have c78b1 : (t369 != x6_13) = true := bne_iff_ne.mpr c78; obtain rfl := Option.some.inj H
       go_wp2
       go_ret
       exact ⟨by first | rfl | (simp [errW_none, errW_some] <;> rfl) | (simp [*, errW_none, errW_some] <;> rfl), sqB HB⟩
  ·replace c12 := Bool.eq_false_iff.mpr c12
   subst c12; rw [if_neg Bool.false_ne_true] at H; obtain rfl := Option.some.inj H
   go_enter Tryd.func4, Tryd.ntmps4
   go_wp2_with (first | ((with_reducible refine gate_dst (N := 1) rfl ?_); refine box_event ?hg (N := 1) ?hd (cs := #[.slice A0_0 l0_0.length c0_0, .slice A0_1 l0_1.length c0_1]) (t := 25) ?hr ?_; (case hd => rfl); (case hg => rfl); (case hr => first | (go_simp; done) | (go_simp; rfl)); intro gb357 hg w90 hbox hb; have BK357 := Aside0.mk (hbox); have GW357 := Aside0.mk (sqZ hg HB); have GE357 := Aside0.mk (sqZ hg HB); replace HB := sqb hb HB; clear hb hbox hg; have hcz91_0 := sqc0 BK357; have hcz91_1 := sqc1 BK357; have hfz91_0 := blk_frozen BK357.out 0; have hfz91_1 := blk_frozen BK357.out 1) | ((with_reducible refine gate_callee (f := 16) rfl ?_); refine goesL_ (some 9) rfl rfl Tryd.func16 sqF rfl #[.agg #[.slice A0_0 l0_0.length c0_0, .slice A0_1 l0_1.length c0_1]] rfl sqM ?_; (with_reducible refine (lw_long.calls _ _ l0_0 _ _ l0_1 false _ ?side1 ?side2 ?side3 ?side4 A2.out).mono ?_); (case side1 => exact sqQ HR0_0 HB); (case side2 => exact HC0_0.out); (case side3 => exact sqQ HR0_1 HB); (case side4 => exact HC0_1.out); rintro e w92 ⟨rfl, hb⟩; refine ⟨_, rfl, ?_⟩; replace BK357 := sqk BK357 hb; replace HB := sqb hb HB; (try clear hb); (try clear hb2); (try clear hk); (try clear hi); have hcz93_0 := sqc0 BK357; have hcz93_1 := sqc1 BK357; have hfz93_0 := blk_frozen BK357.out 0; have hfz93_1 := blk_frozen BK357.out 1) | ((with_reducible refine gate_callee (f := 18) rfl ?_); refine goesL_ (some 12) rfl rfl Tryd.func18 sqF rfl #[.agg #[.slice A0_0 l0_0.length c0_0, .slice A0_1 l0_1.length c0_1]] rfl sqM ?_; (with_reducible refine (rf_Copy.calls _ _ l0_0 _ _ l0_1 t360 t363 _ ?side1 ?side2 ?side3 ?side4 A9.out).mono ?_); (case side1 => exact sqQ HR0_0 HB); (case side2 => exact HC0_0.out); (case side3 => exact sqQ HR0_1 HB); (case side4 => exact HC0_1.out); rintro e w94 ⟨v361, v364, rfl, ho0, ho1, hb⟩; refine ⟨_, rfl, ?_⟩; have HO362 := Aside0.mk (Kd.R_lower ho0 (below_size (sqB HB))); have HO365 := Aside0.mk (Kd.R_lower ho1 (below_size (sqB HB))); replace BK357 := sqk BK357 hb; replace HB := sqb hb HB; (try clear hb); (try clear hb2); (try clear hk); (try clear hi); (try clear ho0); (try clear ho1)) | ((with_reducible refine gate_dst (N := 3) rfl ?_); refine box_event ?hg (N := 3) ?hd (cs := #[.slice none 0 0, .slice none 0 0]) (t := 25) ?hr ?_; (case hd => rfl); (case hg => rfl); (case hr => first | (go_simp; done) | (go_simp; rfl)); intro gb366 hg w95 hbox hb; replace HO362 := Aside0.mk (Kd.R_below (sqR HO362) hb); replace HO365 := Aside0.mk (Kd.R_below (sqR HO365) hb); have BK366 := Aside0.mk (hbox); have GW366 := Aside0.mk (sqZ hg HB); have GE366 := Aside0.mk (sqZ hg HB); replace HB := sqb hb HB; have NB357_366 := Aside0.mk (sqL hg BK357); have NB366_357 := Aside0.mk (sqG hg BK357); replace BK357 := sqk BK357 hb; clear hb hbox hg; obtain ⟨Ao96, co96, eo96⟩ := Kd.R_slice HO362.out; subst eo96; have hnb97 := NB366_357.out; have hnc97 := NB357_366.out; have hcz98_0 := sqc0 BK366; have hcz98_1 := sqc1 BK366; have hfz98_0 := blk_frozen BK366.out 0; have hfz98_1 := blk_frozen BK366.out 1; obtain ⟨Ao99, co99, eo99⟩ := Kd.R_slice HO365.out; subst eo99) | ((with_reducible refine gate_callee (f := 29) rfl ?_); refine goesL_ (some 15) rfl rfl Tryd.func29 sqF rfl #[.agg #[.slice Ao96 t360.length co96, .slice Ao99 t363.length co99]] rfl sqM ?_; (with_reducible refine (wool_Missing.calls _ _ t360 _ _ t363 t367 t368 t369 _ ?sideG ?side1 ?side2 ?side3 ?side4 A10.out).mono ?_); (case sideG => exact (Kd.C_below HGL.out (sqB HB))); (case side1 => refine (Kd.R_reads' (e := 41) (base := w.heap.size) (ok := fun k_ => True) (n := t360.length) (c := co96) ?_).2.2; exact (by (with_reducible repeat (first | apply Kd.R_alloc | apply Kd.R_drewN | apply Kd.R_drew)); exact (Kd.R_mono (Kd.R_far (p := ⟨gb366, 1, none⟩) (Kd.R_far (p := ⟨gb366, 0, none⟩) (Kd.R_types HO362.out BK366.out (by decide)) (fun _ hk => hk.2) (.slice Ao96 t360.length co96)) (fun _ hk => hk.2) (.slice Ao99 t363.length co99)) (fun _ h_ => h_.1)))); (case side2 => exact (Kd.R_reads' HO362.out).2.1); (case side3 => refine (Kd.R_reads' (e := 80) (base := w.heap.size) (ok := fun k_ => True) (n := t363.length) (c := co99) ?_).2.2; exact (by (with_reducible repeat (first | apply Kd.R_alloc | apply Kd.R_drewN | apply Kd.R_drew)); exact (Kd.R_mono (Kd.R_far (p := ⟨gb366, 1, none⟩) (Kd.R_far (p := ⟨gb366, 0, none⟩) (Kd.R_types HO365.out BK366.out (by decide)) (fun _ hk => hk.2) (.slice Ao96 t360.length co96)) (fun _ hk => hk.2) (.slice Ao99 t363.length co99)) (fun _ h_ => h_.1)))); (case side4 => exact (Kd.R_reads' HO365.out).2.1); rintro e w100 ⟨rfl, hb⟩; refine ⟨_, rfl, ?_⟩; replace HO362 := Aside0.mk (Kd.R_below (by (with_reducible repeat (first | apply Kd.R_alloc | apply Kd.R_drewN | apply Kd.R_drew)); exact (Kd.R_mono (Kd.R_far (p := ⟨gb366, 1, none⟩) (Kd.R_far (p := ⟨gb366, 0, none⟩) (Kd.R_types HO362.out BK366.out (by decide)) (fun _ hk => hk.2) (.slice Ao96 t360.length co96)) (fun _ hk => hk.2) (.slice Ao99 t363.length co99)) (fun _ h_ => h_.1))) hb); replace HO365 := Aside0.mk (Kd.R_below (by (with_reducible repeat (first | apply Kd.R_alloc | apply Kd.R_drewN | apply Kd.R_drew)); exact (Kd.R_mono (Kd.R_far (p := ⟨gb366, 1, none⟩) (Kd.R_far (p := ⟨gb366, 0, none⟩) (Kd.R_types HO365.out BK366.out (by decide)) (fun _ hk => hk.2) (.slice Ao96 t360.length co96)) (fun _ hk => hk.2) (.slice Ao99 t363.length co99)) (fun _ h_ => h_.1))) hb); replace BK357 := Aside0.mk (blk_below (g := gb357) (o := .cells #[.slice A0_0 l0_0.length c0_0, .slice A0_1 l0_1.length c0_1] 25 (0, 0)) sqX hb); replace BK366 := Aside0.mk (blk_below (g := gb366) (o := .cells #[.slice Ao96 t360.length co96, .slice Ao99 t363.length co99] 25 (0, 0)) (by (with_reducible repeat (first | refine blk_drewN ?_ _ | refine blk_drew ?_ | refine blk_alloc ?_ _)); refine blk_put (cs := #[.slice Ao96 t360.length co96, .slice none 0 0]) ?_ 1 _ rfl; (with_reducible repeat (first | refine blk_drewN ?_ _ | refine blk_drew ?_ | refine blk_alloc ?_ _)); refine blk_put (cs := #[.slice none 0 0, .slice none 0 0]) ?_ 0 _ rfl; (with_reducible repeat (first | refine blk_drewN ?_ _ | refine blk_drew ?_ | refine blk_alloc ?_ _)); exact BK366.out) hb); replace HB := sqb hb HB; (try clear hb); (try clear hb2); (try clear hk); (try clear hi)) | ((with_reducible refine gate_dst (N := 4) rfl ?_); refine box_event ?hg (N := 4) ?hd (cs := #[.int .i64 0, .int .i64 0]) (t := 41) ?hr ?_; (case hd => rfl); (case hg => rfl); (case hr => first | (go_simp; done) | (go_simp; rfl)); intro gb370 hg w101 hbox hb; replace HO362 := Aside0.mk (Kd.R_below (Kd.R_elderB (sqR HO362) gb370 (Nat.le_of_eq hg.symm)) hb); replace HO365 := Aside0.mk (Kd.R_below (sqR HO365) hb); have BK370 := Aside0.mk (hbox); have GW370 := Aside0.mk (sqZ hg HB); have GE370 := Aside0.mk (sqZ hg HB); replace HB := sqb hb HB; have NB357_370 := Aside0.mk (sqL hg BK357); have NB370_357 := Aside0.mk (sqG hg BK357); replace BK357 := sqk BK357 hb; have NB366_370 := Aside0.mk (sqL hg BK366); have NB370_366 := Aside0.mk (sqG hg BK366); replace BK366 := sqk BK366 hb; clear hb hbox hg; have hnb102 := NB370_357.out; have hnc102 := NB357_370.out; have hnb103 := NB370_366.out; have hnc103 := NB366_370.out; have hcz104_0 := sqc0 BK370; have hcz104_1 := sqc1 BK370; have hfz104_0 := blk_frozen BK370.out 0; have hfz104_1 := blk_frozen BK370.out 1; have hcz105_0 := sqc0 BK366; have hcz105_1 := sqc1 BK366; have hfz105_0 := blk_frozen BK366.out 0; have hfz105_1 := blk_frozen BK366.out 1; have hcz106_0 := sqc0 BK357; have hcz106_1 := sqc1 BK357; have hfz106_0 := blk_frozen BK357.out 0; have hfz106_1 := blk_frozen BK357.out 1) | ((with_reducible refine gate_callee (f := 23) rfl ?_); refine goesL_ (some 20) rfl rfl Tryd.func23 sqF rfl #[.agg #[.slice Ao96 t360.length co96, .slice Ao99 t363.length co99], .agg #[.slice A0_0 l0_0.length c0_0, .slice A0_1 l0_1.length c0_1]] rfl sqM ?_; (with_reducible refine (rf_Same.calls k _ _ t360 _ _ t363 _ _ l0_0 _ _ l0_1 false _ ?side1 ?side2 ?side3 ?side4 ?side5 ?side6 ?side7 ?side8 A11.out).mono ?_); (case side1 => refine (Kd.R_reads' (e := 41) (base := w.heap.size) (ok := fun k_ => (True ∧ k_ ≠ gb370)) (n := t360.length) (c := co96) ?_).2.2; exact (by (with_reducible repeat (first | apply Kd.R_alloc | apply Kd.R_drewN | apply Kd.R_drew)); exact (Kd.R_mono (Kd.R_far (p := ⟨gb370, 1, none⟩) (Kd.R_far (p := ⟨gb370, 0, none⟩) (Kd.R_mono HO362.out (fun k_ hk => (⟨hk, hk.2⟩ : _ ∧ k_ ≠ gb370))) (fun _ hk => hk.2) (.int .i64 t367)) (fun _ hk => hk.2) (.int .i64 t368)) (fun _ h_ => h_.1)))); (case side2 => exact (Kd.R_reads' HO362.out).2.1); (case side3 => refine (Kd.R_reads' (e := 80) (base := w.heap.size) (ok := fun k_ => True) (n := t363.length) (c := co99) ?_).2.2; exact (by (with_reducible repeat (first | apply Kd.R_alloc | apply Kd.R_drewN | apply Kd.R_drew)); exact (Kd.R_mono (Kd.R_far (p := ⟨gb370, 1, none⟩) (Kd.R_far (p := ⟨gb370, 0, none⟩) (Kd.R_types HO365.out BK370.out (by decide)) (fun _ hk => hk.2) (.int .i64 t367)) (fun _ hk => hk.2) (.int .i64 t368)) (fun _ h_ => h_.1)))); (case side4 => exact (Kd.R_reads' HO365.out).2.1); (case side5 => exact Kd.C_below HR0_0.out (sqB HB)); (case side6 => exact HC0_0.out); (case side7 => exact Kd.C_below HR0_1.out (sqB HB)); (case side8 => exact HC0_1.out); rintro e w107 ⟨rfl, hb⟩; refine ⟨_, rfl, ?_⟩; replace HO362 := Aside0.mk (Kd.R_below (by (with_reducible repeat (first | apply Kd.R_alloc | apply Kd.R_drewN | apply Kd.R_drew)); exact (Kd.R_mono (Kd.R_far (p := ⟨gb370, 1, none⟩) (Kd.R_far (p := ⟨gb370, 0, none⟩) (Kd.R_mono HO362.out (fun k_ hk => (⟨hk, hk.2⟩ : _ ∧ k_ ≠ gb370))) (fun _ hk => hk.2) (.int .i64 t367)) (fun _ hk => hk.2) (.int .i64 t368)) (fun _ h_ => h_.1))) hb); replace HO365 := Aside0.mk (Kd.R_below (by (with_reducible repeat (first | apply Kd.R_alloc | apply Kd.R_drewN | apply Kd.R_drew)); exact (Kd.R_mono (Kd.R_far (p := ⟨gb370, 1, none⟩) (Kd.R_far (p := ⟨gb370, 0, none⟩) (Kd.R_types HO365.out BK370.out (by decide)) (fun _ hk => hk.2) (.int .i64 t367)) (fun _ hk => hk.2) (.int .i64 t368)) (fun _ h_ => h_.1))) hb); replace BK357 := Aside0.mk (blk_below (g := gb357) (o := .cells #[.slice A0_0 l0_0.length c0_0, .slice A0_1 l0_1.length c0_1] 25 (0, 0)) sqX hb); replace BK366 := Aside0.mk (blk_below (g := gb366) (o := .cells #[.slice Ao96 t360.length co96, .slice Ao99 t363.length co99] 25 (0, 0)) sqX hb); replace BK370 := Aside0.mk (blk_below (g := gb370) (o := .cells #[.int .i64 t367, .int .i64 t368] 41 (0, 0)) (by (with_reducible repeat (first | refine blk_drewN ?_ _ | refine blk_drew ?_ | refine blk_alloc ?_ _)); refine blk_put (cs := #[.int .i64 t367, .int .i64 0]) ?_ 1 _ rfl; (with_reducible repeat (first | refine blk_drewN ?_ _ | refine blk_drew ?_ | refine blk_alloc ?_ _)); refine blk_put (cs := #[.int .i64 0, .int .i64 0]) ?_ 0 _ rfl; (with_reducible repeat (first | refine blk_drewN ?_ _ | refine blk_drew ?_ | refine blk_alloc ?_ _)); exact BK370.out) hb); replace HB := sqb hb HB; (try clear hb); (try clear hb2); (try clear hk); (try clear hi)))
   go_ret
   exact ⟨by first | rfl | (simp [errW_none, errW_some] <;> rfl) | (simp [*, errW_none, errW_some] <;> rfl), sqB HB⟩
end Go.Proofs.YtemingmeidmjkaaDoor.Q
namespace Go.Proofs.YtemingmeidmjkaaDoor.Rw
open Go.RowKit Go.Proofs.YtemingmeidmjkaaDoorW.PrintWords
set_option linter.unusedVariables false
set_option linter.unusedSimpArgs false
theorem add_two (a : Addr) (x y : Nat) : (a.add x).add y = a.add (x + y) := by
 unfold Addr.add
 by_cases h1 : x = 0
 ·subst h1; simp
 ·by_cases h2 : y = 0
  ·subst h2; simp
  ·have h3 : ¬ x + y = 0 := by omega
   simp [h1, h2, Nat.add_assoc]
structure Opens {α : Type} (P : Program) (t : TypeId) (d : Kd α) (good : α → Prop) : Prop where
 size : d.sz = P.cellsOf t
 read : ∀ {H : Type} {enc : TypeId × Value → H} {w : World} {base : Nat} {sp : Nat → Bool} {held : Bool} {fuel : Nat} {cs : List Value} {x : DataW H × List MemPlace}, DataW.trod enc P w base sp held fuel t cs = some x → ∃ y : α, d.K w y cs ∧ good y
theorem Opens.int {P : Program} {t : TypeId} {k : IntKind} (ht : P.underlying t = some (.int k)) (hc : 1 = P.cellsOf t) : Opens P t (Kd.int k) (fun n => (Lit.int k n).wf = true) := ⟨hc, fun h => by
 obtain ⟨n, rfl, rfl, hw⟩ := DataW.trod_int ht h
 exact ⟨n, rfl, hw⟩⟩
theorem Opens.slice {α : Type} {P : Program} {t e : TypeId} {d : Kd α} {good : α → Prop} (ht : P.underlying t = some (.slice e)) (hc : 1 = P.cellsOf t) (h : Opens P e d good) : Opens P t (Kd.slice e d) (fun l => ∀ x ∈ l, good x) := ⟨hc, fun {H enc w base sp held fuel cs x} hx => by
 rcases DataW.trod_slice ht hx with ⟨rfl, _⟩ | ⟨a, len, cap, elems, rest, n, _, rfl, _, hb, hl, hm, hlen, hel, _, _⟩
 ·exact ⟨[], ⟨none, 0, rfl, Nat.le_refl _, Kd.C_nil _ _⟩, fun x hx => by cases hx⟩
 ·have key : ∀ m, m ≤ len → ∃ l : List α, l.length = m ∧ ∀ i z, l[i]? = some z → good z ∧ ∃ c, c.length = d.sz ∧ d.K w z c ∧ ∀ j u, c[j]? = some u → w.cell? (a.add (i * d.sz + j)) = some u := by
   intro m
   induction m with
   | zero => intro _; exact ⟨[], rfl, fun i z hz => by simp at hz⟩
   | succ m ih =>
    intro hle; obtain ⟨l, hll, hl2⟩ := ih (by omega); have h1 := hel m (by omega); rw [List.getElem?_eq_getElem (by omega), Option.bind_eq_some_iff] at h1; obtain ⟨c, hc1, hc2⟩ := h1; obtain ⟨z, hz, hg⟩ := h.read hc2; obtain ⟨_, hcl, hcc⟩ := World.cells?_some hc1; refine ⟨l ++ [z], by simp [hll], fun i z' hz' => ?_⟩
    rcases Nat.lt_or_ge i l.length with hlt | hge
    ·rw [List.getElem?_append_left hlt] at hz'
     exact hl2 i z' hz'
    ·rw [List.getElem?_append_right hge] at hz'
     have e : i = m := by
      rcases Nat.eq_zero_or_pos (i - l.length) with e | e
      ·omega
      ·rw [List.getElem?_eq_none (by simp; omega)] at hz'; cases hz'
     subst e; rw [show i - l.length = 0 by omega] at hz'; simp only [List.getElem?_cons_zero, Option.some.injEq] at hz'; subst hz'; refine ⟨hg, c, by rw [hcl, h.size], hz, fun j u hu => ?_⟩
     have hj : j < P.cellsOf e := by rw [← hcl]; exact (List.getElem?_eq_some_iff.1 hu).1
     have := hcc j hj; rw [hu] at this; rw [h.size, ← this, add_two]
  obtain ⟨l, hll, hl2⟩ := key len (Nat.le_refl _); refine ⟨l, ⟨some a, cap, by rw [hll], by omega, rfl, by unfold maxLen at hm; omega, fun _ => ⟨a, rfl, fun j p hj => ?_⟩⟩, fun x hx => ?_⟩
  ·obtain ⟨_, c, h1, h2, h3⟩ := hl2 j p hj
   exact ⟨c, h1, h2, h3⟩
  ·obtain ⟨i, hi⟩ := List.getElem?_of_mem hx
   exact (hl2 i x hi).1⟩
structure FOpens {α : Type} (P : Program) (fs : List Field) (off : Nat) (d : Kd α) (good : α → Prop) : Prop where
 read : ∀ {H : Type} {enc : TypeId × Value → H} {w : World} {base : Nat} {sp : Nat → Bool} {held : Bool} {fuel : Nat} {cs : List Value},
 (∀ (i : Nat) (f : Field), fs[i]? = some f → ∃ y, DataW.trod enc P w base sp held fuel f.type ((cs.drop f.offset).take (P.cellsOf f.type)) = some y) → cs.length = off + d.sz → ∃ y : α, d.K w y (cs.drop off) ∧ good y
theorem FOpens.one {α : Type} {P : Program} {f : Field} {off : Nat} {d : Kd α} {good : α → Prop} (h : Opens P f.type d good) (ho : f.offset = off) : FOpens P [f] off d good := ⟨fun {H enc w base sp held fuel cs} hf hl => by
 obtain ⟨y, hy⟩ := hf 0 f rfl; rw [ho, ← h.size, List.take_of_length_le (by rw [List.length_drop]; omega)] at hy
 exact h.read hy⟩
theorem FOpens.cons {α β : Type} {P : Program} {f : Field} {fs : List Field} {off : Nat} {d1 : Kd α} {d2 : Kd β} {g1 : α → Prop} {g2 : β → Prop} (h1 : Opens P f.type d1 g1) (ho : f.offset = off) (h2 : FOpens P fs (off + d1.sz) d2 g2) : FOpens P (f :: fs) off (Kd.pair d1 d2) (fun x => g1 x.1 ∧ g2 x.2) := ⟨fun {H enc w base sp held fuel cs} hf hl => by
 have hsz : (Kd.pair d1 d2).sz = d1.sz + d2.sz := rfl; obtain ⟨y1, hy1⟩ := hf 0 f rfl; rw [ho, ← h1.size] at hy1; obtain ⟨x1, hk1, hg1⟩ := h1.read hy1; obtain ⟨x2, hk2, hg2⟩ := h2.read (cs := cs) (fun i g hg => hf (i + 1) g (by simpa using hg)) (by omega); refine ⟨(x1, x2), ⟨_, _, ?_, hk1, hk2⟩, hg1, hg2⟩
 rw [← List.drop_drop, List.take_append_drop]⟩
theorem Opens.struct {α : Type} {P : Program} {t : TypeId} {fs : Array Field} {d : Kd α} {good : α → Prop} (ht : P.underlying t = some (.struct fs)) (hs : d.sz = P.cellsOf t) (h : FOpens P fs.toList 0 d good) : Opens P t d good := ⟨hs, fun {H enc w base sp held fuel cs x} hx => by
 obtain ⟨xs, n, _, _, hcl, hxl, hf⟩ := DataW.trod_struct ht hx
 have := h.read (enc := enc) (w := w) (base := base) (sp := sp) (held := held) (fuel := n) (cs := cs) (fun i f hi => by
  rw [Array.getElem?_toList] at hi; have hlt := (Array.getElem?_eq_some_iff.1 hi).1
  exact ⟨xs[i]'(by omega), by rw [hf i f hi, List.getElem?_eq_getElem]⟩) (by omega)
 simpa using this⟩
theorem Opens.iso {α β : Type} {P : Program} {t : TypeId} {d : Kd α} {good : α → Prop} (f : β → α) (g : α → β) (hfg : ∀ x, f (g x) = x) (h : Opens P t d good) : Opens P t (Kd.iso d f) (fun y => good (f y)) := ⟨h.size, fun hx => by
 obtain ⟨y, hk, hg⟩ := h.read hx
 exact ⟨g y, by show d.K _ (f (g y)) _; rw [hfg]; exact hk, by rw [hfg]; exact hg⟩⟩
end Go.Proofs.YtemingmeidmjkaaDoor.Rw
namespace Go.Proofs.YtemingmeidmjkaaDoor.Q
open Go.RowKit Go.Proofs.YtemingmeidmjkaaDoorW.PrintWords
set_option linter.unusedVariables false
set_option linter.unusedSimpArgs false
theorem rdA (l : List S41) (i : Nat) (h : i < l.length) : rd_T41 l (i : Int) = l[i] := by simp [rd_T41, h]
theorem rdW (l : List S80) (i : Nat) (h : i < l.length) : rd_T80 l (i : Int) = l[i] := by simp [rd_T80, h]
theorem drop_dec {α : Type} [DecidableEq α] (a b : List α) (i : Nat) (ha : i < a.length) (hb : i < b.length) : decide (a.drop i = b.drop i) = (decide (a[i] = b[i]) && decide (a.drop (i + 1) = b.drop (i + 1))) := by
 rw [List.drop_eq_getElem_cons ha, List.drop_eq_getElem_cons hb, Bool.eq_iff_iff]; simp only [decide_eq_true_eq, Bool.and_eq_true, List.cons.injEq]
theorem In_f (a b c : Int) : rf_In.f a b c = some (inB b c [a]) := by
 have e : inB b c [a] = (decide (b ≤ a) && decide (a ≤ c)) := by
  rw [Bool.eq_iff_iff, inB_iff]
  simp
 rw [e]
 unfold rf_In.f
 split <;> simp_all <;> omega
theorem inB_one (b c a : Int) : inB b c [a] = true ↔ b ≤ a ∧ a ≤ c := by rw [inB_iff]; simp
theorem known_f : lw_known.f = some true := rfl
theorem long_f (l0 : List S41) (l1 : List S80) : lw_long.f l0 l1 = some (decide ((l0.length : Int) > 10 ∨ (l1.length : Int) > 12)) := by
 unfold lw_long.f
 by_cases h : (l0.length : Int) > 10 <;> simp [h]
theorem Copy_f (l0 : List S41) (l1 : List S80) (h0 : l0.length ≤ 1000) (h1 : l1.length ≤ 1000) : rf_Copy.f l0 l1 = some (l0, l1) := by
 unfold rf_Copy.f
 simp only [Option.bind_some, List.length_nil, List.nil_append]; rw [if_pos (by omega), if_pos (by omega)]
theorem dec_S (x y : S41) : decide ((⟨x.f0, x.f1⟩ : Sp) = ⟨y.f0, y.f1⟩) = !(!(x.f0 == y.f0) || !(x.f1 == y.f1)) := by
 rw [Bool.eq_iff_iff]
 simp
theorem toSt_get (l : List S41) (i : Nat) (h : i < l.length) : (toSt l)[i]'(by rw [toSt_len]; exact h) = ⟨l[i].f0, l[i].f1⟩ := by simp [toSt]
theorem Spans_l0 (a b : List S41) (hl : a.length ≤ 1000) (hab : a.length = b.length) : ∀ (d i : Nat), i + d = a.length → Ev (fun k => rf_Spans.l0 k a b (i : Int)) (decide ((toSt a).drop i = (toSt b).drop i))
 | 0, i, h => by
  refine Ev.up ?_; simp only [rf_Spans.l0, if_neg (show ¬ (i : Int) < (a.length : Int) by omega)]; rw [List.drop_eq_nil_of_le (by rw [toSt_len]; omega), List.drop_eq_nil_of_le (by rw [toSt_len]; omega)]
  simpa using Ev.now true
 | d + 1, i, h => by
  refine Ev.up ?_; simp only [rf_Spans.l0, if_pos (show (i : Int) < (a.length : Int) by omega), if_pos (show (0 : Int) ≤ (i : Int) by omega), if_pos (show (i : Int) < (b.length : Int) by omega), wi i (by omega), rdA a i (by omega), rdA b i (by omega)]; rw [drop_dec (toSt a) (toSt b) i (by rw [toSt_len]; omega) (by rw [toSt_len]; omega), toSt_get a i (by omega), toSt_get b i (by omega), dec_S]
  cases hq : (!(a[i].f0 == b[i].f0) || !(a[i].f1 == b[i].f1))
  ·simp only [Bool.false_eq_true, if_false, Bool.not_false, Bool.true_and]
   exact Spans_l0 a b hl hab d (i + 1) (by omega)
  ·simp only [if_true, Bool.not_true, Bool.false_and]
   exact Ev.now _
theorem Spans_f (a b : List S41) (ha : a.length ≤ 1000) : Ev (fun k => rf_Spans.f k a b) (decide (toSt a = toSt b)) := by
 unfold rf_Spans.f
 by_cases h : a.length = b.length
 ·simp only [if_pos (show (a.length : Int) = (b.length : Int) by omega)]
  exact Spans_l0 a b ha h a.length 0 (by omega)
 ·simp only [if_neg (show ¬ (a.length : Int) = (b.length : Int) by omega)]
  rw [decide_eq_false (fun e => h (by have := congrArg List.length e; rwa [toSt_len, toSt_len] at this))]; exact Ev.now _
theorem Same_l0 (st : List S41) (wg : List S80) (hl : wg.length ≤ 1000) : ∀ (d i : Nat), i + d = wg.length → Ev (fun k => rf_Same.l0 k (i : Int) st wg st wg) true
 | 0, i, h => by
  refine Ev.up ?_; simp only [rf_Same.l0, if_neg (show ¬ (i : Int) < (wg.length : Int) by omega)]; exact Ev.now true
 | d + 1, i, h => by
  refine Ev.up ?_; simp only [rf_Same.l0, if_pos (show (i : Int) < (wg.length : Int) by omega), if_pos (show (0 : Int) ≤ (i : Int) by omega), wi i (by omega), beq_self_eq_true, Bool.not_true, Bool.or_self, Bool.false_eq_true, if_false]; exact Same_l0 st wg hl d (i + 1) (by omega)
theorem Same_f (st : List S41) (wg : List S80) (h0 : st.length ≤ 1000) (hl : wg.length ≤ 1000) : Ev (fun k => rf_Same.f k st wg st wg) true := by
 unfold rf_Same.f
 refine Ev.bind (Spans_f st st h0) ?_; simp only [decide_true, if_true, bne_self_eq_false]; refine Ev.up ?_; simp only [rf_Same.j0, Bool.false_eq_true, if_false]; exact Same_l0 st wg hl wg.length 0 (by omega)
theorem Least_f (s : Sp) (h : stB s) (w : Int) (hw : 0 ≤ w ∧ w ≤ 400) : rf_Least.f s.lo s.hi w = some (loS s w) := by
 obtain ⟨h0, h1, h2⟩ := h
 unfold rf_Least.f loS
 have e1 : 0 ≤ w * s.hi := Int.mul_nonneg hw.1 (by omega); have e2 : w * s.hi ≤ 400 * 300 := Int.mul_le_mul hw.2 h2 (by omega) (by omega)
 generalize w * s.hi = y at *
 rw [wr (x := y) (by omega), Int.tdiv_eq_ediv_of_nonneg (by omega), wr (x := y / 1000) (by omega), wr (x := y / 1000 * 1000) (by omega), wr (x := y / 1000 + 1) (by omega)]
 split
 ·rw [wr (by omega)]; congr 1; omega
 ·rw [wr (by omega)]; congr 1; omega
theorem Greatest_f (s : Sp) (h : stB s) (w : Int) (hw : 0 ≤ w ∧ w ≤ 400) : rf_Greatest.f s.lo s.hi w = some (hiS s w) := by
 obtain ⟨h0, h1, h2⟩ := h
 unfold rf_Greatest.f hiS
 have e1 : 0 ≤ w * s.lo := Int.mul_nonneg hw.1 (by omega); have e2 : w * s.lo ≤ 400 * 300 := Int.mul_le_mul hw.2 (by omega) (by omega) (by omega)
 generalize w * s.lo = y at *
 rw [wr (x := y) (by omega), Int.tdiv_eq_ediv_of_nonneg (by omega), wr (x := y / 1000) (by omega), wr (by omega)]
theorem Check_l1 (st : List S41) (wg : List S80) (hl : wg.length ≤ 1000) : ∀ (d i : Nat), i + d = wg.length → Ev (fun k => rf_Check.l1 k (i : Int) st wg) (if (toWg (wg.drop i)).any (wgBad st.length) then 2 else 0)
 | 0, i, h => by
  refine Ev.up ?_; simp only [rf_Check.l1, if_neg (show ¬ (i : Int) < (wg.length : Int) by omega)]; rw [List.drop_eq_nil_of_le (by omega)]; exact Ev.now _
 | d + 1, i, h => by
  refine Ev.up ?_
  have hi : i < wg.length := by omega
  simp only [rf_Check.l1, if_pos (show (i : Int) < (wg.length : Int) by omega), if_pos (show (0 : Int) ≤ (i : Int) by omega), wi i (by omega), rdW wg i hi, In_f, Option.bind_some]; have ih := Check_l1 st wg hl d (i + 1) (by omega); rw [List.drop_eq_getElem_cons hi]; have e : (toWg (wg[i] :: wg.drop (i + 1))).any (wgBad st.length) = (wgBad st.length ⟨wg[i].f0, wg[i].f1, wg[i].f2⟩ || (toWg (wg.drop (i + 1))).any (wgBad st.length)) := rfl; rw [e]
  unfold wgBad at ih ⊢
  cases h1 : inB 0 (st.length : Int) [wg[i].f0] <;> cases h2 : inB 0 400 [wg[i].f1] <;> cases h3 : inB 0 20 [wg[i].f2] <;> simp only [Bool.false_eq_true, if_false, if_true, Bool.not_true, Bool.not_false, Bool.or_true, Bool.true_or, Bool.or_false, Bool.false_or]
  all_goals first | exact Ev.now _ | exact ih
theorem Check_l0 (st : List S41) (wg : List S80) (hs : st.length ≤ 1000) (hl : wg.length ≤ 1000) : ∀ (d i : Nat), i + d = st.length → Ev (fun k => rf_Check.l0 k (i : Int) st wg) (if (toSt (st.drop i)).any stBad then 4 else if wg.length > 8 then 5 else if (toWg wg).any (wgBad st.length) then 2 else 0)
 | 0, i, h => by
  refine Ev.up ?_; simp only [rf_Check.l0, if_neg (show ¬ (i : Int) < (st.length : Int) by omega)]; rw [List.drop_eq_nil_of_le (by omega)]; have e : (toSt []).any stBad = false := rfl; rw [e]; simp only [Bool.false_eq_true, if_false]
  by_cases h8 : wg.length > 8
  ·simp only [if_pos h8, if_pos (show (wg.length : Int) > 8 by omega)]
   exact Ev.now _
  ·simp only [if_neg h8, if_neg (show ¬ (wg.length : Int) > 8 by omega)]
   have h9 := Check_l1 st wg hl wg.length 0 (by omega); rw [List.drop_zero] at h9; exact h9
 | d + 1, i, h => by
  refine Ev.up ?_
  have hi : i < st.length := by omega
  simp only [rf_Check.l0, if_pos (show (i : Int) < (st.length : Int) by omega), if_pos (show (0 : Int) ≤ (i : Int) by omega), wi i (by omega), rdA st i hi, In_f, Option.bind_some]; have ih := Check_l0 st wg hs hl d (i + 1) (by omega); rw [List.drop_eq_getElem_cons hi]; have e : (toSt (st[i] :: st.drop (i + 1))).any stBad = (stBad ⟨st[i].f0, st[i].f1⟩ || (toSt (st.drop (i + 1))).any stBad) := rfl; rw [e]
  have e2 : stBad ⟨st[i].f0, st[i].f1⟩ = !(inB 0 st[i].f1 [st[i].f0] && !decide (st[i].f1 > 300)) := by
   unfold stBad
   rw [Bool.eq_iff_iff]; simp only [Bool.or_eq_true, decide_eq_true_eq, Bool.not_eq_true', Bool.and_eq_false_iff, Bool.not_eq_false']
   have a1 : (inB 0 300 [st[i].f0, st[i].f1] = false) ↔ ¬ ((0 ≤ st[i].f0 ∧ st[i].f0 ≤ 300) ∧ (0 ≤ st[i].f1 ∧ st[i].f1 ≤ 300)) := by
    rw [← Bool.not_eq_true, inB_iff]
    simp
   have a2 : (inB 0 st[i].f1 [st[i].f0] = false) ↔ ¬ (0 ≤ st[i].f0 ∧ st[i].f0 ≤ st[i].f1) := by rw [← Bool.not_eq_true, inB_one]
   rw [a1, a2]; omega
  rw [e2]
  cases h1 : inB 0 st[i].f1 [st[i].f0]
  ·simp only [Bool.false_eq_true, if_false, Bool.false_and, Bool.not_false, Bool.true_or, if_true]
   exact Ev.now _
  ·by_cases h3 : st[i].f1 > 300
   ·simp only [h3, if_true, decide_true, Bool.not_true, Bool.and_false, Bool.not_false, Bool.true_or]
    exact Ev.now _
   ·simp only [h3, if_true, decide_false, Bool.not_false, Bool.and_true, Bool.not_true, Bool.false_or, if_false]
    exact ih
theorem Check_f (st : List S41) (wg : List S80) (hs : st.length ≤ 1000) (hl : wg.length ≤ 1000) : Ev (fun k => rf_Check.f k st wg) (roadE (toSt st) (toWg wg)) := by
 unfold rf_Check.f roadE
 simp only [In_f, Option.bind_some, toSt_len, toWg_len]
 cases h1 : inB 1 5 [(st.length : Int)]
 ·simp only [Bool.false_eq_true, if_false]
  exact Ev.now _
 ·simp only [if_true]
  have h9 := Check_l0 st wg hs hl st.length 0 (by omega); rw [List.drop_zero] at h9; exact h9
end Go.Proofs.YtemingmeidmjkaaDoor.Q
namespace Go.Proofs.YtemingmeidmjkaaDoor.Q
open Go.RowKit Go.Proofs.YtemingmeidmjkaaDoorW.PrintWords Go.Proofs.YtemingmeidmjkaaDoorW.PrintLast Go.Proofs.YtemingmeidmjkaaDoorW.PrintMore
attribute [local go_sem] max2_int min2_int max_two min_two max_three min_three max_four min_four   -- for this text's walks alone
set_option linter.unusedVariables false
set_option linter.unusedSimpArgs false
end Go.Proofs.YtemingmeidmjkaaDoor.Q
namespace Go.Proofs.YtemingmeidmjkaaDoor.Q
open Go.RowKit Go.Proofs.YtemingmeidmjkaaDoorW.PrintWords Go.Proofs.YtemingmeidmjkaaDoorW.PrintLast Go.Proofs.YtemingmeidmjkaaDoorW.PrintMore
attribute [local go_sem] max2_int min2_int max_two min_two max_three min_three max_four min_four   -- for this text's walks alone
set_option linter.unusedVariables false
set_option linter.unusedSimpArgs false
end Go.Proofs.YtemingmeidmjkaaDoor.Q
namespace Go.Proofs.YtemingmeidmjkaaDoor.Q
open Go.RowKit Go.Proofs.YtemingmeidmjkaaDoorW.PrintWords
set_option linter.unusedVariables false
set_option linter.unusedSimpArgs false
def fitB (wg : List Wg) (p w : Int) : Bool := wg.all fun x => !decide (x.p = p) || inB (x.r - x.o) (x.r + x.o) [w]
theorem fitB_iff (wg : List Wg) (p w : Int) : fitB wg p w = true ↔ ∀ x ∈ wg, x.p = p → x.r - x.o ≤ w ∧ w ≤ x.r + x.o := by
 unfold fitB
 simp only [List.all_eq_true, Bool.or_eq_true, Bool.not_eq_true', decide_eq_false_iff_not, inB_one]
 exact ⟨fun h x hx hp => (h x hx).resolve_left (fun hn => hn hp), fun h x hx => by
  by_cases e : x.p = p
  ·exact .inr (h x hx e)
  ·exact .inl e⟩
theorem seen_in (p w : Int) : ∀ (wg : List Wg) (s : Sp), inS (wg.foldl (seenStep p) s) w ↔ inS s w ∧ ∀ x ∈ wg, x.p = p → x.r - x.o ≤ w ∧ w ≤ x.r + x.o
 | [], s => by simp
 | x :: wg, s => by
  rw [List.foldl_cons, seen_in p w wg]
  unfold seenStep
  by_cases e : x.p = p
  ·rw [if_pos e, inS_and]
   simp only [List.mem_cons, forall_eq_or_imp, e, true_implies]
   unfold inS
   simp only
   constructor
   ·rintro ⟨⟨h1, h2⟩, h3⟩; exact ⟨h1, h2, h3⟩
   ·rintro ⟨h1, h2, h3⟩; exact ⟨⟨h1, h2⟩, h3⟩
  ·rw [if_neg e]
   simp only [List.mem_cons, forall_eq_or_imp, e, false_implies, true_and]
theorem fit_seen (wg : List Wg) (p w : Int) (h : 0 ≤ w ∧ w ≤ 400) : fitB wg p w = true ↔ inS (seenS wg p) w := by
 rw [fitB_iff, seenS, seen_in]; simp only [inS]; exact ⟨fun h1 => ⟨h, h1⟩, fun h1 => h1.2⟩
theorem Fits_l0 (st : List S41) (wg : List S80) (hw : wgOk (toWg wg)) (hl : wg.length ≤ 1000) (p w : Int) : ∀ (d i : Nat), i + d = wg.length → Ev (fun k => rf_Fits.l0 k p w (i : Int) st wg) (fitB (toWg (wg.drop i)) p w)
 | 0, i, h => by
  refine Ev.up ?_; simp only [rf_Fits.l0, if_neg (show ¬ (i : Int) < (wg.length : Int) by omega)]; rw [List.drop_eq_nil_of_le (by omega)]; exact Ev.now _
 | d + 1, i, h => by
  refine Ev.up ?_
  have hi : i < wg.length := by omega
  have hb := hw ⟨wg[i].f0, wg[i].f1, wg[i].f2⟩ (List.mem_map.2 ⟨wg[i], List.getElem_mem hi, rfl⟩); simp only at hb; simp only [rf_Fits.l0, if_pos (show (i : Int) < (wg.length : Int) by omega), if_pos (show (0 : Int) ≤ (i : Int) by omega), wi i (by omega), rdW wg i hi, In_f, Option.bind_some]; rw [wr (x := wg[i].f1 - wg[i].f2) (by omega), wr (x := wg[i].f1 + wg[i].f2) (by omega), List.drop_eq_getElem_cons hi]; have ih := Fits_l0 st wg hw hl p w d (i + 1) (by omega); have e : fitB (toWg (wg[i] :: wg.drop (i + 1))) p w = ((!decide (wg[i].f0 = p) || inB (wg[i].f1 - wg[i].f2) (wg[i].f1 + wg[i].f2) [w]) && fitB (toWg (wg.drop (i + 1))) p w) := rfl; rw [e]
  by_cases hp : wg[i].f0 = p
  ·simp only [hp, if_true, decide_true, Bool.not_true, Bool.false_or]
   cases inB (wg[i].f1 - wg[i].f2) (wg[i].f1 + wg[i].f2) [w]
   ·simp only [Bool.false_eq_true, if_false, Bool.false_and]; exact Ev.now _
   ·simp only [if_true, Bool.true_and]; exact ih
  ·simp only [hp, if_false, decide_false, Bool.not_false, Bool.true_or, Bool.true_and]
   exact ih
theorem Fits_f (st : List S41) (wg : List S80) (hw : wgOk (toWg wg)) (hl : wg.length ≤ 1000) (p w : Int) : Ev (fun k => rf_Fits.f k st wg p w) (fitB (toWg wg) p w) := by
 have h := Fits_l0 st wg hw hl p w wg.length 0 (by omega); rw [List.drop_zero] at h; exact h
section
variable (st : List S41) (wg : List S80) (hok : RdOk (toSt st) (toWg wg)) (hl : wg.length ≤ 1000) (th : Int) (r : List (List Bool))
end
end Go.Proofs.YtemingmeidmjkaaDoor.Q
namespace Go.Proofs.YtemingmeidmjkaaDoor.Q
open Go.RowKit Go.Proofs.YtemingmeidmjkaaDoorW.PrintWords
set_option linter.unusedVariables false
set_option linter.unusedSimpArgs false
def ad : Option Sp → Option Sp → Option Sp
 | some a, some b => some ⟨a.lo + b.lo, a.hi + b.hi⟩
 | none, _ => none
 | some _, none => none
theorem ad_none (o : Option Sp) : ad o none = none := by cases o <;> rfl
theorem ad_comm (o p : Option Sp) : ad o p = ad p o := by
 cases o <;> cases p <;> simp only [ad, Int.add_comm]
theorem ad_mo (o p c : Option Sp) : ad (mo o p) c = mo (ad o c) (ad p c) := by
 cases c with
 | none => simp only [ad_none]; rfl
 | some c =>
  cases o with
  | none => rfl
  | some a =>
   cases p with
   | none => rfl
   | some b =>
    simp only [mo, ad, Option.some.injEq, Sp.mk.injEq]; omega
theorem fo_ad (f : Nat → Option Sp) (c : Option Sp) : ∀ n, ad (fo f n) c = fo (fun j => ad (f j) c) n
 | 0 => by cases c <;> rfl
 | n + 1 => by rw [fo_succ, fo_succ, ad_mo, fo_ad f c n]
theorem fo_da (f : Nat → Option Sp) (c : Option Sp) (n : Nat) : ad c (fo f n) = fo (fun j => ad c (f j)) n := by
 rw [ad_comm, fo_ad]
 exact fo_congr fun j _ => ad_comm _ _
theorem fo_mo (f g : Nat → Option Sp) : ∀ n, fo (fun j => mo (f j) (g j)) n = mo (fo f n) (fo g n)
 | 0 => rfl
 | n + 1 => by
  rw [fo_succ, fo_succ, fo_succ, fo_mo f g n, mo_assoc, mo_assoc]
  congr 1
  rw [← mo_assoc, ← mo_assoc, mo_comm (fo g n)]
theorem fo_swap (F : Nat → Nat → Option Sp) (m : Nat) : ∀ n, fo (fun i => fo (fun j => F i j) m) n = fo (fun j => fo (fun i => F i j) n) m
 | 0 => by
  rw [show (fun j => fo (fun i => F i j) 0) = fun _ => none from rfl, fo_none fun _ _ => rfl]; rfl
 | n + 1 => by
  rw [fo_succ, fo_swap F m n, ← fo_mo]
  exact fo_congr fun j _ => (fo_succ (fun i => F i j) n).symm
theorem fo_add (f : Nat → Option Sp) (n : Nat) : ∀ m, fo f (n + m) = mo (fo f n) (fo (fun j => f (n + j)) m)
 | 0 => (mo_none _).symm
 | m + 1 => by rw [← Nat.add_assoc, fo_succ, fo_add f n m, fo_succ, mo_assoc]
theorem fo_shift (f : Nat → Option Sp) (a m N : Nat) (h : a + m ≤ N) (hn : ∀ j, j < N → (j < a ∨ a + m ≤ j) → f j = none) : fo f N = fo (fun j => f (a + j)) m := by
 obtain ⟨r, rfl⟩ : ∃ r, N = a + m + r := ⟨N - (a + m), by omega⟩; rw [fo_add f (a + m) r, fo_add f a m, fo_none (f := f) (n := a) (fun j hj => hn j (by omega) (.inl hj)), fo_none (n := r) (fun j hj => hn (a + m + j) (by omega) (.inr (by omega))), mo_none]; rfl
theorem fo_seen (wg : List Wg) (p : Int) (f : Int → Option Sp) (hf : ∀ w : Int, ¬ inS (seenS wg p) w → f w = none) : fo (fun w => f (w : Int)) 401 = fo (fun j => f ((seenS wg p).lo + (j : Int))) (spN (seenS wg p)) := by
 obtain ⟨h1, h2⟩ := seenS_ok wg p
 generalize seenS wg p = s at *
 by_cases hs : s.lo > s.hi
 ·have e : spN s = 0 := by unfold spN; omega
  rw [e, fo_none fun j _ => hf _ (by unfold inS; omega)]; rfl
 ·have hb : 0 ≤ s.lo := h1
  obtain ⟨a, ha⟩ : ∃ a : Nat, s.lo = (a : Int) := ⟨s.lo.toNat, by omega⟩; rw [fo_shift (fun w => f (w : Int)) a (spN s) 401 (by unfold spN; omega) (fun j _ hj => hf _ (by unfold inS; unfold spN at hj; omega))]
  refine fo_congr fun j _ => ?_
  rw [ha]
  congr 1
def sh (t : Sp) (w v : Int) : Option Sp → Option Sp
 | none => none
 | some a => some ⟨a.lo + max 0 (loS t w - v), a.hi + (hiS t w - v)⟩
def bwN (st : List Sp) (wg : List Wg) : Nat → Nat → Nat → Option Sp
 | 0, p, w => if fitB wg (p : Int) (w : Int) then some ⟨0, 0⟩ else none
 | d + 1, p, w => if fitB wg (p : Int) (w : Int) then fo (fun v => sh (rdS st (p : Int)) (w : Int) (v : Int) (bwN st wg d (p + 1) v)) (hiS (rdS st (p : Int)) (w : Int) + 1).toNat else none
theorem bwN_fit {st : List Sp} {wg : List Wg} {d p w : Nat} (h : fitB wg (p : Int) (w : Int) = false) : bwN st wg d p w = none := by
 cases d <;> simp [bwN, h]
section
variable {st : List Sp} {wg : List Wg}
theorem bw_step (hok : RdOk st wg) (i d : Nat) (hi : i + (d + 1) = st.length) :
  fo (fun w => ad (msN st wg i (w : Int)) (bwN st wg (d + 1) i w)) 401 = fo (fun v => ad (msN st wg (i + 1) (v : Int)) (bwN st wg d (i + 1) v)) 401 := by
 have hst := hok.at (i : Int) (by omega) (by omega)
 have hms : ∀ w : Int, ¬ inS (seenS wg (i : Int)) w → msN st wg i w = none := by
  intro w hw
  cases h : msN st wg i w with
  | none => rfl
  | some s => exact absurd (msN_ok hok i (by omega) w s h).1 hw
 -- forwards
 have e1 : fo (fun v => ad (msN st wg (i + 1) (v : Int)) (bwN st wg d (i + 1) v)) 401 = fo (fun v => fo (fun w => ad (con (rdS st (i : Int)) (seenS wg ((i + 1 : Nat) : Int)) (v : Int) (w : Int) (msN st wg i (w : Int))) (bwN st wg d (i + 1) v)) 401) 401 := by
  refine fo_congr fun v hv => ?_
  rw [msN, msStep, ← fo_seen wg (i : Int) (fun w => con (rdS st (i : Int)) (seenS wg ((i + 1 : Nat) : Int)) (v : Int) w (msN st wg i w)) (fun w hw => by rw [hms w hw]; rfl), fo_ad]
 -- backwards
 have e2 : fo (fun w => ad (msN st wg i (w : Int)) (bwN st wg (d + 1) i w)) 401 = fo (fun w => fo (fun v => ad (msN st wg i (w : Int)) (if (v : Int) ≤ hiS (rdS st (i : Int)) (w : Int) then sh (rdS st (i : Int)) (w : Int) (v : Int) (bwN st wg d (i + 1) v) else none)) 401) 401 := by
  refine fo_congr fun w hw => ?_
  cases hm : msN st wg i (w : Int) with
  | none =>
   rw [fo_none (f := fun v => ad none (if (v : Int) ≤ hiS (rdS st (i : Int)) (w : Int) then sh (rdS st (i : Int)) (w : Int) (v : Int) (bwN st wg d (i + 1) v) else none)) (fun j _ => rfl)]; rfl
  | some a =>
   have hin := (msN_ok hok i (by omega) _ _ hm).1; have hfit := (fit_seen wg (i : Int) (w : Int) (by omega)).2 hin; have hle := hiS_le hst (w := (w : Int)) (by omega); have h0 := loS_nn hst (w := (w : Int)) (by omega); have h1 := loS_hiS hst (w := (w : Int)) (by omega)
   have e3 : fo (fun v => if ((v : Nat) : Int) ≤ hiS (rdS st (i : Int)) (w : Int) then sh (rdS st (i : Int)) (w : Int) (v : Int) (bwN st wg d (i + 1) v) else none) 401 = fo (fun v => sh (rdS st (i : Int)) (w : Int) (v : Int) (bwN st wg d (i + 1) v)) (hiS (rdS st (i : Int)) (w : Int) + 1).toNat := by
    rw [fo_shift (fun v => if ((v : Nat) : Int) ≤ hiS (rdS st (i : Int)) (w : Int) then sh (rdS st (i : Int)) (w : Int) (v : Int) (bwN st wg d (i + 1) v) else none) 0 (hiS (rdS st (i : Int)) (w : Int) + 1).toNat 401 (by omega) (fun j _ hj => by rw [if_neg (by omega)])]
    refine fo_congr fun v hv => ?_
    rw [Nat.zero_add, if_pos (by omega)]
   rw [bwN, if_pos hfit, ← fo_da, e3]
 rw [e1, e2, fo_swap]
 refine fo_congr fun v hv => fo_congr fun w hw => ?_
 cases hb : bwN st wg d (i + 1) v with
 | none =>
  rw [ad_none]
  have : (if (v : Int) ≤ hiS (rdS st (i : Int)) (w : Int) then sh (rdS st (i : Int)) (w : Int) (v : Int) none else none) = none := by split <;> rfl
  rw [this, ad_none]
 | some b =>
  have hfit : fitB wg ((i + 1 : Nat) : Int) (v : Int) = true := by
   cases hf : fitB wg ((i + 1 : Nat) : Int) (v : Int)
   ·rw [bwN_fit hf] at hb
    cases hb
   ·rfl
  have hin := (fit_seen wg ((i + 1 : Nat) : Int) (v : Int) (by omega)).1 hfit
  unfold inS at hin
  cases msN st wg i (w : Int) with
  | none => rfl
  | some a =>
   simp only [con]
   by_cases hv2 : (v : Int) ≤ hiS (rdS st (i : Int)) (w : Int)
   ·rw [if_pos hv2, if_pos (by omega)]
    simp only [sh, ad, Option.some.injEq, Sp.mk.injEq]; omega
   ·rw [if_neg hv2, if_neg (by omega)]
    rfl
theorem bw_all (hok : RdOk st wg) : ∀ (d i : Nat), i + d = st.length → fo (fun w => ad (msN st wg i (w : Int)) (bwN st wg d i w)) 401 = msAll st wg
 | 0, i, hi => by
  obtain rfl : i = st.length := by omega
  have hms : ∀ w : Int, ¬ inS (seenS wg (st.length : Int)) w → msN st wg st.length w = none := by
   intro w hw
   cases h : msN st wg st.length w with
   | none => rfl
   | some s => exact absurd (msN_ok hok st.length (by omega) w s h).1 hw
  rw [msAll, ← fo_seen wg (st.length : Int) (fun w => msN st wg st.length w) hms]
  refine fo_congr fun w hw => ?_
  cases hm : msN st wg st.length (w : Int) with
  | none => rfl
  | some a =>
   have hin := (msN_ok hok st.length (by omega) _ _ hm).1; rw [bwN, if_pos ((fit_seen wg (st.length : Int) (w : Int) (by omega)).2 hin)]
   simp [ad]
 | d + 1, i, hi => by
  rw [bw_step hok i d hi]; exact bw_all hok d (i + 1) (by omega)
theorem bw_eq (hok : RdOk st wg) : fo (fun w => bwN st wg st.length 0 w) 401 = msAll st wg := by
 rw [← bw_all hok st.length 0 (by omega)]
 refine fo_congr fun w hw => ?_
 cases hf : fitB wg 0 (w : Int)
 ·rw [bwN_fit (p := 0) hf, ad_none]
 ·have hin := (fit_seen wg 0 (w : Int) (by omega)).1 hf
  have : msN st wg 0 (w : Int) = some ⟨0, 0⟩ := by
   unfold inS at hin
   simp only [msN]; rw [if_pos (by unfold spN; omega)]
  rw [this]
  cases bwN st wg st.length 0 w with
  | none => rfl
  | some b => simp [ad]
theorem fo_lo {B : Int} {f : Nat → Option Sp} : ∀ {n : Nat}, (∀ j, j < n → ∀ s, f j = some s → s.lo ≤ B) → ∀ s, fo f n = some s → s.lo ≤ B
 | 0, _, s, h => by cases h
 | n + 1, hf, s, h => by
  rw [fo_succ] at h; have ih := fo_lo (fun j hj => hf j (show j < n + 1 by omega)) (n := n)
  cases h1 : fo f n with
  | none =>
   rw [h1] at h; exact hf n (by omega) s h
  | some a =>
   have ha := ih a h1; rw [h1] at h
   cases h2 : f n with
   | none =>
    rw [h2] at h; rw [← Option.some.inj h]; exact ha
   | some b =>
    rw [h2] at h; rw [← Option.some.inj h]; simp only; omega
theorem bwN_ok (hok : RdOk st wg) : ∀ (d p w : Nat), p + d = st.length → w ≤ 400 → ∀ s, bwN st wg d p w = some s → bdS 0 (400 * (d : Int)) s ∧ s.lo ≤ (w : Int)
 | 0, p, w, hp, hw, s, h => by
  simp only [bwN] at h
  split at h
  ·rw [← Option.some.inj h]
   simp [bdS]
  ·cases h
 | d + 1, p, w, hp, hw, s, h => by
  have hst := hok.at (p : Int) (by omega) (by omega); have g1 := loS_nn hst (w := (w : Int)) (by omega); have g2 := loS_hiS hst (w := (w : Int)) (by omega); have g3 := hiS_le hst (w := (w : Int)) (by omega); simp only [bwN] at h
  split at h
  ·have key : ∀ j, j < (hiS (rdS st (p : Int)) (w : Int) + 1).toNat → ∀ s, sh (rdS st (p : Int)) (w : Int) (j : Int) (bwN st wg d (p + 1) j) = some s → bdS 0 (400 * ((d + 1 : Nat) : Int)) s ∧ s.lo ≤ (w : Int) := by
    intro j hj s hs
    cases hb : bwN st wg d (p + 1) j with
    | none => rw [hb] at hs; cases hs
    | some a =>
     have ih := bwN_ok hok d (p + 1) j (by omega) (by omega) a hb; rw [hb] at hs; simp only [sh, Option.some.injEq] at hs; rw [← hs]
     unfold bdS at *
     simp only; omega
   exact ⟨fo_bd (fun j hj s hs => (key j hj s hs).1) s h, fo_lo (fun j hj s hs => (key j hj s hs).2) s h⟩
  ·cases h
end
end Go.Proofs.YtemingmeidmjkaaDoor.Q
namespace Go.Proofs.YtemingmeidmjkaaDoor.Q
open Go.RowKit Go.Proofs.YtemingmeidmjkaaDoorW.PrintWords
set_option linter.unusedVariables false
set_option linter.unusedSimpArgs false
theorem mx_max2 (a b : Int) : mx a b = max a b := by unfold mx; omega
def tbI (g : Nat → Int) : List Int := (List.range 401).map g
theorem tbI_len (g : Nat → Int) : (tbI g).length = 401 := by simp [tbI]
theorem tbI_get (g : Nat → Int) (i : Nat) (h : i ≤ 400) : rd (tbI g) (i : Int) = g i := by
 unfold rd tbI
 rw [Int.toNat_natCast, List.getD_eq_getElem?_getD, List.getElem?_map, List.getElem?_range (by omega)]; rfl
theorem tbI_congr {g h : Nat → Int} (e : ∀ j, j ≤ 400 → g j = h j) : tbI g = tbI h := List.map_congr_left fun j hj => e j (by have := List.mem_range.1 hj; omega)
def upI (g : Nat → Int) (i : Nat) (x : Int) : Nat → Int := fun j => if j = i then x else g j
theorem upI_at (g : Nat → Int) (i : Nat) (x : Int) : upI g i x i = x := by simp [upI]
theorem upI_up (g : Nat → Int) (i : Nat) (x y : Int) : upI (upI g i x) i y = upI g i y := by
 funext j
 unfold upI
 by_cases e : j = i
 ·rw [if_pos e, if_pos e]
 ·rw [if_neg e, if_neg e, if_neg e]
theorem tbI_set (g : Nat → Int) (i : Nat) (x : Int) : (tbI g).set ((i : Int)).toNat x = tbI (upI g i x) := by
 rw [Int.toNat_natCast]
 apply List.ext_getElem?
 intro j; rw [List.getElem?_set]
 unfold tbI upI
 simp only [List.getElem?_map, List.length_map, List.length_range]
 by_cases e : i = j
 ·subst e
  rw [if_pos rfl]
  by_cases hj : i < 401
  ·rw [if_pos hj, List.getElem?_range hj]
   simp
  ·rw [if_neg hj, List.getElem?_eq_none (by simpa using hj)]
   rfl
 ·rw [if_neg e]
  by_cases hj : j < 401
  ·rw [List.getElem?_range hj]
   simp only [Option.map_some]; rw [if_neg (fun h => e h.symm)]
  ·rw [List.getElem?_eq_none (by simpa using hj)]
   rfl
def enc (most : Bool) : Option Sp → Int
 | none => -1
 | some s => if most then s.hi else s.lo
section
variable (st : List S41) (wg : List S80) (most : Bool) (r : List Int)
theorem Totals_l2 (hok : RdOk (toSt st) (toWg wg)) (p : Nat) (hp : p < st.length) (w : Nat) (hw : w ≤ 400) (N : Nat → Option Sp) (hN : ∀ v, v ≤ 400 → ∀ s, N v = some s → bdS 0 100000 s) (g : Nat → Int)
  (h : Ev (fun k => rf_Totals.l1 k most (tbI fun v => enc most (N v)) (p : Int) (tbI (upI g w (enc most (fo (fun v => sh (rdS (toSt st) (p : Int)) (w : Int) (v : Int) (N v)) (hiS (rdS (toSt st) (p : Int)) (w : Int) + 1).toNat)))) ((w + 1 : Nat) : Int) st wg) r) :
  ∀ (d i : Nat), i + d = (hiS (rdS (toSt st) (p : Int)) (w : Int) + 1).toNat → Ev (fun k => rf_Totals.l2 k most (tbI fun v => enc most (N v)) (p : Int) (tbI (upI g w (enc most (fo (fun v => sh (rdS (toSt st) (p : Int)) (w : Int) (v : Int) (N v)) i)))) (w : Int) (i : Int) st wg) r
 | 0, i, hd => by
  have hlen := hok.len; rw [toSt_len] at hlen; have hv := hok.at (p : Int) (by omega) (by rw [toSt_len]; omega)
  have er : rdS (toSt st) (p : Int) = ⟨st[p].f0, st[p].f1⟩ := by rw [rdS_nat _ _ (by rw [toSt_len]; exact hp), toSt_get st p hp]
  have e2 := Greatest_f (rdS (toSt st) (p : Int)) hv (w : Int) (by omega); have g1 := loS_nn hv (w := (w : Int)) (by omega); have g2 := loS_hiS hv (w := (w : Int)) (by omega)
  have hi' : (hiS (rdS (toSt st) (p : Int)) (w : Int) + 1).toNat = i := by omega
  rw [hi'] at h; rw [er] at e2 hd g2
  try simp only at e2
  refine Ev.up ?_; simp only [rf_Totals.l2, if_pos (show (0 : Int) ≤ (p : Int) by omega), if_pos (show (p : Int) < (st.length : Int) by omega), rdA st p hp, e2, Option.bind_some, if_neg (show ¬ (i : Int) ≤ hiS ⟨st[p].f0, st[p].f1⟩ (w : Int) by omega), wi w (by omega)]; exact h
 | d + 1, i, hd => by
  have hlen := hok.len; rw [toSt_len] at hlen; have hv := hok.at (p : Int) (by omega) (by rw [toSt_len]; omega)
  have er : rdS (toSt st) (p : Int) = ⟨st[p].f0, st[p].f1⟩ := by rw [rdS_nat _ _ (by rw [toSt_len]; exact hp), toSt_get st p hp]
  have e1 := Least_f (rdS (toSt st) (p : Int)) hv (w : Int) (by omega); have e2 := Greatest_f (rdS (toSt st) (p : Int)) hv (w : Int) (by omega); have g1 := loS_nn hv (w := (w : Int)) (by omega); have g2 := loS_hiS hv (w := (w : Int)) (by omega); have g3 := hiS_le hv (w := (w : Int)) (by omega); have ih := Totals_l2 hok p hp w hw N hN g h d (i + 1) (by omega); rw [fo_succ] at ih
  have hcb : ∀ a, fo (fun v => sh (rdS (toSt st) (p : Int)) (w : Int) (v : Int) (N v)) i = some a → bdS 0 101000 a := by
   refine fo_bd fun j hj s hs => ?_
   try simp only at hs
   cases hNj : N j with
   | none => rw [hNj] at hs; cases hs
   | some b =>
    have hb := hN j (by omega) b hNj; rw [hNj] at hs; simp only [sh, Option.some.injEq] at hs; rw [← hs]
    unfold bdS at *
    simp only; omega
  generalize hcur : fo (fun v => sh (rdS (toSt st) (p : Int)) (w : Int) (v : Int) (N v)) i = cur at *
  rw [er] at e1 e2 hd g1 g2 g3 ih
  try simp only at e1 e2
  have hi4 : i ≤ 400 := by omega
  refine Ev.up ?_; simp only [rf_Totals.l2, if_pos (show (0 : Int) ≤ (p : Int) by omega), if_pos (show (p : Int) < (st.length : Int) by omega), rdA st p hp, e2, Option.bind_some, if_pos (show (i : Int) ≤ hiS ⟨st[p].f0, st[p].f1⟩ (w : Int) by omega), if_pos (show (0 : Int) ≤ (i : Int) by omega), tbI_len, if_pos (show (i : Int) < ((401 : Nat) : Int) by omega), tbI_get _ i hi4, wi i (by omega), if_pos (show (0 : Int) ≤ (w : Int) by omega), if_pos (show (w : Int) < ((401 : Nat) : Int) by omega), tbI_get _ w hw, upI_at]
  cases hNi : N i with
  | none =>
   rw [hNi] at ih; simp only [sh, mo_none] at ih; simp only [enc, if_pos (show (-1 : Int) < 0 by omega)]; exact ih
  | some s =>
   have hb := hN i hi4 s hNi
   unfold bdS at hb
   rw [hNi] at ih; simp only [sh] at ih
   cases most
   ·simp only [enc, Bool.false_eq_true, if_false] at ih ⊢
    simp only [if_neg (show ¬ s.lo < 0 by omega)]; refine Ev.up ?_; simp only [rf_Totals.j3, Bool.false_eq_true, if_false, if_pos (show (0 : Int) ≤ (p : Int) by omega), if_pos (show (p : Int) < (st.length : Int) by omega), rdA st p hp, e1, Option.bind_some, if_pos (show (0 : Int) ≤ (i : Int) by omega), tbI_len, if_pos (show (i : Int) < ((401 : Nat) : Int) by omega), tbI_get _ i hi4, wi i (by omega), if_pos (show (0 : Int) ≤ (w : Int) by omega), if_pos (show (w : Int) < ((401 : Nat) : Int) by omega), tbI_get _ w hw, upI_at, tbI_set, upI_up, hNi, mx_max2, wr (show -9223372036854775808 ≤ loS ⟨st[p].f0, st[p].f1⟩ (w : Int) - (i : Int) ∧ loS ⟨st[p].f0, st[p].f1⟩ (w : Int) - (i : Int) ≤ 9223372036854775807 by omega), wr (show -9223372036854775808 ≤ s.lo + max 0 (loS ⟨st[p].f0, st[p].f1⟩ (w : Int) - (i : Int)) ∧ s.lo + max 0 (loS ⟨st[p].f0, st[p].f1⟩ (w : Int) - (i : Int)) ≤ 9223372036854775807 by omega)]
    cases cur with
    | none =>
     simp only [mo] at ih; simp only [if_pos (show (-1 : Int) < 0 by omega)]; exact ih
    | some a =>
     have ha := hcb a rfl
     unfold bdS at ha
     simp only [mo] at ih; simp only [if_neg (show ¬ a.lo < 0 by omega)]
     by_cases c : s.lo + max 0 (loS ⟨st[p].f0, st[p].f1⟩ (w : Int) - (i : Int)) < a.lo
     ·rw [show min a.lo (s.lo + max 0 (loS ⟨st[p].f0, st[p].f1⟩ (w : Int) - (i : Int))) = s.lo + max 0 (loS ⟨st[p].f0, st[p].f1⟩ (w : Int) - (i : Int)) by omega] at ih
      simp only [if_pos c]; exact ih
     ·rw [show min a.lo (s.lo + max 0 (loS ⟨st[p].f0, st[p].f1⟩ (w : Int) - (i : Int))) = a.lo by omega] at ih
      simp only [if_neg c]; exact ih
   ·simp only [enc, if_true] at ih ⊢
    simp only [if_neg (show ¬ s.hi < 0 by omega), wr (show -9223372036854775808 ≤ s.hi + hiS ⟨st[p].f0, st[p].f1⟩ (w : Int) ∧ s.hi + hiS ⟨st[p].f0, st[p].f1⟩ (w : Int) ≤ 9223372036854775807 by omega), wr (show -9223372036854775808 ≤ s.hi + hiS ⟨st[p].f0, st[p].f1⟩ (w : Int) - (i : Int) ∧ s.hi + hiS ⟨st[p].f0, st[p].f1⟩ (w : Int) - (i : Int) ≤ 9223372036854775807 by omega)]
    have en : s.hi + (hiS ⟨st[p].f0, st[p].f1⟩ (w : Int) - (i : Int)) = s.hi + hiS ⟨st[p].f0, st[p].f1⟩ (w : Int) - (i : Int) := by omega
    rw [en] at ih
    cases cur with
    | none =>
     simp only [mo] at ih; simp only [decide_eq_true (show s.hi + hiS ⟨st[p].f0, st[p].f1⟩ (w : Int) - (i : Int) > -1 by omega)]; refine Ev.up ?_; simp only [rf_Totals.j3, if_true, if_pos (show (0 : Int) ≤ (p : Int) by omega), if_pos (show (p : Int) < (st.length : Int) by omega), rdA st p hp, e1, Option.bind_some, if_pos (show (0 : Int) ≤ (i : Int) by omega), tbI_len, if_pos (show (i : Int) < ((401 : Nat) : Int) by omega), tbI_get _ i hi4, wi i (by omega), if_pos (show (0 : Int) ≤ (w : Int) by omega), if_pos (show (w : Int) < ((401 : Nat) : Int) by omega), tbI_get _ w hw, upI_at, tbI_set, upI_up]; exact ih
    | some a =>
     have ha := hcb a rfl
     unfold bdS at ha
     simp only [mo] at ih
     by_cases c : s.hi + hiS ⟨st[p].f0, st[p].f1⟩ (w : Int) - (i : Int) > a.hi
     ·rw [show max a.hi (s.hi + hiS ⟨st[p].f0, st[p].f1⟩ (w : Int) - (i : Int)) = s.hi + hiS ⟨st[p].f0, st[p].f1⟩ (w : Int) - (i : Int) by omega] at ih
      simp only [decide_eq_true c]; refine Ev.up ?_; simp only [rf_Totals.j3, if_true, if_pos (show (0 : Int) ≤ (p : Int) by omega), if_pos (show (p : Int) < (st.length : Int) by omega), rdA st p hp, e1, Option.bind_some, if_pos (show (0 : Int) ≤ (i : Int) by omega), tbI_len, if_pos (show (i : Int) < ((401 : Nat) : Int) by omega), tbI_get _ i hi4, wi i (by omega), if_pos (show (0 : Int) ≤ (w : Int) by omega), if_pos (show (w : Int) < ((401 : Nat) : Int) by omega), tbI_get _ w hw, upI_at, tbI_set, upI_up]; exact ih
     ·rw [show max a.hi (s.hi + hiS ⟨st[p].f0, st[p].f1⟩ (w : Int) - (i : Int)) = a.hi by omega] at ih
      simp only [decide_eq_false c]; refine Ev.up ?_; simp only [rf_Totals.j3, Bool.false_eq_true, if_false, if_true, if_pos (show (0 : Int) ≤ (p : Int) by omega), if_pos (show (p : Int) < (st.length : Int) by omega), rdA st p hp, e1, Option.bind_some, if_pos (show (0 : Int) ≤ (i : Int) by omega), tbI_len, if_pos (show (i : Int) < ((401 : Nat) : Int) by omega), tbI_get _ i hi4, wi i (by omega), if_pos (show (0 : Int) ≤ (w : Int) by omega), if_pos (show (w : Int) < ((401 : Nat) : Int) by omega), tbI_get _ w hw, upI_at, tbI_set, upI_up]; exact ih
def toG (most : Bool) (d p : Nat) : Nat → Int := fun w => enc most (bwN (toSt st) (toWg wg) d p w)
def nxL (p : Nat) : List Int := if p = st.length then [] else tbI (toG st wg most (st.length - (p + 1)) (p + 1))
theorem Totals_l1 (hok : RdOk (toSt st) (toWg wg)) (hl : wg.length ≤ 1000) (h5 : st.length ≤ 200) (p : Nat) (hp : p ≤ st.length)
  (h : Ev (fun k => rf_Totals.l0 k most (tbI (toG st wg most (st.length - p) p)) (wrap64 ((p : Int) - 1)) st wg) r) :
  ∀ (d w : Nat), w + d = 401 → Ev (fun k => rf_Totals.l1 k most (nxL st wg most p) (p : Int) (tbI fun j => if j < w then toG st wg most (st.length - p) p j else 0) (w : Int) st wg) r
 | 0, w, hd => by
  obtain rfl : w = 401 := by omega
  refine Ev.up ?_; simp only [rf_Totals.l1, if_neg (show ¬ ((401 : Nat) : Int) ≤ 400 by omega)]; rw [tbI_congr (h := toG st wg most (st.length - p) p) (fun j hj => by rw [if_pos (by omega)])]; exact h
 | d + 1, w, hd => by
  have hlen := hok.len; rw [toSt_len] at hlen; have ih := Totals_l1 hok hl h5 p hp h d (w + 1) (by omega)
  have hup : ∀ x, toG st wg most (st.length - p) p w = x → tbI (upI (fun j => if j < w then toG st wg most (st.length - p) p j else 0) w x) = tbI fun j => if j < w + 1 then toG st wg most (st.length - p) p j else 0 := by
   intro x hx
   refine tbI_congr fun j hj => ?_
   unfold upI
   by_cases e : j = w
   ·subst e
    rw [if_pos rfl, if_pos (by omega), hx]
   ·rw [if_neg e]
    by_cases e2 : j < w
    ·simp only [if_pos e2, if_pos (show j < w + 1 by omega)]
    ·simp only [if_neg e2, if_neg (show ¬ j < w + 1 by omega)]
  refine Ev.up ?_; simp only [rf_Totals.l1, if_pos (show (w : Int) ≤ 400 by omega), if_pos (show (0 : Int) ≤ (w : Int) by omega), tbI_len, if_pos (show (w : Int) < ((401 : Nat) : Int) by omega), Option.bind_some, tbI_set]; refine Ev.bind (Fits_f st wg hok.wgs hl (p : Int) (w : Int)) ?_
  cases hf : fitB (toWg wg) (p : Int) (w : Int)
  ·have e0 : toG st wg most (st.length - p) p w = -1 := by
    unfold toG
    rw [bwN_fit hf]; rfl
   simp only [Bool.false_eq_true, if_false, wi w (by omega)]; rw [hup _ e0]; exact ih
  ·simp only [if_true]
   by_cases hpn : p = st.length
   ·have e0 : toG st wg most (st.length - p) p w = 0 := by
     unfold toG
     rw [hpn, Nat.sub_self, bwN, ← hpn, if_pos hf]
     cases most <;> rfl
    simp only [if_pos (show (p : Int) = (st.length : Int) by omega), tbI_set, upI_up, wi w (by omega)]; rw [hup _ e0]; exact ih
   ·have hp' : p < st.length := by omega
    simp only [if_neg (show ¬ (p : Int) = (st.length : Int) by omega)]
    have hn : nxL st wg most p = tbI fun v => enc most (bwN (toSt st) (toWg wg) (st.length - (p + 1)) (p + 1) v) := by
     unfold nxL
     rw [if_neg hpn]; rfl
    have hN : ∀ v, v ≤ 400 → ∀ s, bwN (toSt st) (toWg wg) (st.length - (p + 1)) (p + 1) v = some s → bdS 0 100000 s := by
     intro v hv s hs; have := (bwN_ok hok (st.length - (p + 1)) (p + 1) v (by rw [toSt_len]; omega) hv s hs).1
     unfold bdS at *
     omega
    have e0 : toG st wg most (st.length - p) p w = enc most (fo (fun v => sh (rdS (toSt st) (p : Int)) (w : Int) (v : Int) (bwN (toSt st) (toWg wg) (st.length - (p + 1)) (p + 1) v)) (hiS (rdS (toSt st) (p : Int)) (w : Int) + 1).toNat) := by
     unfold toG
     rw [show st.length - p = (st.length - (p + 1)) + 1 by omega, bwN, if_pos hf]
    have h2 := Totals_l2 st wg most r hok p hp' w (by omega) _ hN (fun j => if j < w then toG st wg most (st.length - p) p j else 0) (by
     rw [hup _ e0, ← hn]
     exact ih) _ 0 (Nat.zero_add _)
    rw [hn]; exact h2
theorem Totals_l0 (hok : RdOk (toSt st) (toWg wg)) (hl : wg.length ≤ 1000) (h5 : st.length ≤ 200) : ∀ (p : Nat), p ≤ st.length → Ev (fun k => rf_Totals.l0 k most (nxL st wg most p) (p : Int) st wg) (tbI (toG st wg most st.length 0))
 | p, hp => by
  have hrep : (List.replicate 401 (0 : Int)) = tbI fun j => if j < 0 then toG st wg most (st.length - p) p j else 0 := by
   rw [tbI_congr (h := fun _ => 0) (fun j _ => by simp)]
   unfold tbI
   rw [List.map_const', List.length_range]
  refine Ev.up ?_; simp only [rf_Totals.l0, if_pos (show (p : Int) ≥ 0 by omega), if_pos (show (401 : Nat) ≤ 35184372088832 by omega)]; rw [hrep]; refine Totals_l1 st wg most _ hok hl h5 p hp ?_ 401 0 (by omega); rw [wr (by omega)]
  match p, hp with
  | 0, hp =>
   refine Ev.up ?_; simp only [rf_Totals.l0, if_neg (show ¬ ((0 : Nat) : Int) - 1 ≥ 0 by omega), Nat.sub_zero]; exact Ev.now _
  | q + 1, hp =>
   have ih := Totals_l0 hok hl h5 q (by omega); rw [show ((q + 1 : Nat) : Int) - 1 = (q : Int) by omega]
   have e : nxL st wg most q = tbI (toG st wg most (st.length - (q + 1)) (q + 1)) := by
    unfold nxL
    rw [if_neg (by omega)]
   rw [← e]; exact ih
theorem Totals_f (hok : RdOk (toSt st) (toWg wg)) (hl : wg.length ≤ 1000) (h5 : st.length ≤ 200) : Ev (fun k => rf_Totals.f k st wg most) (tbI (toG st wg most st.length 0)) := by
 have h := Totals_l0 st wg most hok hl h5 st.length (Nat.le_refl _)
 have e : nxL st wg most st.length = [] := by unfold nxL; rw [if_pos rfl]
 rw [e] at h; exact h
end
def encS : Option Sp → Sp
 | none => ⟨-1, -1⟩
 | some s => s
theorem Missing_l0 (B : Nat → Option Sp) (hB : ∀ w, w ≤ 400 → ∀ s, B w = some s → bdS 0 100000 s) : ∀ (d i : Nat) (lo hi : Int), i + d = 401 → encS (fo B i) = ⟨lo, hi⟩ → Ev (fun k => rf_Missing.l0 k (tbI fun w => enc false (B w)) (tbI fun w => enc true (B w)) (i : Int) lo hi) ((encS (fo B 401)).lo, (encS (fo B 401)).hi)
 | 0, i, lo, hi, hd, hs => by
  obtain rfl : i = 401 := by omega
  refine Ev.up ?_; simp only [rf_Missing.l0, if_neg (show ¬ ((401 : Nat) : Int) ≤ 400 by omega), hs]; exact Ev.now _
 | d + 1, i, lo, hi, hd, hs => by
  have ih := Missing_l0 B hB d (i + 1); rw [fo_succ] at ih
  have hcb : ∀ a, fo B i = some a → bdS 0 100000 a := fo_bd fun j hj s hs => hB j (by omega) s hs
  generalize fo B i = cur at *
  refine Ev.up ?_; simp only [rf_Missing.l0, if_pos (show (i : Int) ≤ 400 by omega), if_pos (show (0 : Int) ≤ (i : Int) by omega), tbI_len, if_pos (show (i : Int) < ((401 : Nat) : Int) by omega), tbI_get _ i (show i ≤ 400 by omega), wi i (by omega), mx_max2]
  cases hb : B i with
  | none =>
   rw [hb, mo_none] at ih; simp only [enc, if_neg (show ¬ (-1 : Int) ≥ 0 by omega)]
   have e : max hi (-1) = hi := by
    cases cur with
    | none =>
     simp only [encS, Sp.mk.injEq] at hs; omega
    | some a =>
     have := hcb a rfl
     unfold bdS at this
     simp only [encS] at hs; subst hs; simp only at this; omega
   rw [e]; exact ih lo hi (by omega) hs
  | some s =>
   have hsb := hB i (by omega) s hb
   unfold bdS at hsb
   rw [hb] at ih; simp only [enc, Bool.false_eq_true, if_false, if_true, if_pos (show s.lo ≥ 0 by omega)]
   cases cur with
   | none =>
    simp only [encS, Sp.mk.injEq] at hs; obtain ⟨rfl, rfl⟩ := hs; simp only [if_pos (show (-1 : Int) < 0 by omega)]; rw [show max (-1) s.hi = s.hi by omega]; exact ih s.lo s.hi (by omega) rfl
   | some a =>
    have ha := hcb a rfl
    unfold bdS at ha
    simp only [encS] at hs; subst hs; simp only at ha; simp only [if_neg (show ¬ lo < 0 by omega)]
    by_cases c : s.lo < lo
    ·simp only [if_pos c]
     refine ih s.lo (max hi s.hi) (by omega) ?_
     show (⟨min lo s.lo, max hi s.hi⟩ : Sp) = ⟨s.lo, max hi s.hi⟩
     rw [show min lo s.lo = s.lo by omega]
    ·simp only [if_neg c]
     refine ih lo (max hi s.hi) (by omega) ?_
     show (⟨min lo s.lo, max hi s.hi⟩ : Sp) = ⟨lo, max hi s.hi⟩
     rw [show min lo s.lo = lo by omega]
section
variable (st : List S41) (wg : List S80)
theorem msAll_ok (hok : RdOk (toSt st) (toWg wg)) (h5 : st.length ≤ 200) (s : Sp) (h : msAll (toSt st) (toWg wg) = some s) : bdS 0 100000 s ∧ s.lo ≤ 400 := by
 rw [← bw_eq hok] at h; rw [toSt_len] at h
 have key : ∀ j, j < 401 → ∀ s, bwN (toSt st) (toWg wg) st.length 0 j = some s → bdS 0 100000 s ∧ s.lo ≤ 400 := by
  intro j hj s hs; have := bwN_ok hok st.length 0 j (by rw [toSt_len]; omega) (by omega) s hs
  unfold bdS at *
  omega
 exact ⟨fo_bd (fun j hj s hs => (key j hj s hs).1) s h, fo_lo (fun j hj s hs => (key j hj s hs).2) s h⟩
theorem Missing_f (hok : RdOk (toSt st) (toWg wg)) (hl : wg.length ≤ 1000) (h5 : st.length ≤ 200) : Ev (fun k => rf_Missing.f k st wg) ((encS (msAll (toSt st) (toWg wg))).lo, (encS (msAll (toSt st) (toWg wg))).hi) := by
 unfold rf_Missing.f
 refine Ev.bind (Totals_f st wg false hok hl h5) ?_; refine Ev.bind (Totals_f st wg true hok hl h5) ?_
 have h := Missing_l0 (fun w => bwN (toSt st) (toWg wg) st.length 0 w) (fun w hw s hs => by
  have := (bwN_ok hok st.length 0 w (by rw [toSt_len]; omega) hw s hs).1
  unfold bdS at *
  omega) 401 0 (-1) (-1) (by omega) rfl
 have e := bw_eq hok; rw [toSt_len] at e; rw [e] at h; exact h
theorem WoolMisses_ev : Ev (fun k => lw_WoolMisses.f k st wg) true := by
 unfold lw_WoolMisses.f
 simp only [long_f, Option.bind_some]
 by_cases hlong : (st.length : Int) > 10 ∨ (wg.length : Int) > 12
 ·simp only [hlong, decide_true, if_true, known_f, Option.bind_some]
  exact Ev.now _
 ·simp only [hlong, decide_false, Bool.false_eq_true, if_false]
  simp only [Copy_f st wg (by omega) (by omega), Option.bind_some, wool_Missing.f]; refine Ev.bind (Same_f st wg (by omega) (by omega)) ?_; simp only [if_true]; refine Ev.bind (Check_f st wg (by omega) (by omega)) ?_
  have bad : ∀ (e a b : Int), ¬ e = 0 → msE (toSt st) (toWg wg) = e → Ev (fun k => lw_WoolMisses.j0 k (msE (toSt st) (toWg wg)) e (msS (toSt st) (toWg wg)).lo (msS (toSt st) (toWg wg)).hi a b) true := by
   intro e a b he h1
   have h2 : msS (toSt st) (toWg wg) = ⟨0, 0⟩ := by rw [msS, h1, if_neg he]
   refine Ev.up ?_; simp only [lw_WoolMisses.j0, if_neg he, h1, h2, if_true, beq_self_eq_true, Bool.and_self, known_f, Option.bind_some]; exact Ev.now _
  by_cases he : roadE (toSt st) (toWg wg) = 0
  ·have hok := (road_ok he).1
   simp only [he, if_true]; have hM := Missing_f st wg hok (by omega) (by omega)
   cases hm : msAll (toSt st) (toWg wg) with
   | none =>
    rw [hm] at hM; have hM' : Ev (fun k => rf_Missing.f k st wg) ((-1 : Int), (-1 : Int)) := hM; refine Ev.bind hM' ?_; simp only [if_pos (show (-1 : Int) < 0 by omega)]; exact bad 9 _ _ (by omega) (by simp [msE, he, hm])
   | some s =>
    have hb := msAll_ok st wg hok (by omega) s hm
    unfold bdS at hb
    have h1 : msE (toSt st) (toWg wg) = 0 := by simp [msE, he, hm]
    have h2 : msS (toSt st) (toWg wg) = s := by
     rw [msS, h1, hm]; simp only [if_true, totS]; rw [show min 400 s.lo = s.lo by omega, show max 0 s.hi = s.hi by omega]
    rw [hm] at hM; have hM' : Ev (fun k => rf_Missing.f k st wg) (s.lo, s.hi) := hM; refine Ev.bind hM' ?_; simp only [if_neg (show ¬ s.lo < 0 by omega)]; refine Ev.up ?_; simp only [lw_WoolMisses.j0, h1, h2, if_true, beq_self_eq_true, Bool.and_self, known_f, Option.bind_some]; exact Ev.now _
  ·simp only [if_neg he]
   exact bad _ _ _ he (by simp [msE, he])
end
theorem WoolMisses_pure (l0_0 : List (S41)) (l0_1 : List (S80)) : ∃ k, lw_WoolMisses.f k l0_0 l0_1 = some true := (WoolMisses_ev l0_0 l0_1).rounds
end Go.Proofs.YtemingmeidmjkaaDoor.Q
namespace Go.Proofs.YtemingmeidmjkaaDoor
open Go.RowKit Go.ChangeShapes Go.Shelf Go.Proofs.YtemingmeidmjkaaDoorW.PrintWords
set_option linter.unusedVariables false
set_option maxRecDepth 100000
theorem glNamed : Tryd.prog.globalNamed "walkmill/wool.all" = some 0 := by kernel_rfl
theorem glType : (Tryd.prog.globals[0]?).map (·.type) = some 100 := by kernel_rfl
theorem cells3 : Tryd.prog.cellsOf 3 = 1 := by kernel_rfl
theorem cellsSome : Tryd.prog.cellsOf 100 = 2 := by kernel_rfl
theorem gl_of_laid {W : World} (h : laidMetH Tryd.prog [("walkmill/wool.all", Rows.laid_walkmill_wool_all)] W) : GL W := by
 have h' : laidMet Tryd.prog [("walkmill/wool.all", Rows.laid_walkmill_wool_all)] W := h; clear h; have h := h'; obtain ⟨ps, ⟨g, t, cs, fuel, p, q, e1, e2, e3, e4, _, _⟩, _⟩ := h; obtain rfl := Option.some.inj (glNamed.symm.trans e1); obtain rfl := Option.some.inj (glType.symm.trans e2); obtain ⟨xs, n, _, hx, hl, hlen, hf⟩ := DataW.trod_struct Tryd.underlying100 e4
 have hcell := fun i => World.var?_cell glNamed e3 i
 have hl2 : cs.toList.length = 2 := by rw [hl]; exact cellsSome
 match xs, hlen with
 | [y0, y1], _ =>
  have f0 := hf 0 _ rfl; have f1 := hf 1 _ rfl; simp only [List.getElem?_cons_zero, List.getElem?_cons_succ] at f0 f1; obtain ⟨a, ha, rfl, _⟩ := DataW.trod_int Tryd.underlying3 f0; obtain ⟨b, hb, rfl, _⟩ := DataW.trod_int Tryd.underlying3 f1; simp only [List.map_cons, List.map_nil, Rows.laid_walkmill_wool_all, Prod.mk.injEq, DataW.agg.injEq, List.cons.injEq, DataW.lit.injEq, Lit.int.injEq, true_and, and_true] at hx; obtain ⟨⟨rfl, rfl⟩, _⟩ := hx
  have hcs : cs = #[.int .i64 0, .int .i64 400] := by
   apply Array.toList_inj.1
   match hc : cs.toList, hl2 with
   | [u, v], _ =>
    rw [hc] at ha hb
    simp [cells3] at ha hb
    rw [ha, hb]
  refine ⟨rfl, by decide, fun _ => ⟨_, rfl, fun j x hj => ?_⟩⟩
  match j, hj with
  | 0, hj =>
   simp only [List.getElem?_cons_zero, Option.some.injEq] at hj; subst hj; refine ⟨[.int .i64 0, .int .i64 400], rfl, kSp_mk _ ⟨0, 400⟩, fun i u hi => ?_⟩; have h9 := hcell i; rw [hcs] at h9; rw [add_plain]; simp only [Nat.zero_mul, Nat.zero_add] at *; rw [h9]
   simpa using hi
def lay0 (w : World) : World := { w with heap := w.heap.modify 0 fun o => match o with
  | .cells _ t frozen => .cells #[.int .i64 0, .int .i64 400] t frozen
  | o => o }
theorem lay0_met (os : Os) (args : Array Value) : laidMetH Tryd.prog [("walkmill/wool.all", Rows.laid_walkmill_wool_all)] ((lay0 (World.holding Tryd.prog os ⟨#[], #[], []⟩)).forCall (fun _ _ => 0) ⟨#[], args, []⟩).memory := by
 show laidMet Tryd.prog [("walkmill/wool.all", Rows.laid_walkmill_wool_all)] _
 exact laidMet_of_run' 8 sqF sqF
end Go.Proofs.YtemingmeidmjkaaDoor
