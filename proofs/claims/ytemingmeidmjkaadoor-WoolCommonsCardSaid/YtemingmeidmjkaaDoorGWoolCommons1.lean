/- Functions printed by the kit's printer over these walks, and the plain law. No condition. -/
import Derived.Test.YtemingmeidmjkaaDoorU0
import Derived.Test.YtemingmeidmjkaaDoorGWoolCommons0
import Derived.Test.YtemingmeidmjkaaDoorU3
import Derived.Test.YtemingmeidmjkaaDoorU2
import Derived.WalkKit
import Derived.ProofKit
import Derived.OpenShut
import Derived.ShutString
import Derived.ChangeOld
import Derived.Below
import Derived.SizedLaws
import Derived.ChangeArms
import Derived.WideShapes
import Derived.Carry
import Derived.Test.YtemingmeidmjkaaDoorU1
import Derived.Test.YtemingmeidmjkaaDoorRows
import Derived.LaidLaws
import Derived.LaidHandle
import Derived.Handed
import Derived.ChangeSame
set_option linter.unusedVariables false
set_option linter.unusedSimpArgs false
namespace Go.Proofs.YtemingmeidmjkaaDoor.Q
open Go.RowKit Go.Proofs.YtemingmeidmjkaaDoorW.PrintWords Go.Proofs.YtemingmeidmjkaaDoorW.PrintLast Go.Proofs.YtemingmeidmjkaaDoorW.PrintMore
attribute [local go_sem] max2_int min2_int max_two min_two max_three min_three max_four min_four   -- for this text's walks alone
set_option linter.unusedVariables false
set_option linter.unusedSimpArgs false
mutual
def rf_Check.l0 : Nat → Int → List (S41) → List (S80) → Option (Int)
 | 0, _, _, _ => none
 | k + 1, x3, x166000, x166001 => if x3 < (x166000.length : Int) then (if 0 ≤ x3 then ((rf_In.f ((rd_T41 x166000 x3).f0) 0 ((rd_T41 x166000 x3).f1)).bind fun t169 => (if t169 = true then (if ((rd_T41 x166000 x3).f1) > 300 then (some 4) else (rf_Check.l0 k (wrap64 (x3 + 1)) x166000 x166001)) else (some 4))) else (none)) else (if (x166001.length : Int) > 8 then (some 5) else (rf_Check.l1 k 0 x166000 x166001))
def rf_Check.l1 : Nat → Int → List (S41) → List (S80) → Option (Int)
 | 0, _, _, _ => none
 | k + 1, x4, x166000, x166001 => if x4 < (x166001.length : Int) then (if 0 ≤ x4 then ((rf_In.f ((rd_T80 x166001 x4).f0) 0 (x166000.length : Int)).bind fun t173 => (if t173 = true then ((rf_In.f ((rd_T80 x166001 x4).f1) 0 400).bind fun t174 => (if t174 = true then ((rf_In.f ((rd_T80 x166001 x4).f2) 0 20).bind fun t175 => (if t175 = true then (rf_Check.l1 k (wrap64 (x4 + 1)) x166000 x166001) else (some 2))) else (some 2))) else (some 2))) else (none)) else (some 0)
end
def rf_Check.f (k : Nat) (l0_0 : List (S41)) (l0_1 : List (S80)) : Option (Int) := (rf_In.f (l0_0.length : Int) 1 5).bind fun t166 => (if t166 = true then (rf_Check.l0 k 0 l0_0 l0_1) else (some 4))
set_option maxHeartbeats 8000000 in
set_option maxRecDepth 100000 in
theorem rf_Check.calls (k : Nat) (A0_0 : Option Addr) (c0_0 : Nat) (l0_0 : List (S41)) (A0_1 : Option Addr) (c0_1 : Nat) (l0_1 : List (S80)) (r : Int) (w : World) (hr0_0 : Kd.C k41 w A0_0 l0_0.length l0_0) (hc0_0 : l0_0.length ≤ c0_0) (hr0_1 : Kd.C k80 w A0_1 l0_1.length l0_1) (hc0_1 : l0_1.length ≤ c0_1) (h : rf_Check.f k l0_0 l0_1 = some r) :
  Calls Tryd.prog 22 #[.agg #[.slice A0_0 l0_0.length c0_0, .slice A0_1 l0_1.length c0_1]] w fun e w' => e = .returned (.int .i64 r) ∧ Below w.heap.size w w' := by
 have hu25 := Tryd.underlying25; have hu80 := Tryd.underlying80; have HR0_0 := Aside0.mk hr0_0; have HC0_0 := Aside0.mk hc0_0; clear hr0_0 hc0_0; have HR0_1 := Aside0.mk hr0_1; have HC0_1 := Aside0.mk hc0_1; clear hr0_1 hc0_1; have HB := Aside0.mk (Below.refl w.heap.size w); have H : ((rf_In.f (l0_0.length : Int) 1 5).bind fun t166 => (if t166 = true then (rf_Check.l0 k 0 l0_0 l0_1) else (some 4))) = some r := h; clear h; obtain ⟨t166, A20, H⟩ := Option.bind_eq_some_iff.mp H; have A2 := Aside0.mk A20; clear A20
 by_cases c3 : t166 = true
 ·subst c3
  rw [if_pos rfl] at H; have H' := Aside0.mk H; clear H; go_enter Tryd.func22, Tryd.ntmps22
  go_wp2_with (first | ((with_reducible refine gate_dst (N := 1) rfl ?_); refine box_event ?hg (N := 1) ?hd (cs := #[.slice A0_0 l0_0.length c0_0, .slice A0_1 l0_1.length c0_1]) (t := 25) ?hr ?_; (case hd => rfl); (case hg => rfl); (case hr => first | (go_simp; done) | (go_simp; rfl)); intro gb165 hg w4 hbox hb; have n0_ := Aside0.mk (below_step sqB hb); have n1_ := Aside0.mk (hbox); have n2_ := Aside0.mk ((sqZ hg)); have n3_ := Aside0.mk ((sqZ hg)); clear HB; have HB := n0_; have BK165 := n1_; have GW165 := n2_; have GE165 := n3_; clear n0_ n1_ n2_ n3_; clear hb hbox hg; have hcz5_0 := sqc0 BK165; have hcz5_1 := sqc1 BK165; have hfz5_0 := blk_frozen BK165.out 0; have hfz5_1 := blk_frozen BK165.out 1) | (go_at_call 35; (with_reducible refine (rf_In.calls (l0_0.length : Int) 1 5 true _ A2.out).mono ?_); rintro e w' ⟨rfl, ⟨nd, rfl⟩⟩; (try first | exact ⟨rfl, _, World.drewN_drewN _ _ _⟩ | exact ⟨rfl, _, Eq.trans (World.drewN_drewN _ _ _) (congrArg (World.drewN _) (Nat.add_assoc _ _ _))⟩)))
  repeat (go_quiet (first | ((with_reducible refine gate_dst (N := 1) rfl ?_); refine box_event ?hg (N := 1) ?hd (cs := #[.slice A0_0 l0_0.length c0_0, .slice A0_1 l0_1.length c0_1]) (t := 25) ?hr ?_; (case hd => rfl); (case hg => rfl); (case hr => first | (go_simp; done) | (go_simp; rfl)); intro gb165 hg w4 hbox hb; have n0_ := Aside0.mk (below_step sqB hb); have n1_ := Aside0.mk (hbox); have n2_ := Aside0.mk ((sqZ hg)); have n3_ := Aside0.mk ((sqZ hg)); clear HB; have HB := n0_; have BK165 := n1_; have GW165 := n2_; have GE165 := n3_; clear n0_ n1_ n2_ n3_; clear hb hbox hg; have hcz5_0 := sqc0 BK165; have hcz5_1 := sqc1 BK165; have hfz5_0 := blk_frozen BK165.out 0; have hfz5_1 := blk_frozen BK165.out 1) | (go_at_call 35; (with_reducible refine (rf_In.calls (l0_0.length : Int) 1 5 true _ A2.out).mono ?_); rintro e w' ⟨rfl, ⟨nd, rfl⟩⟩; (try first | exact ⟨rfl, _, World.drewN_drewN _ _ _⟩ | exact ⟨rfl, _, Eq.trans (World.drewN_drewN _ _ _) (congrArg (World.drewN _) (Nat.add_assoc _ _ _))⟩))); try go_wp2_with (first | ((with_reducible refine gate_dst (N := 1) rfl ?_); refine box_event ?hg (N := 1) ?hd (cs := #[.slice A0_0 l0_0.length c0_0, .slice A0_1 l0_1.length c0_1]) (t := 25) ?hr ?_; (case hd => rfl); (case hg => rfl); (case hr => first | (go_simp; done) | (go_simp; rfl)); intro gb165 hg w4 hbox hb; have n0_ := Aside0.mk (below_step sqB hb); have n1_ := Aside0.mk (hbox); have n2_ := Aside0.mk ((sqZ hg)); have n3_ := Aside0.mk ((sqZ hg)); clear HB; have HB := n0_; have BK165 := n1_; have GW165 := n2_; have GE165 := n3_; clear n0_ n1_ n2_ n3_; clear hb hbox hg; have hcz5_0 := sqc0 BK165; have hcz5_1 := sqc1 BK165; have hfz5_0 := blk_frozen BK165.out 0; have hfz5_1 := blk_frozen BK165.out 1) | (go_at_call 35; (with_reducible refine (rf_In.calls (l0_0.length : Int) 1 5 true _ A2.out).mono ?_); rintro e w' ⟨rfl, ⟨nd, rfl⟩⟩; (try first | exact ⟨rfl, _, World.drewN_drewN _ _ _⟩ | exact ⟨rfl, _, Eq.trans (World.drewN_drewN _ _ _) (congrArg (World.drewN _) (Nat.add_assoc _ _ _))⟩))))
  go_loopg [3] k (fun kq v3 w' => ∃ (x3_1 : Int), v3 = .int .i64 x3_1 ∧ Aside0 (rf_Check.l0 kq x3_1 l0_0 l0_1 = some r) ∧ Aside0 (kq ≤ k) ∧ Aside0 (w'.heap[gb165]? = some (.cells #[(.slice A0_0 l0_0.length c0_0), (.slice A0_1 l0_1.length c0_1)] 25 (0, 0))) ∧ Aside0 (Below w.heap.size w w'))
  case atStart => exact ⟨(0), sqE, H', ⟨Nat.le_refl _⟩, ⟨sqK BK165⟩, ⟨sqB⟩⟩
  case round =>
   clear H'; try clear c3
   (try clear hcz5_0); (try clear hcz5_1); (try clear hfz5_0); (try clear hfz5_1); obtain ⟨x3_1, rfl, HA, HK1, BK165, HB⟩ := hrel
   cases gk with
   | zero => exact absurd HA.out (by simp [rf_Check.l0])
   | succ k1 =>
    have H := HA.out; clear HA; simp only [rf_Check.l0] at H
    by_cases c6 : x3_1 < (l0_0.length : Int)
    ·rw [if_pos c6] at H
     have c6b0 : decide (x3_1 < (l0_0.length : Int)) = true := decide_eq_true c6; clear c6
     by_cases c7 : 0 ≤ x3_1
     ·rw [if_pos c7] at H
      have c7b0 : decide (0 ≤ x3_1) = true := decide_eq_true c7; clear c7; obtain ⟨t169, A80, H⟩ := Option.bind_eq_some_iff.mp H; have A8 := Aside0.mk A80; clear A80
      by_cases c9 : t169 = true
      ·subst c9
       rw [if_pos rfl] at H
       by_cases c10 : ((rd_T41 l0_0 x3_1).f1) > 300
       ·rw [if_pos c10] at H
        have c10b0 : decide (300 < ((rd_T41 l0_0 x3_1).f1)) = true := decide_eq_true c10; clear c10; obtain rfl := Option.some.inj H; have hcz11_0 := sqc0 BK165; have hcz11_1 := sqc1 BK165; have hfz11_0 := blk_frozen BK165.out 0; have hfz11_1 := blk_frozen BK165.out 1; have p167 : 0 ≤ (x3_1 : Int) := sqD; have q167 : x3_1 < (l0_0.length : Int) := sqD; obtain ⟨ad167, e167, hx167_0, hx167_1⟩ := at_T41 HR0_0.out x3_1 p167 q167
        cases e167
        replace hx167_0 := (HB.out.cell (World.block_lt_of_cell? w _ hx167_0)).trans hx167_0; replace hx167_1 := (HB.out.cell (World.block_lt_of_cell? w _ hx167_1)).trans hx167_1; replace p167 := eq_true p167; replace q167 := eq_true q167; have p168 : 0 ≤ (x3_1 : Int) := sqD; have q168 : x3_1 < (l0_0.length : Int) := sqD; obtain ⟨ad168, e168, hx168_0, hx168_1⟩ := at_T41 HR0_0.out x3_1 p168 q168; obtain rfl : ad167 = ad168 := (by injection e168); replace hx168_0 := (HB.out.cell (World.block_lt_of_cell? w _ hx168_0)).trans hx168_0; replace hx168_1 := (HB.out.cell (World.block_lt_of_cell? w _ hx168_1)).trans hx168_1; replace p168 := eq_true p168; replace q168 := eq_true q168
        go_wp2_with (first | (go_at_call 35; (with_reducible refine (rf_In.calls ((rd_T41 l0_0 x3_1).f0) 0 ((rd_T41 l0_0 x3_1).f1) true _ A8.out).mono ?_); rintro e w' ⟨rfl, ⟨nd, rfl⟩⟩; (try first | exact ⟨rfl, _, World.drewN_drewN _ _ _⟩ | exact ⟨rfl, _, Eq.trans (World.drewN_drewN _ _ _) (congrArg (World.drewN _) (Nat.add_assoc _ _ _))⟩); have p170 : 0 ≤ (x3_1 : Int) := sqD; have q170 : x3_1 < (l0_0.length : Int) := sqD; obtain ⟨ad170, e170, hx170_0, hx170_1⟩ := at_T41 HR0_0.out x3_1 p170 q170; obtain rfl : ad167 = ad170 := (by injection e170); replace hx170_0 := (HB.out.cell (World.block_lt_of_cell? w _ hx170_0)).trans hx170_0; replace hx170_1 := (HB.out.cell (World.block_lt_of_cell? w _ hx170_1)).trans hx170_1; replace p170 := eq_true p170; replace q170 := eq_true q170))
        repeat (go_quiet (first | (go_at_call 35; (with_reducible refine (rf_In.calls ((rd_T41 l0_0 x3_1).f0) 0 ((rd_T41 l0_0 x3_1).f1) true _ A8.out).mono ?_); rintro e w' ⟨rfl, ⟨nd, rfl⟩⟩; (try first | exact ⟨rfl, _, World.drewN_drewN _ _ _⟩ | exact ⟨rfl, _, Eq.trans (World.drewN_drewN _ _ _) (congrArg (World.drewN _) (Nat.add_assoc _ _ _))⟩); have p170 : 0 ≤ (x3_1 : Int) := sqD; have q170 : x3_1 < (l0_0.length : Int) := sqD; obtain ⟨ad170, e170, hx170_0, hx170_1⟩ := at_T41 HR0_0.out x3_1 p170 q170; obtain rfl : ad167 = ad170 := (by injection e170); replace hx170_0 := (HB.out.cell (World.block_lt_of_cell? w _ hx170_0)).trans hx170_0; replace hx170_1 := (HB.out.cell (World.block_lt_of_cell? w _ hx170_1)).trans hx170_1; replace p170 := eq_true p170; replace q170 := eq_true q170)); try go_wp2_with (first | (go_at_call 35; (with_reducible refine (rf_In.calls ((rd_T41 l0_0 x3_1).f0) 0 ((rd_T41 l0_0 x3_1).f1) true _ A8.out).mono ?_); rintro e w' ⟨rfl, ⟨nd, rfl⟩⟩; (try first | exact ⟨rfl, _, World.drewN_drewN _ _ _⟩ | exact ⟨rfl, _, Eq.trans (World.drewN_drewN _ _ _) (congrArg (World.drewN _) (Nat.add_assoc _ _ _))⟩); have p170 : 0 ≤ (x3_1 : Int) := sqD; have q170 : x3_1 < (l0_0.length : Int) := sqD; obtain ⟨ad170, e170, hx170_0, hx170_1⟩ := at_T41 HR0_0.out x3_1 p170 q170; obtain rfl : ad167 = ad170 := (by injection e170); replace hx170_0 := (HB.out.cell (World.block_lt_of_cell? w _ hx170_0)).trans hx170_0; replace hx170_1 := (HB.out.cell (World.block_lt_of_cell? w _ hx170_1)).trans hx170_1; replace p170 := eq_true p170; replace q170 := eq_true q170)))
        go_ret
        exact ⟨by first | rfl | (simp [errW_none, errW_some] <;> rfl) | (simp [*, errW_none, errW_some] <;> rfl), sqB⟩
       ·rw [if_neg c10] at H
        have c10b0 : decide (300 < ((rd_T41 l0_0 x3_1).f1)) = false := decide_eq_false c10; clear c10; have H' := Aside0.mk H; clear H; have hcz12_0 := sqc0 BK165; have hcz12_1 := sqc1 BK165; have hfz12_0 := blk_frozen BK165.out 0; have hfz12_1 := blk_frozen BK165.out 1; have p167 : 0 ≤ (x3_1 : Int) := sqD; have q167 : x3_1 < (l0_0.length : Int) := sqD; obtain ⟨ad167, e167, hx167_0, hx167_1⟩ := at_T41 HR0_0.out x3_1 p167 q167
        cases e167
        replace hx167_0 := (HB.out.cell (World.block_lt_of_cell? w _ hx167_0)).trans hx167_0; replace hx167_1 := (HB.out.cell (World.block_lt_of_cell? w _ hx167_1)).trans hx167_1; replace p167 := eq_true p167; replace q167 := eq_true q167; have p168 : 0 ≤ (x3_1 : Int) := sqD; have q168 : x3_1 < (l0_0.length : Int) := sqD; obtain ⟨ad168, e168, hx168_0, hx168_1⟩ := at_T41 HR0_0.out x3_1 p168 q168; obtain rfl : ad167 = ad168 := (by injection e168); replace hx168_0 := (HB.out.cell (World.block_lt_of_cell? w _ hx168_0)).trans hx168_0; replace hx168_1 := (HB.out.cell (World.block_lt_of_cell? w _ hx168_1)).trans hx168_1; replace p168 := eq_true p168; replace q168 := eq_true q168
        go_wp2_with (first | (go_at_call 35; (with_reducible refine (rf_In.calls ((rd_T41 l0_0 x3_1).f0) 0 ((rd_T41 l0_0 x3_1).f1) true _ A8.out).mono ?_); rintro e w' ⟨rfl, ⟨nd, rfl⟩⟩; (try first | exact ⟨rfl, _, World.drewN_drewN _ _ _⟩ | exact ⟨rfl, _, Eq.trans (World.drewN_drewN _ _ _) (congrArg (World.drewN _) (Nat.add_assoc _ _ _))⟩); have p170 : 0 ≤ (x3_1 : Int) := sqD; have q170 : x3_1 < (l0_0.length : Int) := sqD; obtain ⟨ad170, e170, hx170_0, hx170_1⟩ := at_T41 HR0_0.out x3_1 p170 q170; obtain rfl : ad167 = ad170 := (by injection e170); replace hx170_0 := (HB.out.cell (World.block_lt_of_cell? w _ hx170_0)).trans hx170_0; replace hx170_1 := (HB.out.cell (World.block_lt_of_cell? w _ hx170_1)).trans hx170_1; replace p170 := eq_true p170; replace q170 := eq_true q170))
        repeat (go_quiet (first | (go_at_call 35; (with_reducible refine (rf_In.calls ((rd_T41 l0_0 x3_1).f0) 0 ((rd_T41 l0_0 x3_1).f1) true _ A8.out).mono ?_); rintro e w' ⟨rfl, ⟨nd, rfl⟩⟩; (try first | exact ⟨rfl, _, World.drewN_drewN _ _ _⟩ | exact ⟨rfl, _, Eq.trans (World.drewN_drewN _ _ _) (congrArg (World.drewN _) (Nat.add_assoc _ _ _))⟩); have p170 : 0 ≤ (x3_1 : Int) := sqD; have q170 : x3_1 < (l0_0.length : Int) := sqD; obtain ⟨ad170, e170, hx170_0, hx170_1⟩ := at_T41 HR0_0.out x3_1 p170 q170; obtain rfl : ad167 = ad170 := (by injection e170); replace hx170_0 := (HB.out.cell (World.block_lt_of_cell? w _ hx170_0)).trans hx170_0; replace hx170_1 := (HB.out.cell (World.block_lt_of_cell? w _ hx170_1)).trans hx170_1; replace p170 := eq_true p170; replace q170 := eq_true q170)); try go_wp2_with (first | (go_at_call 35; (with_reducible refine (rf_In.calls ((rd_T41 l0_0 x3_1).f0) 0 ((rd_T41 l0_0 x3_1).f1) true _ A8.out).mono ?_); rintro e w' ⟨rfl, ⟨nd, rfl⟩⟩; (try first | exact ⟨rfl, _, World.drewN_drewN _ _ _⟩ | exact ⟨rfl, _, Eq.trans (World.drewN_drewN _ _ _) (congrArg (World.drewN _) (Nat.add_assoc _ _ _))⟩); have p170 : 0 ≤ (x3_1 : Int) := sqD; have q170 : x3_1 < (l0_0.length : Int) := sqD; obtain ⟨ad170, e170, hx170_0, hx170_1⟩ := at_T41 HR0_0.out x3_1 p170 q170; obtain rfl : ad167 = ad170 := (by injection e170); replace hx170_0 := (HB.out.cell (World.block_lt_of_cell? w _ hx170_0)).trans hx170_0; replace hx170_1 := (HB.out.cell (World.block_lt_of_cell? w _ hx170_1)).trans hx170_1; replace p170 := eq_true p170; replace q170 := eq_true q170)))
        go_roundg k1
        case measure => have := HK1.out; omega
        case rel => exact ⟨(wrap64 (x3_1 + 1)), sqE, H', ⟨by have := HK1.out; omega⟩, ⟨sqK BK165⟩, ⟨sqB⟩⟩
      ·replace c9 := Bool.eq_false_iff.mpr c9
       subst c9; rw [if_neg Bool.false_ne_true] at H; obtain rfl := Option.some.inj H; have hcz13_0 := sqc0 BK165; have hcz13_1 := sqc1 BK165; have hfz13_0 := blk_frozen BK165.out 0; have hfz13_1 := blk_frozen BK165.out 1; have p167 : 0 ≤ (x3_1 : Int) := sqD; have q167 : x3_1 < (l0_0.length : Int) := sqD; obtain ⟨ad167, e167, hx167_0, hx167_1⟩ := at_T41 HR0_0.out x3_1 p167 q167
       cases e167
       replace hx167_0 := (HB.out.cell (World.block_lt_of_cell? w _ hx167_0)).trans hx167_0; replace hx167_1 := (HB.out.cell (World.block_lt_of_cell? w _ hx167_1)).trans hx167_1; replace p167 := eq_true p167; replace q167 := eq_true q167; have p168 : 0 ≤ (x3_1 : Int) := sqD; have q168 : x3_1 < (l0_0.length : Int) := sqD; obtain ⟨ad168, e168, hx168_0, hx168_1⟩ := at_T41 HR0_0.out x3_1 p168 q168; obtain rfl : ad167 = ad168 := (by injection e168); replace hx168_0 := (HB.out.cell (World.block_lt_of_cell? w _ hx168_0)).trans hx168_0; replace hx168_1 := (HB.out.cell (World.block_lt_of_cell? w _ hx168_1)).trans hx168_1; replace p168 := eq_true p168; replace q168 := eq_true q168
       go_wp2_with (first | (go_at_call 35; (with_reducible refine (rf_In.calls ((rd_T41 l0_0 x3_1).f0) 0 ((rd_T41 l0_0 x3_1).f1) false _ A8.out).mono ?_); rintro e w' ⟨rfl, ⟨nd, rfl⟩⟩; (try first | exact ⟨rfl, _, World.drewN_drewN _ _ _⟩ | exact ⟨rfl, _, Eq.trans (World.drewN_drewN _ _ _) (congrArg (World.drewN _) (Nat.add_assoc _ _ _))⟩)))
       repeat (go_quiet (first | (go_at_call 35; (with_reducible refine (rf_In.calls ((rd_T41 l0_0 x3_1).f0) 0 ((rd_T41 l0_0 x3_1).f1) false _ A8.out).mono ?_); rintro e w' ⟨rfl, ⟨nd, rfl⟩⟩; (try first | exact ⟨rfl, _, World.drewN_drewN _ _ _⟩ | exact ⟨rfl, _, Eq.trans (World.drewN_drewN _ _ _) (congrArg (World.drewN _) (Nat.add_assoc _ _ _))⟩))); try go_wp2_with (first | (go_at_call 35; (with_reducible refine (rf_In.calls ((rd_T41 l0_0 x3_1).f0) 0 ((rd_T41 l0_0 x3_1).f1) false _ A8.out).mono ?_); rintro e w' ⟨rfl, ⟨nd, rfl⟩⟩; (try first | exact ⟨rfl, _, World.drewN_drewN _ _ _⟩ | exact ⟨rfl, _, Eq.trans (World.drewN_drewN _ _ _) (congrArg (World.drewN _) (Nat.add_assoc _ _ _))⟩))))
       go_ret
       exact ⟨by first | rfl | (simp [errW_none, errW_some] <;> rfl) | (simp [*, errW_none, errW_some] <;> rfl), sqB⟩
     ·rw [if_neg c7] at H
      exact absurd H (by simp)
    ·rw [if_neg c6] at H
     have c6b0 : decide (x3_1 < (l0_0.length : Int)) = false := decide_eq_false c6; clear c6
     by_cases c14 : (l0_1.length : Int) > 8
     ·rw [if_pos c14] at H
      have c14b0 : decide (8 < (l0_1.length : Int)) = true := decide_eq_true c14; have c14b1 : decide (8 < l0_1.length) = true := decide_eq_true (by omega); clear c14; obtain rfl := Option.some.inj H; have hcz15_0 := sqc0 BK165; have hcz15_1 := sqc1 BK165; have hfz15_0 := blk_frozen BK165.out 0; have hfz15_1 := blk_frozen BK165.out 1
      go_wp2
      repeat (go_quiet (fail); try go_wp2)
      go_ret
      exact ⟨by first | rfl | (simp [errW_none, errW_some] <;> rfl) | (simp [*, errW_none, errW_some] <;> rfl), sqB⟩
     ·rw [if_neg c14] at H
      have c14b0 : decide (8 < (l0_1.length : Int)) = false := decide_eq_false c14; have c14b1 : decide (8 < l0_1.length) = false := decide_eq_false (by omega); clear c14; have H' := Aside0.mk H; clear H; have hcz16_0 := sqc0 BK165; have hcz16_1 := sqc1 BK165; have hfz16_0 := blk_frozen BK165.out 0; have hfz16_1 := blk_frozen BK165.out 1
      go_wp2
      repeat (go_quiet (fail); try go_wp2)
      go_loopg [4] k1 (fun kq v4 w' => ∃ (x4_2 : Int), v4 = .int .i64 x4_2 ∧ Aside0 (rf_Check.l1 kq x4_2 l0_0 l0_1 = some r) ∧ Aside0 (kq ≤ k1) ∧ Aside0 (w'.heap[gb165]? = some (.cells #[(.slice A0_0 l0_0.length c0_0), (.slice A0_1 l0_1.length c0_1)] 25 (0, 0))) ∧ Aside0 (Below w.heap.size w w'))
      case atStart => exact ⟨(0), sqE, H', ⟨Nat.le_refl _⟩, ⟨sqK BK165⟩, ⟨sqB⟩⟩
      case round =>
       clear H'; try clear c6b0
       (try clear c14b0); (try clear c14b1); (try clear hcz16_0); (try clear hcz16_1); (try clear hfz16_0); (try clear hfz16_1); obtain ⟨x4_2, rfl, HA, HK2, BK165, HB⟩ := hrel
       cases gk with
       | zero => exact absurd HA.out (by simp [rf_Check.l1])
       | succ k2 =>
        have H := HA.out; clear HA; simp only [rf_Check.l1] at H
        by_cases c17 : x4_2 < (l0_1.length : Int)
        ·rw [if_pos c17] at H
         have c17b0 : decide (x4_2 < (l0_1.length : Int)) = true := decide_eq_true c17; clear c17
         by_cases c18 : 0 ≤ x4_2
         ·rw [if_pos c18] at H
          have c18b0 : decide (0 ≤ x4_2) = true := decide_eq_true c18; clear c18; obtain ⟨t173, A190, H⟩ := Option.bind_eq_some_iff.mp H; have A19 := Aside0.mk A190; clear A190
          by_cases c20 : t173 = true
          ·subst c20
           rw [if_pos rfl] at H; obtain ⟨t174, A210, H⟩ := Option.bind_eq_some_iff.mp H; have A21 := Aside0.mk A210; clear A210
           by_cases c22 : t174 = true
           ·subst c22
            rw [if_pos rfl] at H; obtain ⟨t175, A230, H⟩ := Option.bind_eq_some_iff.mp H; have A23 := Aside0.mk A230; clear A230
            by_cases c24 : t175 = true
            ·subst c24
             rw [if_pos rfl] at H; have H' := Aside0.mk H; clear H; have hcz25_0 := sqc0 BK165; have hcz25_1 := sqc1 BK165; have hfz25_0 := blk_frozen BK165.out 0; have hfz25_1 := blk_frozen BK165.out 1; have p171 : 0 ≤ (x4_2 : Int) := sqD; have q171 : x4_2 < (l0_1.length : Int) := sqD; obtain ⟨ad171, e171, hx171_0, hx171_1, hx171_2⟩ := at_T80 HR0_1.out x4_2 p171 q171
             cases e171
             replace hx171_0 := (HB.out.cell (World.block_lt_of_cell? w _ hx171_0)).trans hx171_0; replace hx171_1 := (HB.out.cell (World.block_lt_of_cell? w _ hx171_1)).trans hx171_1; replace hx171_2 := (HB.out.cell (World.block_lt_of_cell? w _ hx171_2)).trans hx171_2; replace p171 := eq_true p171; replace q171 := eq_true q171
             go_wp2_with (first | ((with_reducible refine gate_dst (N := 5) rfl ?_); refine box_event ?hg (N := 5) ?hd (cs := #[.int .i64 0, .int .i64 0, .int .i64 0]) (t := 80) ?hr ?_; (case hd => rfl); (case hg => rfl); (case hr => first | (go_simp; done) | (go_simp; rfl)); intro gb172 hg w26 hbox hb; have n0_ := Aside0.mk (blk_below (g := gb165) (o := .cells #[.slice A0_0 l0_0.length c0_0, .slice (some ad171) l0_1.length c0_1] 25 (0, 0)) (sqK BK165) hb); have n1_ := Aside0.mk (below_step sqB hb); have n2_ := Aside0.mk (hbox); have n3_ := Aside0.mk ((sqZ hg)); have n4_ := Aside0.mk ((sqZ hg)); have n5_ := Aside0.mk ((sqL hg BK165)); have n6_ := Aside0.mk ((sqG hg BK165)); clear BK165; clear HB; have BK165 := n0_; have HB := n1_; have BK172 := n2_; have GW172 := n3_; have GE172 := n4_; have NB165_172 := n5_; have NB172_165 := n6_; clear n0_ n1_ n2_ n3_ n4_ n5_ n6_; clear hb hbox hg; have hnb27 := NB172_165.out; have hnc27 := NB165_172.out; have hcz28_0 := sqc0 BK172; have hcz28_1 := sqc1 BK172; have hcz28_2 := sqc2 BK172; have hfz28_0 := blk_frozen BK172.out 0; have hfz28_1 := blk_frozen BK172.out 1; have hfz28_2 := blk_frozen BK172.out 2; have hcz29_0 := sqc0 BK165; have hcz29_1 := sqc1 BK165; have hfz29_0 := blk_frozen BK165.out 0; have hfz29_1 := blk_frozen BK165.out 1) | (go_at_call 35; (with_reducible refine (rf_In.calls ((rd_T80 l0_1 x4_2).f0) 0 (l0_0.length : Int) true _ A19.out).mono ?_); rintro e w' ⟨rfl, ⟨nd, rfl⟩⟩; (try first | exact ⟨rfl, _, World.drewN_drewN _ _ _⟩ | exact ⟨rfl, _, Eq.trans (World.drewN_drewN _ _ _) (congrArg (World.drewN _) (Nat.add_assoc _ _ _))⟩)) | (go_at_call 35; (with_reducible refine (rf_In.calls ((rd_T80 l0_1 x4_2).f1) 0 400 true _ A21.out).mono ?_); rintro e w' ⟨rfl, ⟨nd, rfl⟩⟩; (try first | exact ⟨rfl, _, World.drewN_drewN _ _ _⟩ | exact ⟨rfl, _, Eq.trans (World.drewN_drewN _ _ _) (congrArg (World.drewN _) (Nat.add_assoc _ _ _))⟩)) | (go_at_call 35; (with_reducible refine (rf_In.calls ((rd_T80 l0_1 x4_2).f2) 0 20 true _ A23.out).mono ?_); rintro e w' ⟨rfl, ⟨nd, rfl⟩⟩; (try first | exact ⟨rfl, _, World.drewN_drewN _ _ _⟩ | exact ⟨rfl, _, Eq.trans (World.drewN_drewN _ _ _) (congrArg (World.drewN _) (Nat.add_assoc _ _ _))⟩)))
             repeat (go_quiet (first | ((with_reducible refine gate_dst (N := 5) rfl ?_); refine box_event ?hg (N := 5) ?hd (cs := #[.int .i64 0, .int .i64 0, .int .i64 0]) (t := 80) ?hr ?_; (case hd => rfl); (case hg => rfl); (case hr => first | (go_simp; done) | (go_simp; rfl)); intro gb172 hg w26 hbox hb; have n0_ := Aside0.mk (blk_below (g := gb165) (o := .cells #[.slice A0_0 l0_0.length c0_0, .slice (some ad171) l0_1.length c0_1] 25 (0, 0)) (sqK BK165) hb); have n1_ := Aside0.mk (below_step sqB hb); have n2_ := Aside0.mk (hbox); have n3_ := Aside0.mk ((sqZ hg)); have n4_ := Aside0.mk ((sqZ hg)); have n5_ := Aside0.mk ((sqL hg BK165)); have n6_ := Aside0.mk ((sqG hg BK165)); clear BK165; clear HB; have BK165 := n0_; have HB := n1_; have BK172 := n2_; have GW172 := n3_; have GE172 := n4_; have NB165_172 := n5_; have NB172_165 := n6_; clear n0_ n1_ n2_ n3_ n4_ n5_ n6_; clear hb hbox hg; have hnb27 := NB172_165.out; have hnc27 := NB165_172.out; have hcz28_0 := sqc0 BK172; have hcz28_1 := sqc1 BK172; have hcz28_2 := sqc2 BK172; have hfz28_0 := blk_frozen BK172.out 0; have hfz28_1 := blk_frozen BK172.out 1; have hfz28_2 := blk_frozen BK172.out 2; have hcz29_0 := sqc0 BK165; have hcz29_1 := sqc1 BK165; have hfz29_0 := blk_frozen BK165.out 0; have hfz29_1 := blk_frozen BK165.out 1) | (go_at_call 35; (with_reducible refine (rf_In.calls ((rd_T80 l0_1 x4_2).f0) 0 (l0_0.length : Int) true _ A19.out).mono ?_); rintro e w' ⟨rfl, ⟨nd, rfl⟩⟩; (try first | exact ⟨rfl, _, World.drewN_drewN _ _ _⟩ | exact ⟨rfl, _, Eq.trans (World.drewN_drewN _ _ _) (congrArg (World.drewN _) (Nat.add_assoc _ _ _))⟩)) | (go_at_call 35; (with_reducible refine (rf_In.calls ((rd_T80 l0_1 x4_2).f1) 0 400 true _ A21.out).mono ?_); rintro e w' ⟨rfl, ⟨nd, rfl⟩⟩; (try first | exact ⟨rfl, _, World.drewN_drewN _ _ _⟩ | exact ⟨rfl, _, Eq.trans (World.drewN_drewN _ _ _) (congrArg (World.drewN _) (Nat.add_assoc _ _ _))⟩)) | (go_at_call 35; (with_reducible refine (rf_In.calls ((rd_T80 l0_1 x4_2).f2) 0 20 true _ A23.out).mono ?_); rintro e w' ⟨rfl, ⟨nd, rfl⟩⟩; (try first | exact ⟨rfl, _, World.drewN_drewN _ _ _⟩ | exact ⟨rfl, _, Eq.trans (World.drewN_drewN _ _ _) (congrArg (World.drewN _) (Nat.add_assoc _ _ _))⟩))); try go_wp2_with (first | ((with_reducible refine gate_dst (N := 5) rfl ?_); refine box_event ?hg (N := 5) ?hd (cs := #[.int .i64 0, .int .i64 0, .int .i64 0]) (t := 80) ?hr ?_; (case hd => rfl); (case hg => rfl); (case hr => first | (go_simp; done) | (go_simp; rfl)); intro gb172 hg w26 hbox hb; have n0_ := Aside0.mk (blk_below (g := gb165) (o := .cells #[.slice A0_0 l0_0.length c0_0, .slice (some ad171) l0_1.length c0_1] 25 (0, 0)) (sqK BK165) hb); have n1_ := Aside0.mk (below_step sqB hb); have n2_ := Aside0.mk (hbox); have n3_ := Aside0.mk ((sqZ hg)); have n4_ := Aside0.mk ((sqZ hg)); have n5_ := Aside0.mk ((sqL hg BK165)); have n6_ := Aside0.mk ((sqG hg BK165)); clear BK165; clear HB; have BK165 := n0_; have HB := n1_; have BK172 := n2_; have GW172 := n3_; have GE172 := n4_; have NB165_172 := n5_; have NB172_165 := n6_; clear n0_ n1_ n2_ n3_ n4_ n5_ n6_; clear hb hbox hg; have hnb27 := NB172_165.out; have hnc27 := NB165_172.out; have hcz28_0 := sqc0 BK172; have hcz28_1 := sqc1 BK172; have hcz28_2 := sqc2 BK172; have hfz28_0 := blk_frozen BK172.out 0; have hfz28_1 := blk_frozen BK172.out 1; have hfz28_2 := blk_frozen BK172.out 2; have hcz29_0 := sqc0 BK165; have hcz29_1 := sqc1 BK165; have hfz29_0 := blk_frozen BK165.out 0; have hfz29_1 := blk_frozen BK165.out 1) | (go_at_call 35; (with_reducible refine (rf_In.calls ((rd_T80 l0_1 x4_2).f0) 0 (l0_0.length : Int) true _ A19.out).mono ?_); rintro e w' ⟨rfl, ⟨nd, rfl⟩⟩; (try first | exact ⟨rfl, _, World.drewN_drewN _ _ _⟩ | exact ⟨rfl, _, Eq.trans (World.drewN_drewN _ _ _) (congrArg (World.drewN _) (Nat.add_assoc _ _ _))⟩)) | (go_at_call 35; (with_reducible refine (rf_In.calls ((rd_T80 l0_1 x4_2).f1) 0 400 true _ A21.out).mono ?_); rintro e w' ⟨rfl, ⟨nd, rfl⟩⟩; (try first | exact ⟨rfl, _, World.drewN_drewN _ _ _⟩ | exact ⟨rfl, _, Eq.trans (World.drewN_drewN _ _ _) (congrArg (World.drewN _) (Nat.add_assoc _ _ _))⟩)) | (go_at_call 35; (with_reducible refine (rf_In.calls ((rd_T80 l0_1 x4_2).f2) 0 20 true _ A23.out).mono ?_); rintro e w' ⟨rfl, ⟨nd, rfl⟩⟩; (try first | exact ⟨rfl, _, World.drewN_drewN _ _ _⟩ | exact ⟨rfl, _, Eq.trans (World.drewN_drewN _ _ _) (congrArg (World.drewN _) (Nat.add_assoc _ _ _))⟩))))
             go_roundg k2
             case measure => have := HK1.out; have := HK2.out; omega
             case rel => exact ⟨(wrap64 (x4_2 + 1)), sqE, H', ⟨by have := HK1.out; have := HK2.out; omega⟩, ⟨sqX⟩, ⟨sqB⟩⟩
            ·replace c24 := Bool.eq_false_iff.mpr c24
             subst c24; rw [if_neg Bool.false_ne_true] at H; obtain rfl := Option.some.inj H; have hcz30_0 := sqc0 BK165; have hcz30_1 := sqc1 BK165; have hfz30_0 := blk_frozen BK165.out 0; have hfz30_1 := blk_frozen BK165.out 1; have p171 : 0 ≤ (x4_2 : Int) := sqD; have q171 : x4_2 < (l0_1.length : Int) := sqD; obtain ⟨ad171, e171, hx171_0, hx171_1, hx171_2⟩ := at_T80 HR0_1.out x4_2 p171 q171
             cases e171
             replace hx171_0 := (HB.out.cell (World.block_lt_of_cell? w _ hx171_0)).trans hx171_0; replace hx171_1 := (HB.out.cell (World.block_lt_of_cell? w _ hx171_1)).trans hx171_1; replace hx171_2 := (HB.out.cell (World.block_lt_of_cell? w _ hx171_2)).trans hx171_2; replace p171 := eq_true p171; replace q171 := eq_true q171
             go_wp2_with (first | ((with_reducible refine gate_dst (N := 5) rfl ?_); refine box_event ?hg (N := 5) ?hd (cs := #[.int .i64 0, .int .i64 0, .int .i64 0]) (t := 80) ?hr ?_; (case hd => rfl); (case hg => rfl); (case hr => first | (go_simp; done) | (go_simp; rfl)); intro gb172 hg w31 hbox hb; have n0_ := Aside0.mk (blk_below (g := gb165) (o := .cells #[.slice A0_0 l0_0.length c0_0, .slice (some ad171) l0_1.length c0_1] 25 (0, 0)) (sqK BK165) hb); have n1_ := Aside0.mk (below_step sqB hb); have n2_ := Aside0.mk (hbox); have n3_ := Aside0.mk ((sqZ hg)); have n4_ := Aside0.mk ((sqZ hg)); have n5_ := Aside0.mk ((sqL hg BK165)); have n6_ := Aside0.mk ((sqG hg BK165)); clear BK165; clear HB; have BK165 := n0_; have HB := n1_; have BK172 := n2_; have GW172 := n3_; have GE172 := n4_; have NB165_172 := n5_; have NB172_165 := n6_; clear n0_ n1_ n2_ n3_ n4_ n5_ n6_; clear hb hbox hg; have hnb32 := NB172_165.out; have hnc32 := NB165_172.out; have hcz33_0 := sqc0 BK172; have hcz33_1 := sqc1 BK172; have hcz33_2 := sqc2 BK172; have hfz33_0 := blk_frozen BK172.out 0; have hfz33_1 := blk_frozen BK172.out 1; have hfz33_2 := blk_frozen BK172.out 2; have hcz34_0 := sqc0 BK165; have hcz34_1 := sqc1 BK165; have hfz34_0 := blk_frozen BK165.out 0; have hfz34_1 := blk_frozen BK165.out 1) | (go_at_call 35; (with_reducible refine (rf_In.calls ((rd_T80 l0_1 x4_2).f0) 0 (l0_0.length : Int) true _ A19.out).mono ?_); rintro e w' ⟨rfl, ⟨nd, rfl⟩⟩; (try first | exact ⟨rfl, _, World.drewN_drewN _ _ _⟩ | exact ⟨rfl, _, Eq.trans (World.drewN_drewN _ _ _) (congrArg (World.drewN _) (Nat.add_assoc _ _ _))⟩)) | (go_at_call 35; (with_reducible refine (rf_In.calls ((rd_T80 l0_1 x4_2).f1) 0 400 true _ A21.out).mono ?_); rintro e w' ⟨rfl, ⟨nd, rfl⟩⟩; (try first | exact ⟨rfl, _, World.drewN_drewN _ _ _⟩ | exact ⟨rfl, _, Eq.trans (World.drewN_drewN _ _ _) (congrArg (World.drewN _) (Nat.add_assoc _ _ _))⟩)) | (go_at_call 35; (with_reducible refine (rf_In.calls ((rd_T80 l0_1 x4_2).f2) 0 20 false _ A23.out).mono ?_); rintro e w' ⟨rfl, ⟨nd, rfl⟩⟩; (try first | exact ⟨rfl, _, World.drewN_drewN _ _ _⟩ | exact ⟨rfl, _, Eq.trans (World.drewN_drewN _ _ _) (congrArg (World.drewN _) (Nat.add_assoc _ _ _))⟩)))
             repeat (go_quiet (first | ((with_reducible refine gate_dst (N := 5) rfl ?_); refine box_event ?hg (N := 5) ?hd (cs := #[.int .i64 0, .int .i64 0, .int .i64 0]) (t := 80) ?hr ?_; (case hd => rfl); (case hg => rfl); (case hr => first | (go_simp; done) | (go_simp; rfl)); intro gb172 hg w31 hbox hb; have n0_ := Aside0.mk (blk_below (g := gb165) (o := .cells #[.slice A0_0 l0_0.length c0_0, .slice (some ad171) l0_1.length c0_1] 25 (0, 0)) (sqK BK165) hb); have n1_ := Aside0.mk (below_step sqB hb); have n2_ := Aside0.mk (hbox); have n3_ := Aside0.mk ((sqZ hg)); have n4_ := Aside0.mk ((sqZ hg)); have n5_ := Aside0.mk ((sqL hg BK165)); have n6_ := Aside0.mk ((sqG hg BK165)); clear BK165; clear HB; have BK165 := n0_; have HB := n1_; have BK172 := n2_; have GW172 := n3_; have GE172 := n4_; have NB165_172 := n5_; have NB172_165 := n6_; clear n0_ n1_ n2_ n3_ n4_ n5_ n6_; clear hb hbox hg; have hnb32 := NB172_165.out; have hnc32 := NB165_172.out; have hcz33_0 := sqc0 BK172; have hcz33_1 := sqc1 BK172; have hcz33_2 := sqc2 BK172; have hfz33_0 := blk_frozen BK172.out 0; have hfz33_1 := blk_frozen BK172.out 1; have hfz33_2 := blk_frozen BK172.out 2; have hcz34_0 := sqc0 BK165; have hcz34_1 := sqc1 BK165; have hfz34_0 := blk_frozen BK165.out 0; have hfz34_1 := blk_frozen BK165.out 1) | (go_at_call 35; (with_reducible refine (rf_In.calls ((rd_T80 l0_1 x4_2).f0) 0 (l0_0.length : Int) true _ A19.out).mono ?_); rintro e w' ⟨rfl, ⟨nd, rfl⟩⟩; (try first | exact ⟨rfl, _, World.drewN_drewN _ _ _⟩ | exact ⟨rfl, _, Eq.trans (World.drewN_drewN _ _ _) (congrArg (World.drewN _) (Nat.add_assoc _ _ _))⟩)) | (go_at_call 35; (with_reducible refine (rf_In.calls ((rd_T80 l0_1 x4_2).f1) 0 400 true _ A21.out).mono ?_); rintro e w' ⟨rfl, ⟨nd, rfl⟩⟩; (try first | exact ⟨rfl, _, World.drewN_drewN _ _ _⟩ | exact ⟨rfl, _, Eq.trans (World.drewN_drewN _ _ _) (congrArg (World.drewN _) (Nat.add_assoc _ _ _))⟩)) | (go_at_call 35; (with_reducible refine (rf_In.calls ((rd_T80 l0_1 x4_2).f2) 0 20 false _ A23.out).mono ?_); rintro e w' ⟨rfl, ⟨nd, rfl⟩⟩; (try first | exact ⟨rfl, _, World.drewN_drewN _ _ _⟩ | exact ⟨rfl, _, Eq.trans (World.drewN_drewN _ _ _) (congrArg (World.drewN _) (Nat.add_assoc _ _ _))⟩))); try go_wp2_with (first | ((with_reducible refine gate_dst (N := 5) rfl ?_); refine box_event ?hg (N := 5) ?hd (cs := #[.int .i64 0, .int .i64 0, .int .i64 0]) (t := 80) ?hr ?_; (case hd => rfl); (case hg => rfl); (case hr => first | (go_simp; done) | (go_simp; rfl)); intro gb172 hg w31 hbox hb; have n0_ := Aside0.mk (blk_below (g := gb165) (o := .cells #[.slice A0_0 l0_0.length c0_0, .slice (some ad171) l0_1.length c0_1] 25 (0, 0)) (sqK BK165) hb); have n1_ := Aside0.mk (below_step sqB hb); have n2_ := Aside0.mk (hbox); have n3_ := Aside0.mk ((sqZ hg)); have n4_ := Aside0.mk ((sqZ hg)); have n5_ := Aside0.mk ((sqL hg BK165)); have n6_ := Aside0.mk ((sqG hg BK165)); clear BK165; clear HB; have BK165 := n0_; have HB := n1_; have BK172 := n2_; have GW172 := n3_; have GE172 := n4_; have NB165_172 := n5_; have NB172_165 := n6_; clear n0_ n1_ n2_ n3_ n4_ n5_ n6_; clear hb hbox hg; have hnb32 := NB172_165.out; have hnc32 := NB165_172.out; have hcz33_0 := sqc0 BK172; have hcz33_1 := sqc1 BK172; have hcz33_2 := sqc2 BK172; have hfz33_0 := blk_frozen BK172.out 0; have hfz33_1 := blk_frozen BK172.out 1; have hfz33_2 := blk_frozen BK172.out 2; have hcz34_0 := sqc0 BK165; have hcz34_1 := sqc1 BK165; have hfz34_0 := blk_frozen BK165.out 0; have hfz34_1 := blk_frozen BK165.out 1) | (go_at_call 35; (with_reducible refine (rf_In.calls ((rd_T80 l0_1 x4_2).f0) 0 (l0_0.length : Int) true _ A19.out).mono ?_); rintro e w' ⟨rfl, ⟨nd, rfl⟩⟩; (try first | exact ⟨rfl, _, World.drewN_drewN _ _ _⟩ | exact ⟨rfl, _, Eq.trans (World.drewN_drewN _ _ _) (congrArg (World.drewN _) (Nat.add_assoc _ _ _))⟩)) | (go_at_call 35; (with_reducible refine (rf_In.calls ((rd_T80 l0_1 x4_2).f1) 0 400 true _ A21.out).mono ?_); rintro e w' ⟨rfl, ⟨nd, rfl⟩⟩; (try first | exact ⟨rfl, _, World.drewN_drewN _ _ _⟩ | exact ⟨rfl, _, Eq.trans (World.drewN_drewN _ _ _) (congrArg (World.drewN _) (Nat.add_assoc _ _ _))⟩)) | (go_at_call 35; (with_reducible refine (rf_In.calls ((rd_T80 l0_1 x4_2).f2) 0 20 false _ A23.out).mono ?_); rintro e w' ⟨rfl, ⟨nd, rfl⟩⟩; (try first | exact ⟨rfl, _, World.drewN_drewN _ _ _⟩ | exact ⟨rfl, _, Eq.trans (World.drewN_drewN _ _ _) (congrArg (World.drewN _) (Nat.add_assoc _ _ _))⟩))))
             go_ret
             exact ⟨by first | rfl | (simp [errW_none, errW_some] <;> rfl) | (simp [*, errW_none, errW_some] <;> rfl), sqB⟩
           ·replace c22 := Bool.eq_false_iff.mpr c22
            subst c22; rw [if_neg Bool.false_ne_true] at H; obtain rfl := Option.some.inj H; have hcz35_0 := sqc0 BK165; have hcz35_1 := sqc1 BK165; have hfz35_0 := blk_frozen BK165.out 0; have hfz35_1 := blk_frozen BK165.out 1; have p171 : 0 ≤ (x4_2 : Int) := sqD; have q171 : x4_2 < (l0_1.length : Int) := sqD; obtain ⟨ad171, e171, hx171_0, hx171_1, hx171_2⟩ := at_T80 HR0_1.out x4_2 p171 q171
            cases e171
            replace hx171_0 := (HB.out.cell (World.block_lt_of_cell? w _ hx171_0)).trans hx171_0; replace hx171_1 := (HB.out.cell (World.block_lt_of_cell? w _ hx171_1)).trans hx171_1; replace hx171_2 := (HB.out.cell (World.block_lt_of_cell? w _ hx171_2)).trans hx171_2; replace p171 := eq_true p171; replace q171 := eq_true q171
            go_wp2_with (first | ((with_reducible refine gate_dst (N := 5) rfl ?_); refine box_event ?hg (N := 5) ?hd (cs := #[.int .i64 0, .int .i64 0, .int .i64 0]) (t := 80) ?hr ?_; (case hd => rfl); (case hg => rfl); (case hr => first | (go_simp; done) | (go_simp; rfl)); intro gb172 hg w36 hbox hb; have n0_ := Aside0.mk (blk_below (g := gb165) (o := .cells #[.slice A0_0 l0_0.length c0_0, .slice (some ad171) l0_1.length c0_1] 25 (0, 0)) (sqK BK165) hb); have n1_ := Aside0.mk (below_step sqB hb); have n2_ := Aside0.mk (hbox); have n3_ := Aside0.mk ((sqZ hg)); have n4_ := Aside0.mk ((sqZ hg)); have n5_ := Aside0.mk ((sqL hg BK165)); have n6_ := Aside0.mk ((sqG hg BK165)); clear BK165; clear HB; have BK165 := n0_; have HB := n1_; have BK172 := n2_; have GW172 := n3_; have GE172 := n4_; have NB165_172 := n5_; have NB172_165 := n6_; clear n0_ n1_ n2_ n3_ n4_ n5_ n6_; clear hb hbox hg; have hnb37 := NB172_165.out; have hnc37 := NB165_172.out; have hcz38_0 := sqc0 BK172; have hcz38_1 := sqc1 BK172; have hcz38_2 := sqc2 BK172; have hfz38_0 := blk_frozen BK172.out 0; have hfz38_1 := blk_frozen BK172.out 1; have hfz38_2 := blk_frozen BK172.out 2; have hcz39_0 := sqc0 BK165; have hcz39_1 := sqc1 BK165; have hfz39_0 := blk_frozen BK165.out 0; have hfz39_1 := blk_frozen BK165.out 1) | (go_at_call 35; (with_reducible refine (rf_In.calls ((rd_T80 l0_1 x4_2).f0) 0 (l0_0.length : Int) true _ A19.out).mono ?_); rintro e w' ⟨rfl, ⟨nd, rfl⟩⟩; (try first | exact ⟨rfl, _, World.drewN_drewN _ _ _⟩ | exact ⟨rfl, _, Eq.trans (World.drewN_drewN _ _ _) (congrArg (World.drewN _) (Nat.add_assoc _ _ _))⟩)) | (go_at_call 35; (with_reducible refine (rf_In.calls ((rd_T80 l0_1 x4_2).f1) 0 400 false _ A21.out).mono ?_); rintro e w' ⟨rfl, ⟨nd, rfl⟩⟩; (try first | exact ⟨rfl, _, World.drewN_drewN _ _ _⟩ | exact ⟨rfl, _, Eq.trans (World.drewN_drewN _ _ _) (congrArg (World.drewN _) (Nat.add_assoc _ _ _))⟩)))
            repeat (go_quiet (first | ((with_reducible refine gate_dst (N := 5) rfl ?_); refine box_event ?hg (N := 5) ?hd (cs := #[.int .i64 0, .int .i64 0, .int .i64 0]) (t := 80) ?hr ?_; (case hd => rfl); (case hg => rfl); (case hr => first | (go_simp; done) | (go_simp; rfl)); intro gb172 hg w36 hbox hb; have n0_ := Aside0.mk (blk_below (g := gb165) (o := .cells #[.slice A0_0 l0_0.length c0_0, .slice (some ad171) l0_1.length c0_1] 25 (0, 0)) (sqK BK165) hb); have n1_ := Aside0.mk (below_step sqB hb); have n2_ := Aside0.mk (hbox); have n3_ := Aside0.mk ((sqZ hg)); have n4_ := Aside0.mk ((sqZ hg)); have n5_ := Aside0.mk ((sqL hg BK165)); have n6_ := Aside0.mk ((sqG hg BK165)); clear BK165; clear HB; have BK165 := n0_; have HB := n1_; have BK172 := n2_; have GW172 := n3_; have GE172 := n4_; have NB165_172 := n5_; have NB172_165 := n6_; clear n0_ n1_ n2_ n3_ n4_ n5_ n6_; clear hb hbox hg; have hnb37 := NB172_165.out; have hnc37 := NB165_172.out; have hcz38_0 := sqc0 BK172; have hcz38_1 := sqc1 BK172; have hcz38_2 := sqc2 BK172; have hfz38_0 := blk_frozen BK172.out 0; have hfz38_1 := blk_frozen BK172.out 1; have hfz38_2 := blk_frozen BK172.out 2; have hcz39_0 := sqc0 BK165; have hcz39_1 := sqc1 BK165; have hfz39_0 := blk_frozen BK165.out 0; have hfz39_1 := blk_frozen BK165.out 1) | (go_at_call 35; (with_reducible refine (rf_In.calls ((rd_T80 l0_1 x4_2).f0) 0 (l0_0.length : Int) true _ A19.out).mono ?_); rintro e w' ⟨rfl, ⟨nd, rfl⟩⟩; (try first | exact ⟨rfl, _, World.drewN_drewN _ _ _⟩ | exact ⟨rfl, _, Eq.trans (World.drewN_drewN _ _ _) (congrArg (World.drewN _) (Nat.add_assoc _ _ _))⟩)) | (go_at_call 35; (with_reducible refine (rf_In.calls ((rd_T80 l0_1 x4_2).f1) 0 400 false _ A21.out).mono ?_); rintro e w' ⟨rfl, ⟨nd, rfl⟩⟩; (try first | exact ⟨rfl, _, World.drewN_drewN _ _ _⟩ | exact ⟨rfl, _, Eq.trans (World.drewN_drewN _ _ _) (congrArg (World.drewN _) (Nat.add_assoc _ _ _))⟩))); try go_wp2_with (first | ((with_reducible refine gate_dst (N := 5) rfl ?_); refine box_event ?hg (N := 5) ?hd (cs := #[.int .i64 0, .int .i64 0, .int .i64 0]) (t := 80) ?hr ?_; (case hd => rfl); (case hg => rfl); (case hr => first | (go_simp; done) | (go_simp; rfl)); intro gb172 hg w36 hbox hb; have n0_ := Aside0.mk (blk_below (g := gb165) (o := .cells #[.slice A0_0 l0_0.length c0_0, .slice (some ad171) l0_1.length c0_1] 25 (0, 0)) (sqK BK165) hb); have n1_ := Aside0.mk (below_step sqB hb); have n2_ := Aside0.mk (hbox); have n3_ := Aside0.mk ((sqZ hg)); have n4_ := Aside0.mk ((sqZ hg)); have n5_ := Aside0.mk ((sqL hg BK165)); have n6_ := Aside0.mk ((sqG hg BK165)); clear BK165; clear HB; have BK165 := n0_; have HB := n1_; have BK172 := n2_; have GW172 := n3_; have GE172 := n4_; have NB165_172 := n5_; have NB172_165 := n6_; clear n0_ n1_ n2_ n3_ n4_ n5_ n6_; clear hb hbox hg; have hnb37 := NB172_165.out; have hnc37 := NB165_172.out; have hcz38_0 := sqc0 BK172; have hcz38_1 := sqc1 BK172; have hcz38_2 := sqc2 BK172; have hfz38_0 := blk_frozen BK172.out 0; have hfz38_1 := blk_frozen BK172.out 1; have hfz38_2 := blk_frozen BK172.out 2; have hcz39_0 := sqc0 BK165; have hcz39_1 := sqc1 BK165; have hfz39_0 := blk_frozen BK165.out 0; have hfz39_1 := blk_frozen BK165.out 1) | (go_at_call 35; (with_reducible refine (rf_In.calls ((rd_T80 l0_1 x4_2).f0) 0 (l0_0.length : Int) true _ A19.out).mono ?_); rintro e w' ⟨rfl, ⟨nd, rfl⟩⟩; (try first | exact ⟨rfl, _, World.drewN_drewN _ _ _⟩ | exact ⟨rfl, _, Eq.trans (World.drewN_drewN _ _ _) (congrArg (World.drewN _) (Nat.add_assoc _ _ _))⟩)) | (go_at_call 35; (with_reducible refine (rf_In.calls ((rd_T80 l0_1 x4_2).f1) 0 400 false _ A21.out).mono ?_); rintro e w' ⟨rfl, ⟨nd, rfl⟩⟩; (try first | exact ⟨rfl, _, World.drewN_drewN _ _ _⟩ | exact ⟨rfl, _, Eq.trans (World.drewN_drewN _ _ _) (congrArg (World.drewN _) (Nat.add_assoc _ _ _))⟩))))
            go_ret
            exact ⟨by first | rfl | (simp [errW_none, errW_some] <;> rfl) | (simp [*, errW_none, errW_some] <;> rfl), sqB⟩
          ·replace c20 := Bool.eq_false_iff.mpr c20
           subst c20; rw [if_neg Bool.false_ne_true] at H; obtain rfl := Option.some.inj H; have hcz40_0 := sqc0 BK165; have hcz40_1 := sqc1 BK165; have hfz40_0 := blk_frozen BK165.out 0; have hfz40_1 := blk_frozen BK165.out 1; have p171 : 0 ≤ (x4_2 : Int) := sqD; have q171 : x4_2 < (l0_1.length : Int) := sqD; obtain ⟨ad171, e171, hx171_0, hx171_1, hx171_2⟩ := at_T80 HR0_1.out x4_2 p171 q171
           cases e171
           replace hx171_0 := (HB.out.cell (World.block_lt_of_cell? w _ hx171_0)).trans hx171_0; replace hx171_1 := (HB.out.cell (World.block_lt_of_cell? w _ hx171_1)).trans hx171_1; replace hx171_2 := (HB.out.cell (World.block_lt_of_cell? w _ hx171_2)).trans hx171_2; replace p171 := eq_true p171; replace q171 := eq_true q171
           go_wp2_with (first | ((with_reducible refine gate_dst (N := 5) rfl ?_); refine box_event ?hg (N := 5) ?hd (cs := #[.int .i64 0, .int .i64 0, .int .i64 0]) (t := 80) ?hr ?_; (case hd => rfl); (case hg => rfl); (case hr => first | (go_simp; done) | (go_simp; rfl)); intro gb172 hg w41 hbox hb; have n0_ := Aside0.mk (blk_below (g := gb165) (o := .cells #[.slice A0_0 l0_0.length c0_0, .slice (some ad171) l0_1.length c0_1] 25 (0, 0)) (sqK BK165) hb); have n1_ := Aside0.mk (below_step sqB hb); have n2_ := Aside0.mk (hbox); have n3_ := Aside0.mk ((sqZ hg)); have n4_ := Aside0.mk ((sqZ hg)); have n5_ := Aside0.mk ((sqL hg BK165)); have n6_ := Aside0.mk ((sqG hg BK165)); clear BK165; clear HB; have BK165 := n0_; have HB := n1_; have BK172 := n2_; have GW172 := n3_; have GE172 := n4_; have NB165_172 := n5_; have NB172_165 := n6_; clear n0_ n1_ n2_ n3_ n4_ n5_ n6_; clear hb hbox hg; have hnb42 := NB172_165.out; have hnc42 := NB165_172.out; have hcz43_0 := sqc0 BK172; have hcz43_1 := sqc1 BK172; have hcz43_2 := sqc2 BK172; have hfz43_0 := blk_frozen BK172.out 0; have hfz43_1 := blk_frozen BK172.out 1; have hfz43_2 := blk_frozen BK172.out 2; have hcz44_0 := sqc0 BK165; have hcz44_1 := sqc1 BK165; have hfz44_0 := blk_frozen BK165.out 0; have hfz44_1 := blk_frozen BK165.out 1) | (go_at_call 35; (with_reducible refine (rf_In.calls ((rd_T80 l0_1 x4_2).f0) 0 (l0_0.length : Int) false _ A19.out).mono ?_); rintro e w' ⟨rfl, ⟨nd, rfl⟩⟩; (try first | exact ⟨rfl, _, World.drewN_drewN _ _ _⟩ | exact ⟨rfl, _, Eq.trans (World.drewN_drewN _ _ _) (congrArg (World.drewN _) (Nat.add_assoc _ _ _))⟩)))
           repeat (go_quiet (first | ((with_reducible refine gate_dst (N := 5) rfl ?_); refine box_event ?hg (N := 5) ?hd (cs := #[.int .i64 0, .int .i64 0, .int .i64 0]) (t := 80) ?hr ?_; (case hd => rfl); (case hg => rfl); (case hr => first | (go_simp; done) | (go_simp; rfl)); intro gb172 hg w41 hbox hb; have n0_ := Aside0.mk (blk_below (g := gb165) (o := .cells #[.slice A0_0 l0_0.length c0_0, .slice (some ad171) l0_1.length c0_1] 25 (0, 0)) (sqK BK165) hb); have n1_ := Aside0.mk (below_step sqB hb); have n2_ := Aside0.mk (hbox); have n3_ := Aside0.mk ((sqZ hg)); have n4_ := Aside0.mk ((sqZ hg)); have n5_ := Aside0.mk ((sqL hg BK165)); have n6_ := Aside0.mk ((sqG hg BK165)); clear BK165; clear HB; have BK165 := n0_; have HB := n1_; have BK172 := n2_; have GW172 := n3_; have GE172 := n4_; have NB165_172 := n5_; have NB172_165 := n6_; clear n0_ n1_ n2_ n3_ n4_ n5_ n6_; clear hb hbox hg; have hnb42 := NB172_165.out; have hnc42 := NB165_172.out; have hcz43_0 := sqc0 BK172; have hcz43_1 := sqc1 BK172; have hcz43_2 := sqc2 BK172; have hfz43_0 := blk_frozen BK172.out 0; have hfz43_1 := blk_frozen BK172.out 1; have hfz43_2 := blk_frozen BK172.out 2; have hcz44_0 := sqc0 BK165; have hcz44_1 := sqc1 BK165; have hfz44_0 := blk_frozen BK165.out 0; have hfz44_1 := blk_frozen BK165.out 1) | (go_at_call 35; (with_reducible refine (rf_In.calls ((rd_T80 l0_1 x4_2).f0) 0 (l0_0.length : Int) false _ A19.out).mono ?_); rintro e w' ⟨rfl, ⟨nd, rfl⟩⟩; (try first | exact ⟨rfl, _, World.drewN_drewN _ _ _⟩ | exact ⟨rfl, _, Eq.trans (World.drewN_drewN _ _ _) (congrArg (World.drewN _) (Nat.add_assoc _ _ _))⟩))); try go_wp2_with (first | ((with_reducible refine gate_dst (N := 5) rfl ?_); refine box_event ?hg (N := 5) ?hd (cs := #[.int .i64 0, .int .i64 0, .int .i64 0]) (t := 80) ?hr ?_; (case hd => rfl); (case hg => rfl); (case hr => first | (go_simp; done) | (go_simp; rfl)); intro gb172 hg w41 hbox hb; have n0_ := Aside0.mk (blk_below (g := gb165) (o := .cells #[.slice A0_0 l0_0.length c0_0, .slice (some ad171) l0_1.length c0_1] 25 (0, 0)) (sqK BK165) hb); have n1_ := Aside0.mk (below_step sqB hb); have n2_ := Aside0.mk (hbox); have n3_ := Aside0.mk ((sqZ hg)); have n4_ := Aside0.mk ((sqZ hg)); have n5_ := Aside0.mk ((sqL hg BK165)); have n6_ := Aside0.mk ((sqG hg BK165)); clear BK165; clear HB; have BK165 := n0_; have HB := n1_; have BK172 := n2_; have GW172 := n3_; have GE172 := n4_; have NB165_172 := n5_; have NB172_165 := n6_; clear n0_ n1_ n2_ n3_ n4_ n5_ n6_; clear hb hbox hg; have hnb42 := NB172_165.out; have hnc42 := NB165_172.out; have hcz43_0 := sqc0 BK172; have hcz43_1 := sqc1 BK172; have hcz43_2 := sqc2 BK172; have hfz43_0 := blk_frozen BK172.out 0; have hfz43_1 := blk_frozen BK172.out 1; have hfz43_2 := blk_frozen BK172.out 2; have hcz44_0 := sqc0 BK165; have hcz44_1 := sqc1 BK165; have hfz44_0 := blk_frozen BK165.out 0; have hfz44_1 := blk_frozen BK165.out 1) | (go_at_call 35; (with_reducible refine (rf_In.calls ((rd_T80 l0_1 x4_2).f0) 0 (l0_0.length : Int) false _ A19.out).mono ?_); rintro e w' ⟨rfl, ⟨nd, rfl⟩⟩; (try first | exact ⟨rfl, _, World.drewN_drewN _ _ _⟩ | exact ⟨rfl, _, Eq.trans (World.drewN_drewN _ _ _) (congrArg (World.drewN _) (Nat.add_assoc _ _ _))⟩))))
           go_ret
           exact ⟨by first | rfl | (simp [errW_none, errW_some] <;> rfl) | (simp [*, errW_none, errW_some] <;> rfl), sqB⟩
         ·rw [if_neg c18] at H
          exact absurd H (by simp)
        ·rw [if_neg c17] at H
         have c17b0 : decide (x4_2 < (l0_1.length : Int)) = false := decide_eq_false c17; clear c17; obtain rfl := Option.some.inj H; have hcz45_0 := sqc0 BK165; have hcz45_1 := sqc1 BK165; have hfz45_0 := blk_frozen BK165.out 0; have hfz45_1 := blk_frozen BK165.out 1
         go_wp2
         repeat (go_quiet (fail); try go_wp2)
         go_ret
         exact ⟨by first | rfl | (simp [errW_none, errW_some] <;> rfl) | (simp [*, errW_none, errW_some] <;> rfl), sqB⟩
 ·replace c3 := Bool.eq_false_iff.mpr c3
  subst c3; rw [if_neg Bool.false_ne_true] at H; obtain rfl := Option.some.inj H
  go_enter Tryd.func22, Tryd.ntmps22
  go_wp2_with (first | ((with_reducible refine gate_dst (N := 1) rfl ?_); refine box_event ?hg (N := 1) ?hd (cs := #[.slice A0_0 l0_0.length c0_0, .slice A0_1 l0_1.length c0_1]) (t := 25) ?hr ?_; (case hd => rfl); (case hg => rfl); (case hr => first | (go_simp; done) | (go_simp; rfl)); intro gb165 hg w46 hbox hb; have n0_ := Aside0.mk (below_step sqB hb); have n1_ := Aside0.mk (hbox); have n2_ := Aside0.mk ((sqZ hg)); have n3_ := Aside0.mk ((sqZ hg)); clear HB; have HB := n0_; have BK165 := n1_; have GW165 := n2_; have GE165 := n3_; clear n0_ n1_ n2_ n3_; clear hb hbox hg; have hcz47_0 := sqc0 BK165; have hcz47_1 := sqc1 BK165; have hfz47_0 := blk_frozen BK165.out 0; have hfz47_1 := blk_frozen BK165.out 1) | (go_at_call 35; (with_reducible refine (rf_In.calls (l0_0.length : Int) 1 5 false _ A2.out).mono ?_); rintro e w' ⟨rfl, ⟨nd, rfl⟩⟩; (try first | exact ⟨rfl, _, World.drewN_drewN _ _ _⟩ | exact ⟨rfl, _, Eq.trans (World.drewN_drewN _ _ _) (congrArg (World.drewN _) (Nat.add_assoc _ _ _))⟩)))
  repeat (go_quiet (first | ((with_reducible refine gate_dst (N := 1) rfl ?_); refine box_event ?hg (N := 1) ?hd (cs := #[.slice A0_0 l0_0.length c0_0, .slice A0_1 l0_1.length c0_1]) (t := 25) ?hr ?_; (case hd => rfl); (case hg => rfl); (case hr => first | (go_simp; done) | (go_simp; rfl)); intro gb165 hg w46 hbox hb; have n0_ := Aside0.mk (below_step sqB hb); have n1_ := Aside0.mk (hbox); have n2_ := Aside0.mk ((sqZ hg)); have n3_ := Aside0.mk ((sqZ hg)); clear HB; have HB := n0_; have BK165 := n1_; have GW165 := n2_; have GE165 := n3_; clear n0_ n1_ n2_ n3_; clear hb hbox hg; have hcz47_0 := sqc0 BK165; have hcz47_1 := sqc1 BK165; have hfz47_0 := blk_frozen BK165.out 0; have hfz47_1 := blk_frozen BK165.out 1) | (go_at_call 35; (with_reducible refine (rf_In.calls (l0_0.length : Int) 1 5 false _ A2.out).mono ?_); rintro e w' ⟨rfl, ⟨nd, rfl⟩⟩; (try first | exact ⟨rfl, _, World.drewN_drewN _ _ _⟩ | exact ⟨rfl, _, Eq.trans (World.drewN_drewN _ _ _) (congrArg (World.drewN _) (Nat.add_assoc _ _ _))⟩))); try go_wp2_with (first | ((with_reducible refine gate_dst (N := 1) rfl ?_); refine box_event ?hg (N := 1) ?hd (cs := #[.slice A0_0 l0_0.length c0_0, .slice A0_1 l0_1.length c0_1]) (t := 25) ?hr ?_; (case hd => rfl); (case hg => rfl); (case hr => first | (go_simp; done) | (go_simp; rfl)); intro gb165 hg w46 hbox hb; have n0_ := Aside0.mk (below_step sqB hb); have n1_ := Aside0.mk (hbox); have n2_ := Aside0.mk ((sqZ hg)); have n3_ := Aside0.mk ((sqZ hg)); clear HB; have HB := n0_; have BK165 := n1_; have GW165 := n2_; have GE165 := n3_; clear n0_ n1_ n2_ n3_; clear hb hbox hg; have hcz47_0 := sqc0 BK165; have hcz47_1 := sqc1 BK165; have hfz47_0 := blk_frozen BK165.out 0; have hfz47_1 := blk_frozen BK165.out 1) | (go_at_call 35; (with_reducible refine (rf_In.calls (l0_0.length : Int) 1 5 false _ A2.out).mono ?_); rintro e w' ⟨rfl, ⟨nd, rfl⟩⟩; (try first | exact ⟨rfl, _, World.drewN_drewN _ _ _⟩ | exact ⟨rfl, _, Eq.trans (World.drewN_drewN _ _ _) (congrArg (World.drewN _) (Nat.add_assoc _ _ _))⟩))))
  go_ret
  exact ⟨by first | rfl | (simp [errW_none, errW_some] <;> rfl) | (simp [*, errW_none, errW_some] <;> rfl), sqB⟩
end Go.Proofs.YtemingmeidmjkaaDoor.Q
namespace Go.Proofs.YtemingmeidmjkaaDoor.Q
open Go.RowKit Go.Proofs.YtemingmeidmjkaaDoorW.PrintWords Go.Proofs.YtemingmeidmjkaaDoorW.PrintLast Go.Proofs.YtemingmeidmjkaaDoorW.PrintMore
attribute [local go_sem] max2_int min2_int max_two min_two max_three min_three max_four min_four   -- for this text's walks alone
set_option linter.unusedVariables false
set_option linter.unusedSimpArgs false
mutual
def rf_Days.l0 : Nat → List (S25) → Int → Option (Int)
 | 0, _, _ => none
 | k + 1, x0, x3 => if x3 < (x0.length : Int) then (if 0 ≤ x3 then ((rf_Check.f k ((rd_T25 x0 x3).f0) ((rd_T25 x0 x3).f1)).bind fun t500 => (if t500 = 0 then (rf_Days.l0 k x0 (wrap64 (x3 + 1))) else (some t500))) else (none)) else (rf_Days.l1 k x0 0)
def rf_Days.l1 : Nat → List (S25) → Int → Option (Int)
 | 0, _, _ => none
 | k + 1, x0, x5 => if x5 < (x0.length : Int) then (if 0 ≤ x5 then (if 0 < (x0.length : Int) then (if (((rd_T25 x0 x5).f0).length : Int) = (((rd_T25 x0 0).f0).length : Int) then (rf_Days.l1 k x0 (wrap64 (x5 + 1))) else (some 3)) else (none)) else (none)) else (some 0)
end
def rf_Days.f (k : Nat) (l0 : List (S25)) : Option (Int) := if (l0.length : Int) > 5 then (some 8) else (rf_Days.l0 k l0 0)
set_option maxHeartbeats 8000000 in
set_option maxRecDepth 100000 in
theorem rf_Days.calls (k : Nat) (A0 : Option Addr) (c0 : Nat) (l0 : List (S25)) (r : Int) (w : World) (hr0 : Kd.C k25 w A0 l0.length l0) (hc0 : l0.length ≤ c0) (h : rf_Days.f k l0 = some r) :
  Calls Tryd.prog 89 #[.slice A0 l0.length c0] w fun e w' => e = .returned (.int .i64 r) ∧ Below w.heap.size w w' := by
 have hu25 := Tryd.underlying25; have HR0 := Aside0.mk hr0; have HC0 := Aside0.mk hc0; clear hr0 hc0; have HB := Aside0.mk (Below.refl w.heap.size w); have H : (if (l0.length : Int) > 5 then (some 8) else (rf_Days.l0 k l0 0)) = some r := h; clear h
 by_cases c2 : (l0.length : Int) > 5
 ·rw [if_pos c2] at H
  have c2b0 : decide (5 < (l0.length : Int)) = true := decide_eq_true c2; have c2b1 : decide (5 < l0.length) = true := decide_eq_true (by omega); clear c2; obtain rfl := Option.some.inj H
  go_enter Tryd.func89, Tryd.ntmps89
  go_wp2
  repeat (go_quiet (fail); try go_wp2)
  go_ret
  exact ⟨by first | rfl | (simp [errW_none, errW_some] <;> rfl) | (simp [*, errW_none, errW_some] <;> rfl), sqB⟩
 ·rw [if_neg c2] at H
  have c2b0 : decide (5 < (l0.length : Int)) = false := decide_eq_false c2; have c2b1 : decide (5 < l0.length) = false := decide_eq_false (by omega); clear c2; have H' := Aside0.mk H; clear H; go_enter Tryd.func89, Tryd.ntmps89
  go_wp2
  repeat (go_quiet (fail); try go_wp2)
  go_loopg [3] k (fun kq v3 w' => ∃ (x3_1 : Int), v3 = .int .i64 x3_1 ∧ Aside0 (rf_Days.l0 kq l0 x3_1 = some r) ∧ Aside0 (kq ≤ k) ∧ Aside0 (Below w.heap.size w w'))
  case atStart => exact ⟨(0), sqE, H', ⟨Nat.le_refl _⟩, ⟨sqB⟩⟩
  case round =>
   clear H'; try clear c2b0
   (try clear c2b1); obtain ⟨x3_1, rfl, HA, HK1, HB⟩ := hrel
   cases gk with
   | zero => exact absurd HA.out (by simp [rf_Days.l0])
   | succ k1 =>
    have H := HA.out; clear HA; simp only [rf_Days.l0] at H
    by_cases c3 : x3_1 < (l0.length : Int)
    ·rw [if_pos c3] at H
     have c3b0 : decide (x3_1 < (l0.length : Int)) = true := decide_eq_true c3; clear c3
     by_cases c4 : 0 ≤ x3_1
     ·rw [if_pos c4] at H
      have c4b0 : decide (0 ≤ x3_1) = true := decide_eq_true c4; clear c4; obtain ⟨t500, A50, H⟩ := Option.bind_eq_some_iff.mp H; have A5 := Aside0.mk A50; clear A50
      by_cases c6 : t500 = 0
      ·rw [if_pos c6] at H
       have c6b0 : (t500 == 0) = true := beq_iff_eq.mpr c6; have c6b1 : (t500 != 0) = false := bne_eq_false_iff_eq.mpr c6; clear c6; have H' := Aside0.mk H; clear H; have p499 : 0 ≤ (x3_1 : Int) := sqD; have q499 : x3_1 < (l0.length : Int) := sqD; obtain ⟨ad499, A499_0, c499_0, A499_1, c499_1, e499, hx499_0, hx499_1, hl499_0, hi499_0, hl499_1, hi499_1⟩ := at_T25 HR0.out x3_1 p499 q499
       cases e499
       replace hx499_0 := (HB.out.cell (World.block_lt_of_cell? w _ hx499_0)).trans hx499_0; replace hx499_1 := (HB.out.cell (World.block_lt_of_cell? w _ hx499_1)).trans hx499_1; have HR499_0 := Aside0.mk hi499_0; have HC499_0 := Aside0.mk hl499_0; clear hi499_0 hl499_0; have HR499_1 := Aside0.mk hi499_1; have HC499_1 := Aside0.mk hl499_1; clear hi499_1 hl499_1; replace p499 := eq_true p499; replace q499 := eq_true q499
       go_wp2_with (first | (go_at_call 22; (with_reducible refine (rf_Check.calls k1 _ _ ((rd_T25 l0 x3_1).f0) _ _ ((rd_T25 l0 x3_1).f1) t500 _ ?side1 ?side2 ?side3 ?side4 A5.out).mono ?_); (case side1 => exact sqQ HR499_0 HB); (case side2 => exact HC499_0.out); (case side3 => exact sqQ HR499_1 HB); (case side4 => exact HC499_1.out); rintro e w7 ⟨rfl, hb⟩; replace HB := sqb hb; (try clear hb); (try clear hb2); (try clear hk); (try clear hi)))
       repeat (go_quiet (first | (go_at_call 22; (with_reducible refine (rf_Check.calls k1 _ _ ((rd_T25 l0 x3_1).f0) _ _ ((rd_T25 l0 x3_1).f1) t500 _ ?side1 ?side2 ?side3 ?side4 A5.out).mono ?_); (case side1 => exact sqQ HR499_0 HB); (case side2 => exact HC499_0.out); (case side3 => exact sqQ HR499_1 HB); (case side4 => exact HC499_1.out); rintro e w7 ⟨rfl, hb⟩; replace HB := sqb hb; (try clear hb); (try clear hb2); (try clear hk); (try clear hi))); try go_wp2_with (first | (go_at_call 22; (with_reducible refine (rf_Check.calls k1 _ _ ((rd_T25 l0 x3_1).f0) _ _ ((rd_T25 l0 x3_1).f1) t500 _ ?side1 ?side2 ?side3 ?side4 A5.out).mono ?_); (case side1 => exact sqQ HR499_0 HB); (case side2 => exact HC499_0.out); (case side3 => exact sqQ HR499_1 HB); (case side4 => exact HC499_1.out); rintro e w7 ⟨rfl, hb⟩; replace HB := sqb hb; (try clear hb); (try clear hb2); (try clear hk); (try clear hi))))
       go_roundg k1
       case measure => have := HK1.out; omega
       case rel => exact ⟨(wrap64 (x3_1 + 1)), sqE, H', ⟨by have := HK1.out; omega⟩, ⟨sqB⟩⟩
      ·rw [if_neg c6] at H
       have c6b0 : (t500 == 0) = false := beq_eq_false_iff_ne.mpr c6; have c6b1 : (t500 != 0) = true := bne_iff_ne.mpr c6; obtain rfl := Option.some.inj H; have p499 : 0 ≤ (x3_1 : Int) := sqD; have q499 : x3_1 < (l0.length : Int) := sqD; obtain ⟨ad499, A499_0, c499_0, A499_1, c499_1, e499, hx499_0, hx499_1, hl499_0, hi499_0, hl499_1, hi499_1⟩ := at_T25 HR0.out x3_1 p499 q499
       cases e499
       replace hx499_0 := (HB.out.cell (World.block_lt_of_cell? w _ hx499_0)).trans hx499_0; replace hx499_1 := (HB.out.cell (World.block_lt_of_cell? w _ hx499_1)).trans hx499_1; have HR499_0 := Aside0.mk hi499_0; have HC499_0 := Aside0.mk hl499_0; clear hi499_0 hl499_0; have HR499_1 := Aside0.mk hi499_1; have HC499_1 := Aside0.mk hl499_1; clear hi499_1 hl499_1; replace p499 := eq_true p499; replace q499 := eq_true q499
       go_wp2_with (first | (go_at_call 22; (with_reducible refine (rf_Check.calls k1 _ _ ((rd_T25 l0 x3_1).f0) _ _ ((rd_T25 l0 x3_1).f1) t500 _ ?side1 ?side2 ?side3 ?side4 A5.out).mono ?_); (case side1 => exact sqQ HR499_0 HB); (case side2 => exact HC499_0.out); (case side3 => exact sqQ HR499_1 HB); (case side4 => exact HC499_1.out); rintro e w8 ⟨rfl, hb⟩; replace HB := sqb hb; (try clear hb); (try clear hb2); (try clear hk); (try clear hi)))
       repeat (go_quiet (first | (go_at_call 22; (with_reducible refine (rf_Check.calls k1 _ _ ((rd_T25 l0 x3_1).f0) _ _ ((rd_T25 l0 x3_1).f1) t500 _ ?side1 ?side2 ?side3 ?side4 A5.out).mono ?_); (case side1 => exact sqQ HR499_0 HB); (case side2 => exact HC499_0.out); (case side3 => exact sqQ HR499_1 HB); (case side4 => exact HC499_1.out); rintro e w8 ⟨rfl, hb⟩; replace HB := sqb hb; (try clear hb); (try clear hb2); (try clear hk); (try clear hi))); try go_wp2_with (first | (go_at_call 22; (with_reducible refine (rf_Check.calls k1 _ _ ((rd_T25 l0 x3_1).f0) _ _ ((rd_T25 l0 x3_1).f1) t500 _ ?side1 ?side2 ?side3 ?side4 A5.out).mono ?_); (case side1 => exact sqQ HR499_0 HB); (case side2 => exact HC499_0.out); (case side3 => exact sqQ HR499_1 HB); (case side4 => exact HC499_1.out); rintro e w8 ⟨rfl, hb⟩; replace HB := sqb hb; (try clear hb); (try clear hb2); (try clear hk); (try clear hi))))
       go_ret
       exact ⟨by first | rfl | (simp [errW_none, errW_some] <;> rfl) | (simp [*, errW_none, errW_some] <;> rfl), sqB⟩
     ·rw [if_neg c4] at H
      exact absurd H (by simp)
    ·rw [if_neg c3] at H
     have c3b0 : decide (x3_1 < (l0.length : Int)) = false := decide_eq_false c3; clear c3; have H' := Aside0.mk H; clear H; go_wp2
     repeat (go_quiet (fail); try go_wp2)
     go_loopg [5] k1 (fun kq v5 w' => ∃ (x5_2 : Int), v5 = .int .i64 x5_2 ∧ Aside0 (rf_Days.l1 kq l0 x5_2 = some r) ∧ Aside0 (kq ≤ k1) ∧ Aside0 (Below w.heap.size w w'))
     case atStart => exact ⟨(0), sqE, H', ⟨Nat.le_refl _⟩, ⟨sqB⟩⟩
     case round =>
      clear H'; try clear c3b0
      obtain ⟨x5_2, rfl, HA, HK2, HB⟩ := hrel
      cases gk with
      | zero => exact absurd HA.out (by simp [rf_Days.l1])
      | succ k2 =>
       have H := HA.out; clear HA; simp only [rf_Days.l1] at H
       by_cases c9 : x5_2 < (l0.length : Int)
       ·rw [if_pos c9] at H
        have c9b0 : decide (x5_2 < (l0.length : Int)) = true := decide_eq_true c9; clear c9
        by_cases c10 : 0 ≤ x5_2
        ·rw [if_pos c10] at H
         have c10b0 : decide (0 ≤ x5_2) = true := decide_eq_true c10; clear c10
         by_cases c11 : 0 < (l0.length : Int)
         ·rw [if_pos c11] at H
          have c11b0 : decide (0 < (l0.length : Int)) = true := decide_eq_true c11; have c11b1 : decide (0 < l0.length) = true := decide_eq_true (by omega); clear c11
          by_cases c12 : (((rd_T25 l0 x5_2).f0).length : Int) = (((rd_T25 l0 0).f0).length : Int)
          ·rw [if_pos c12] at H
           have c12b0 : ((((rd_T25 l0 x5_2).f0).length : Int) == (((rd_T25 l0 0).f0).length : Int)) = true := beq_iff_eq.mpr c12; have c12b1 : ((((rd_T25 l0 x5_2).f0).length : Int) != (((rd_T25 l0 0).f0).length : Int)) = false := bne_eq_false_iff_eq.mpr c12
           have c12b2 : (((rd_T25 l0 x5_2).f0).length == ((rd_T25 l0 0).f0).length) = true := by first | simpa using c12 | (simp at c12 ⊢; omega)
           clear c12; have H' := Aside0.mk H; clear H; have p501 : 0 ≤ (x5_2 : Int) := sqD; have q501 : x5_2 < (l0.length : Int) := sqD; obtain ⟨ad501, A501_0, c501_0, A501_1, c501_1, e501, hx501_0, hx501_1, hl501_0, hi501_0, hl501_1, hi501_1⟩ := at_T25 HR0.out x5_2 p501 q501
           cases e501
           replace hx501_0 := (HB.out.cell (World.block_lt_of_cell? w _ hx501_0)).trans hx501_0; replace hx501_1 := (HB.out.cell (World.block_lt_of_cell? w _ hx501_1)).trans hx501_1; have HR501_0 := Aside0.mk hi501_0; have HC501_0 := Aside0.mk hl501_0; clear hi501_0 hl501_0; have HR501_1 := Aside0.mk hi501_1; have HC501_1 := Aside0.mk hl501_1; clear hi501_1 hl501_1; replace p501 := eq_true p501; replace q501 := eq_true q501; have p502 : 0 ≤ (0 : Int) := (by omega); have q502 : 0 < (l0.length : Int) := sqD; obtain ⟨ad502, A502_0, c502_0, A502_1, c502_1, e502, hx502_0, hx502_1, hl502_0, hi502_0, hl502_1, hi502_1⟩ := at_T25 HR0.out 0 p502 q502; obtain rfl : ad501 = ad502 := (by injection e502); have qi502 : (0 < l0.length) = True := eq_true (by omega)
           (try rw [show ((0 : Int)).toNat = 0 from rfl] at hx502_0)
           (try rw [show 0 * 2 = 0 from rfl] at hx502_0)
           (try rw [Addr.add_zero'] at hx502_0)
           (try rw [show ((0 : Int)).toNat = 0 from rfl] at hx502_1)
           (try rw [show 0 * 2 = 0 from rfl] at hx502_1)
           (try rw [Addr.add_zero'] at hx502_1)
           replace hx502_0 := (HB.out.cell (World.block_lt_of_cell? w _ hx502_0)).trans hx502_0; replace hx502_1 := (HB.out.cell (World.block_lt_of_cell? w _ hx502_1)).trans hx502_1; have HR502_0 := Aside0.mk hi502_0; have HC502_0 := Aside0.mk hl502_0; clear hi502_0 hl502_0; have HR502_1 := Aside0.mk hi502_1; have HC502_1 := Aside0.mk hl502_1; clear hi502_1 hl502_1; replace p502 := eq_true p502; replace q502 := eq_true q502
           go_wp2
           repeat (go_quiet (fail); try go_wp2)
           go_roundg k2
           case measure => have := HK1.out; have := HK2.out; omega
           case rel => exact ⟨(wrap64 (x5_2 + 1)), sqE, H', ⟨by have := HK1.out; have := HK2.out; omega⟩, ⟨sqB⟩⟩
          ·rw [if_neg c12] at H
           have c12b0 : ((((rd_T25 l0 x5_2).f0).length : Int) == (((rd_T25 l0 0).f0).length : Int)) = false := beq_eq_false_iff_ne.mpr c12; have c12b1 : ((((rd_T25 l0 x5_2).f0).length : Int) != (((rd_T25 l0 0).f0).length : Int)) = true := bne_iff_ne.mpr c12
           have c12b2 : (((rd_T25 l0 x5_2).f0).length == ((rd_T25 l0 0).f0).length) = false := by first | simpa using c12 | (simp at c12 ⊢; omega)
           obtain rfl := Option.some.inj H; have p501 : 0 ≤ (x5_2 : Int) := sqD; have q501 : x5_2 < (l0.length : Int) := sqD; obtain ⟨ad501, A501_0, c501_0, A501_1, c501_1, e501, hx501_0, hx501_1, hl501_0, hi501_0, hl501_1, hi501_1⟩ := at_T25 HR0.out x5_2 p501 q501
           cases e501
           replace hx501_0 := (HB.out.cell (World.block_lt_of_cell? w _ hx501_0)).trans hx501_0; replace hx501_1 := (HB.out.cell (World.block_lt_of_cell? w _ hx501_1)).trans hx501_1; have HR501_0 := Aside0.mk hi501_0; have HC501_0 := Aside0.mk hl501_0; clear hi501_0 hl501_0; have HR501_1 := Aside0.mk hi501_1; have HC501_1 := Aside0.mk hl501_1; clear hi501_1 hl501_1; replace p501 := eq_true p501; replace q501 := eq_true q501; have p502 : 0 ≤ (0 : Int) := (by omega); have q502 : 0 < (l0.length : Int) := sqD; obtain ⟨ad502, A502_0, c502_0, A502_1, c502_1, e502, hx502_0, hx502_1, hl502_0, hi502_0, hl502_1, hi502_1⟩ := at_T25 HR0.out 0 p502 q502; obtain rfl : ad501 = ad502 := (by injection e502); have qi502 : (0 < l0.length) = True := eq_true (by omega)
           (try rw [show ((0 : Int)).toNat = 0 from rfl] at hx502_0)
           (try rw [show 0 * 2 = 0 from rfl] at hx502_0)
           (try rw [Addr.add_zero'] at hx502_0)
           (try rw [show ((0 : Int)).toNat = 0 from rfl] at hx502_1)
           (try rw [show 0 * 2 = 0 from rfl] at hx502_1)
           (try rw [Addr.add_zero'] at hx502_1)
           replace hx502_0 := (HB.out.cell (World.block_lt_of_cell? w _ hx502_0)).trans hx502_0; replace hx502_1 := (HB.out.cell (World.block_lt_of_cell? w _ hx502_1)).trans hx502_1; have HR502_0 := Aside0.mk hi502_0; have HC502_0 := Aside0.mk hl502_0; clear hi502_0 hl502_0; have HR502_1 := Aside0.mk hi502_1; have HC502_1 := Aside0.mk hl502_1; clear hi502_1 hl502_1; replace p502 := eq_true p502; replace q502 := eq_true q502
           go_wp2
           repeat (go_quiet (fail); try go_wp2)
           go_ret
           exact ⟨by first | rfl | (simp [errW_none, errW_some] <;> rfl) | (simp [*, errW_none, errW_some] <;> rfl), sqB⟩
         ·rw [if_neg c11] at H
          exact absurd H (by simp)
        ·rw [if_neg c10] at H
         exact absurd H (by simp)
       ·rw [if_neg c9] at H
        have c9b0 : decide (x5_2 < (l0.length : Int)) = false := decide_eq_false c9; clear c9; obtain rfl := Option.some.inj H
        go_wp2
        repeat (go_quiet (fail); try go_wp2)
        go_ret
        exact ⟨by first | rfl | (simp [errW_none, errW_some] <;> rfl) | (simp [*, errW_none, errW_some] <;> rfl), sqB⟩
end Go.Proofs.YtemingmeidmjkaaDoor.Q
namespace Go.Proofs.YtemingmeidmjkaaDoor.Q
open Go.RowKit Go.Proofs.YtemingmeidmjkaaDoorW.PrintWords Go.Proofs.YtemingmeidmjkaaDoorW.PrintLast Go.Proofs.YtemingmeidmjkaaDoorW.PrintMore
attribute [local go_sem] max2_int min2_int max_two min_two max_three min_three max_four min_four   -- for this text's walks alone
set_option linter.unusedVariables false
set_option linter.unusedSimpArgs false
def rf_Has.l0 : Nat → List Int → Int → Int → Option (Bool)
 | 0, _, _, _ => none
 | k + 1, x0, x1, x5 => if x5 < (x0.length : Int) then (if 0 ≤ x5 then (if (rd x0 x5) = x1 then (some true) else (rf_Has.l0 k x0 x1 (wrap64 (x5 + 1)))) else (none)) else (some false)
def rf_Has.f (k : Nat) (l0 : List Int) (a1 : Int) : Option (Bool) := rf_Has.l0 k l0 a1 0
set_option maxHeartbeats 8000000 in
set_option maxRecDepth 100000 in
theorem rf_Has.calls (k : Nat) (A0 : Option Addr) (c0 : Nat) (l0 : List Int) (a1 : Int) (r : Bool) (w : World) (hr0 : Kd.C (Kd.int .i64) w A0 l0.length l0) (hc0 : l0.length ≤ c0) (h : rf_Has.f k l0 a1 = some r) :
  Calls Tryd.prog 90 #[.slice A0 l0.length c0, .int .i64 a1] w fun e w' => e = .returned (.bool r) ∧ Drawn0 w w' := by
 have HR0 := Aside0.mk hr0; have HC0 := Aside0.mk hc0; clear hr0 hc0; have H : (rf_Has.l0 k l0 a1 0) = some r := h; clear h; have H' := Aside0.mk H; clear H; go_enter Tryd.func90, Tryd.ntmps90
 go_wp2
 go_loopg [5] k (fun kq v5 w' => ∃ (x5_1 : Int), v5 = .int .i64 x5_1 ∧ Aside0 (rf_Has.l0 kq l0 a1 x5_1 = some r) ∧ Aside0 (kq ≤ k) ∧ Drawn0 w w')
 case atStart => exact ⟨(0), sqE, H', ⟨Nat.le_refl _⟩, by repeat (first | exact Drawn0.refl _ | apply Drawn0.step)⟩
 case round =>
  clear H'; obtain ⟨x5_1, rfl, HA, HK1, ⟨m1, rfl⟩⟩ := hrel
  cases gk with
  | zero => exact absurd HA.out (by simp [rf_Has.l0])
  | succ k1 =>
   have H := HA.out; clear HA; simp only [rf_Has.l0] at H
   by_cases c3 : x5_1 < (l0.length : Int)
   ·rw [if_pos c3] at H
    have c3b0 : decide (x5_1 < (l0.length : Int)) = true := decide_eq_true c3; clear c3
    by_cases c4 : 0 ≤ x5_1
    ·rw [if_pos c4] at H
     have c4b0 : decide (0 ≤ x5_1) = true := decide_eq_true c4; clear c4
     by_cases c5 : (rd l0 x5_1) = a1
     ·rw [if_pos c5] at H
      have c5b0 : ((rd l0 x5_1) == a1) = true := beq_iff_eq.mpr c5; have c5b1 : ((rd l0 x5_1) != a1) = false := bne_eq_false_iff_eq.mpr c5; clear c5; obtain rfl := Option.some.inj H; have p503 : 0 ≤ (x5_1 : Int) := sqD; have q503 : x5_1 < (l0.length : Int) := sqD; obtain ⟨ad503, e503, hx503_0⟩ := Kd.at_int HR0.out x5_1 p503 q503
      cases e503
      replace p503 := eq_true p503; replace q503 := eq_true q503
      go_wp2
      go_ret
      exact ⟨by first | rfl | (simp; done) | (simp [*]; done), by repeat (first | exact Drawn0.refl _ | apply Drawn0.step)⟩
     ·rw [if_neg c5] at H
      have c5b0 : ((rd l0 x5_1) == a1) = false := beq_eq_false_iff_ne.mpr c5; have c5b1 : ((rd l0 x5_1) != a1) = true := bne_iff_ne.mpr c5; have H' := Aside0.mk H; clear H; have p503 : 0 ≤ (x5_1 : Int) := sqD; have q503 : x5_1 < (l0.length : Int) := sqD; obtain ⟨ad503, e503, hx503_0⟩ := Kd.at_int HR0.out x5_1 p503 q503
      cases e503
      replace p503 := eq_true p503; replace q503 := eq_true q503
      go_wp2
      go_roundg k1
      case measure => have := HK1.out; omega
      case rel => exact ⟨(wrap64 (x5_1 + 1)), sqE, H', ⟨by have := HK1.out; omega⟩, by repeat (first | exact Drawn0.refl _ | apply Drawn0.step)⟩
    ·rw [if_neg c4] at H
     exact absurd H (by simp)
   ·rw [if_neg c3] at H
    have c3b0 : decide (x5_1 < (l0.length : Int)) = false := decide_eq_false c3; clear c3; obtain rfl := Option.some.inj H
    go_wp2
    go_ret
    exact ⟨by first | rfl | (simp; done) | (simp [*]; done), by repeat (first | exact Drawn0.refl _ | apply Drawn0.step)⟩
end Go.Proofs.YtemingmeidmjkaaDoor.Q
namespace Go.Proofs.YtemingmeidmjkaaDoor.Q
open Go.RowKit Go.Proofs.YtemingmeidmjkaaDoorW.PrintWords Go.Proofs.YtemingmeidmjkaaDoorW.PrintLast Go.Proofs.YtemingmeidmjkaaDoorW.PrintMore
attribute [local go_sem] max2_int min2_int max_two min_two max_three min_three max_four min_four   -- for this text's walks alone
set_option linter.unusedVariables false
set_option linter.unusedSimpArgs false
mutual
def rf_Common.j1 : Nat → List (S25) → List Int → Bool → Option (List Int × Int)
 | 0, _, _, _ => none
 | k + 1, x0, x5, x6 => rf_Common.l1 k x0 x5 x6 0
def rf_Common.l1 : Nat → List (S25) → List Int → Bool → Int → Option (List Int × Int)
 | 0, _, _, _, _ => none
 | k + 1, x0, x5, x6, x8 => if x8 < (x0.length : Int) then (if 0 ≤ x8 then ((rf_Sets.f k ((rd_T25 x0 x8).f0) ((rd_T25 x0 x8).f1) (-1)).bind fun t513 => ((rf_Is.f k t513).bind fun t516 => (if t516 = true then (rf_Common.l1 k x0 x5 x6 (wrap64 (x8 + 1))) else ((rf_Where.f k ((rd_T25 x0 x8).f0) ((rd_T25 x0 x8).f1)).bind fun t518 => (rf_Common.l2 k x0 x5 true x8 t518 (([] : List Int)) 0))))) else (none)) else (if x6 = true then (if (x5.length : Int) = 0 then (some (([] : List Int), 9)) else (some (x5, 0))) else (some (([] : List Int), 6)))
def rf_Common.l2 : Nat → List (S25) → List Int → Bool → Int → List Int → List Int → Int → Option (List Int × Int)
 | 0, _, _, _, _, _, _, _ => none
 | k + 1, x0, x5, x6, x8, x9, x10, x11 => if x11 < (x5.length : Int) then (if 0 ≤ x11 then ((rf_Has.f k x9 (rd x5 x11)).bind fun t525 => (if t525 = true then (if x10.length < 17592186044416 then (rf_Common.l2 k x0 x5 x6 x8 x9 (x10 ++ [rd x5 x11]) (wrap64 (x11 + 1))) else (none)) else (rf_Common.l2 k x0 x5 x6 x8 x9 x10 (wrap64 (x11 + 1))))) else (none)) else (rf_Common.l1 k x0 x10 x6 (wrap64 (x8 + 1)))
def rf_Common.l0 : Nat → List (S25) → List Int → Bool → Int → Option (List Int × Int)
 | 0, _, _, _, _ => none
 | k + 1, x0, x5, x6, x7 => if (x0.length : Int) > 0 then (if 0 < (x0.length : Int) then (if x7 < (((rd_T25 x0 0).f0).length : Int) then (if x5.length < 17592186044416 then (rf_Common.l0 k x0 (x5 ++ [x7]) x6 (wrap64 (x7 + 1))) else (none)) else (rf_Common.j1 k x0 x5 x6)) else (none)) else (rf_Common.j1 k x0 x5 x6)
end
def rf_Common.f (k : Nat) (l0 : List (S25)) : Option (List Int × Int) := (rf_Days.f k l0).bind fun t504 => (if t504 = 0 then (rf_Common.l0 k l0 (([] : List Int)) false 0) else (some (([] : List Int), t504)))
set_option maxHeartbeats 8000000 in
set_option maxRecDepth 100000 in
theorem rf_Common.calls (k : Nat) (A0 : Option Addr) (c0 : Nat) (l0 : List (S25)) (r1 : List Int) (r2 : Int) (w : World) (hr0 : Kd.C k25 w A0 l0.length l0) (hc0 : l0.length ≤ c0) (h : rf_Common.f k l0 = some (r1, r2)) :
  Calls Tryd.prog 42 #[.slice A0 l0.length c0] w fun e w' => ∃ v0_ : Value, e = .returned (.tuple #[v0_, .int .i64 r2]) ∧ Kd.R (Kd.int .i64) 3 w' w.heap.size (fun _ => True) v0_ r1 ∧ Below w.heap.size w w' := by
 have hu25 := Tryd.underlying25; have HR0 := Aside0.mk hr0; have HC0 := Aside0.mk hc0; clear hr0 hc0; have HB := Aside0.mk (Below.refl w.heap.size w); have H : ((rf_Days.f k l0).bind fun t504 => (if t504 = 0 then (rf_Common.l0 k l0 (([] : List Int)) false 0) else (some (([] : List Int), t504)))) = some (r1, r2) := h; clear h; obtain ⟨t504, A20, H⟩ := Option.bind_eq_some_iff.mp H; have A2 := Aside0.mk A20; clear A20
 by_cases c3 : t504 = 0
 ·rw [if_pos c3] at H
  have c3b0 : (t504 == 0) = true := beq_iff_eq.mpr c3; have c3b1 : (t504 != 0) = false := bne_eq_false_iff_eq.mpr c3; clear c3; replace H : ∃ y_ : List Int, y_ = (([] : List Int)) ∧ (rf_Common.l0 k l0 y_ false 0) = some (r1, r2) := ⟨_, rfl, sqJ H⟩; obtain ⟨y505, hy505, H⟩ := H; have Ny505 := Aside0.mk hy505; clear hy505; have HC4 := Aside0.mk H; clear H; go_enter Tryd.func42, Tryd.ntmps42
  go_upto_block 0 with (first | ((with_reducible refine gate_callee (f := 89) rfl ?_); refine goesL_ (some 13) rfl rfl Tryd.func89 sqF rfl #[.slice A0 l0.length c0] rfl sqM ?_; (with_reducible refine (rf_Days.calls k _ _ l0 t504 _ ?side1 ?side2 A2.out).mono ?_); (case side1 => repeat (first | exact HR0.out | (with_reducible refine Kd.C_alloc ?_ _) | (with_reducible refine Kd.C_drewN ?_ _) | (with_reducible refine Kd.C_drew ?_))); (case side2 => exact HC0.out); rintro e w5 ⟨rfl, hb⟩; refine ⟨_, rfl, ?_⟩; replace HB := sqb hb; (try clear hb); (try clear hb2); (try clear hk); (try clear hi)) | ((with_reducible refine gate_dst (N := 17) rfl ?_); (try (refine gate_guard (by rfl) ?_; dsimp only)); refine Kd.R_lit (Kd.int .i64) _ 3 ?hg (N := 17) ?hd (xs := ([] : List Int)) (inner := []) (ok := fun _ => True) (okp := fun _ => True) ?hr ?hp (fun _ hk => hk) trivial (Below.refl _ _) (Nat.le_refl _) (by simp) ?_; (case hd => rfl); (case hg => rfl); (case hr => first | (go_simp; done) | (go_simp; rfl)); (case hp => exact (Reps.none _ _)); intro v506 w6 ho7 hb hg_ hnew_; clear hg_ hnew_; (first | rw [← Ny505.out] at ho7 | (simp only [Int.reduceToNat] at ho7; rw [← Ny505.out] at ho7)); have HO507 := Aside0.mk (Kd.R_lower ho7 (below_size sqB)); replace HB := sqb hb; clear hb ho7))
  (try simp only [Act.put, sqA])
  go_cut [5] (fun v5 wc => ∃ (kq : Nat) (x5_3 : List Int), Aside0 (rf_Common.j1 kq l0 x5_3 false = some (r1, r2)) ∧ Aside0 (kq ≤ k) ∧ Aside0 (Kd.R (Kd.int .i64) 3 wc w.heap.size (fun _ => True) v5 x5_3) ∧ Aside0 (Below w.heap.size w wc))
  case first =>
   have H := HC4.out; clear HC4; have H' := Aside0.mk H; clear H; go_wp2
   go_loopg [5, 7] k (fun kq v5 v7 w' => ∃ (x5_1 : List Int) (x7_1 : Int), v7 = .int .i64 x7_1 ∧ Aside0 (rf_Common.l0 kq l0 x5_1 false x7_1 = some (r1, r2)) ∧ Aside0 (kq ≤ k) ∧ Aside0 (Kd.R (Kd.int .i64) 3 w' w.heap.size (fun _ => True) v5 x5_1) ∧ Aside0 (Below w.heap.size w w'))
   case atStart => exact ⟨(y505), (0), sqE, H', ⟨Nat.le_refl _⟩, ⟨sqR HO507⟩, ⟨sqB⟩⟩
   case round =>
    clear H'; try clear c3b0
    (try clear c3b1); obtain ⟨x5_1, x7_1, rfl, HA, HK1, HO_5, HB⟩ := hrel
    cases gk with
    | zero => exact absurd HA.out (by simp [rf_Common.l0])
    | succ k1 =>
     have H := HA.out; clear HA; simp only [rf_Common.l0] at H
     by_cases c8 : (l0.length : Int) > 0
     ·rw [if_pos c8] at H
      have c8b0 : decide (0 < (l0.length : Int)) = true := decide_eq_true c8; have c8b1 : decide (0 < l0.length) = true := decide_eq_true (by omega); clear c8
      (first | rw [c8b0] | (simp only [i64_w, i32_w]; rw [c8b0]) | skip)
      by_cases c9 : 0 < (l0.length : Int)
      ·rw [if_pos c9] at H
       have c9b0 : decide (0 < (l0.length : Int)) = true := decide_eq_true c9; have c9b1 : decide (0 < l0.length) = true := decide_eq_true (by omega); clear c9
       by_cases c10 : x7_1 < (((rd_T25 l0 0).f0).length : Int)
       ·rw [if_pos c10] at H
        have c10b0 : decide (x7_1 < (((rd_T25 l0 0).f0).length : Int)) = true := decide_eq_true c10; clear c10
        by_cases c11 : x5_1.length < 17592186044416
        ·rw [if_pos c11] at H
         have LMc11 := Aside0.mk c11; clear c11; replace H : ∃ y_ : List Int, y_ = (x5_1 ++ [x7_1]) ∧ (rf_Common.l0 k1 l0 y_ false (wrap64 (x7_1 + 1))) = some (r1, r2) := ⟨_, rfl, sqJ H⟩; obtain ⟨y509, hy509, H⟩ := H; have Ny509 := Aside0.mk hy509; clear hy509; have H' := Aside0.mk H; clear H; have p508 : 0 ≤ (0 : Int) := (by omega); have q508 : 0 < (l0.length : Int) := sqD; obtain ⟨ad508, A508_0, c508_0, A508_1, c508_1, e508, hx508_0, hx508_1, hl508_0, hi508_0, hl508_1, hi508_1⟩ := at_T25 HR0.out 0 p508 q508
         cases e508
         have qi508 : (0 < l0.length) = True := eq_true (by omega)
         (try rw [show ((0 : Int)).toNat = 0 from rfl] at hx508_0)
         (try rw [show 0 * 2 = 0 from rfl] at hx508_0)
         (try rw [Addr.add_zero'] at hx508_0)
         (try rw [show ((0 : Int)).toNat = 0 from rfl] at hx508_1)
         (try rw [show 0 * 2 = 0 from rfl] at hx508_1)
         (try rw [Addr.add_zero'] at hx508_1)
         replace hx508_0 := (HB.out.cell (World.block_lt_of_cell? w _ hx508_0)).trans hx508_0; replace hx508_1 := (HB.out.cell (World.block_lt_of_cell? w _ hx508_1)).trans hx508_1; have HR508_0 := Aside0.mk hi508_0; have HC508_0 := Aside0.mk hl508_0; clear hi508_0 hl508_0; have HR508_1 := Aside0.mk hi508_1; have HC508_1 := Aside0.mk hl508_1; clear hi508_1 hl508_1; replace p508 := eq_true p508; replace q508 := eq_true q508
         go_wp2_with (first | ((with_reducible refine gate_builtin (b := .append) (xs := #[.tmp 32, .tmp 34]) rfl ?_); (try (refine gate_guard (by rfl) ?_; dsimp only)); at_builtin; refine Kd.R_append (Kd.int .i64) (w0 := w) w.heap.size rfl (.tmp 32) (.tmp 34) 45 3 (.int .i64 0) 8 rfl Tryd.underlying45 info3 rfl (by decide) (by omega) u5 x5_1 x7_1 [.int .i64 x7_1] (fun _ => True) (fun _ => False) rfl rfl ?aP (fun _ hk => hk.elim) ?aF ?aO ?aB ?aS ?aL ?_; (case aP => exact rfl); (case aB => exact sqB); (case aF => exact (fun _ _ => trivial)); (case aO => exact (sqR HO_5)); (case aS => exact (below_size sqB)); (case aL => have := LMc11.out; omega); intro v510 w12 ho hb hg hat; rw [← Ny509.out] at ho; replace HB := Aside0.mk (hb); have HO511 := Aside0.mk (ho); clear HO_5; clear ho hb hg hat))
         go_roundg k1
         case measure => have := HK1.out; omega
         case rel => exact ⟨(y509), (wrap64 (x7_1 + 1)), sqE, H', ⟨by have := HK1.out; omega⟩, ⟨sqR HO511⟩, ⟨sqB⟩⟩
        ·rw [if_neg c11] at H
         exact absurd H (by simp)
       ·rw [if_neg c10] at H
        have c10b0 : decide (x7_1 < (((rd_T25 l0 0).f0).length : Int)) = false := decide_eq_false c10; clear c10; have H' := Aside0.mk H; clear H; have p508 : 0 ≤ (0 : Int) := (by omega); have q508 : 0 < (l0.length : Int) := sqD; obtain ⟨ad508, A508_0, c508_0, A508_1, c508_1, e508, hx508_0, hx508_1, hl508_0, hi508_0, hl508_1, hi508_1⟩ := at_T25 HR0.out 0 p508 q508
        cases e508
        have qi508 : (0 < l0.length) = True := eq_true (by omega)
        (try rw [show ((0 : Int)).toNat = 0 from rfl] at hx508_0)
        (try rw [show 0 * 2 = 0 from rfl] at hx508_0)
        (try rw [Addr.add_zero'] at hx508_0)
        (try rw [show ((0 : Int)).toNat = 0 from rfl] at hx508_1)
        (try rw [show 0 * 2 = 0 from rfl] at hx508_1)
        (try rw [Addr.add_zero'] at hx508_1)
        replace hx508_0 := (HB.out.cell (World.block_lt_of_cell? w _ hx508_0)).trans hx508_0; replace hx508_1 := (HB.out.cell (World.block_lt_of_cell? w _ hx508_1)).trans hx508_1; have HR508_0 := Aside0.mk hi508_0; have HC508_0 := Aside0.mk hl508_0; clear hi508_0 hl508_0; have HR508_1 := Aside0.mk hi508_1; have HC508_1 := Aside0.mk hl508_1; clear hi508_1 hl508_1; replace p508 := eq_true p508; replace q508 := eq_true q508
        go_wp2
        go_meet
        case rel => exact ⟨_, (x5_1), H', ⟨by have := HK1.out; first | omega | exact Nat.le_refl _⟩, ⟨sqR HO_5⟩, ⟨sqB⟩⟩
      ·rw [if_neg c9] at H
       exact absurd H (by simp)
     ·rw [if_neg c8] at H
      have c8b0 : decide (0 < (l0.length : Int)) = false := decide_eq_false c8; have c8b1 : decide (0 < l0.length) = false := decide_eq_false (by omega); clear c8
      (first | rw [c8b0] | (simp only [i64_w, i32_w]; rw [c8b0]) | skip)
      have H' := Aside0.mk H; clear H; go_wp2
      go_meet
      case rel => exact ⟨_, (x5_1), H', ⟨by have := HK1.out; first | omega | exact Nat.le_refl _⟩, ⟨sqR HO_5⟩, ⟨sqB⟩⟩
  case rest =>
   clear HC4; try clear c3b0
   (try clear c3b1); obtain ⟨kq, x5_3, HA, HJ3, HO_5, HB⟩ := hcut
   cases kq with
   | zero => exact absurd HA.out (by simp [rf_Common.j1])
   | succ kj3 =>
    have H := HA.out; clear HA; simp only [rf_Common.j1] at H; have H' := Aside0.mk H; clear H; go_wp2
    go_loopg [5, 6, 8] kj3 (fun kq v5 v6 v8 w' => ∃ (x5_2 : List Int) (x6_2 : Bool) (x8_2 : Int), v6 = .bool x6_2 ∧ v8 = .int .i64 x8_2 ∧ Aside0 (rf_Common.l1 kq l0 x5_2 x6_2 x8_2 = some (r1, r2)) ∧ Aside0 (kq ≤ kj3) ∧ Aside0 (Kd.R (Kd.int .i64) 3 w' w.heap.size (fun _ => True) v5 x5_2) ∧ Aside0 (Below w.heap.size w w'))
    case atStart => exact ⟨(x5_3), (false), (0), sqE, sqE, H', ⟨Nat.le_refl _⟩, ⟨sqR HO_5⟩, ⟨sqB⟩⟩
    case round =>
     clear H'; obtain ⟨x5_2, x6_2, x8_2, rfl, rfl, HA, HK2, HO_5, HB⟩ := hrel
     cases gk with
     | zero => exact absurd HA.out (by simp [rf_Common.l1])
     | succ k2 =>
      have H := HA.out; clear HA; simp only [rf_Common.l1] at H
      by_cases c13 : x8_2 < (l0.length : Int)
      ·rw [if_pos c13] at H
       have c13b0 : decide (x8_2 < (l0.length : Int)) = true := decide_eq_true c13; clear c13
       by_cases c14 : 0 ≤ x8_2
       ·rw [if_pos c14] at H
        have c14b0 : decide (0 ≤ x8_2) = true := decide_eq_true c14; clear c14; obtain ⟨t513, A150, H⟩ := Option.bind_eq_some_iff.mp H; have A15 := Aside0.mk A150; clear A150; obtain ⟨t516, A160, H⟩ := Option.bind_eq_some_iff.mp H; have A16 := Aside0.mk A160; clear A160
        by_cases c17 : t516 = true
        ·subst c17
         rw [if_pos rfl] at H; have H' := Aside0.mk H; clear H; have p512 : 0 ≤ (x8_2 : Int) := sqD; have q512 : x8_2 < (l0.length : Int) := sqD; obtain ⟨ad512, A512_0, c512_0, A512_1, c512_1, e512, hx512_0, hx512_1, hl512_0, hi512_0, hl512_1, hi512_1⟩ := at_T25 HR0.out x8_2 p512 q512
         cases e512
         replace hx512_0 := (HB.out.cell (World.block_lt_of_cell? w _ hx512_0)).trans hx512_0; replace hx512_1 := (HB.out.cell (World.block_lt_of_cell? w _ hx512_1)).trans hx512_1; have HR512_0 := Aside0.mk hi512_0; have HC512_0 := Aside0.mk hl512_0; clear hi512_0 hl512_0; have HR512_1 := Aside0.mk hi512_1; have HC512_1 := Aside0.mk hl512_1; clear hi512_1 hl512_1; replace p512 := eq_true p512; replace q512 := eq_true q512
         go_wp2_with (first | ((with_reducible refine gate_callee (f := 24) rfl ?_); refine goesL_ (some 46) rfl rfl Tryd.func24 sqF rfl #[.agg #[.slice A512_0 ((rd_T25 l0 x8_2).f0).length c512_0, .slice A512_1 ((rd_T25 l0 x8_2).f1).length c512_1], .int .i64 (-1)] rfl sqM ?_; (with_reducible refine (rf_Sets.calls k2 _ _ ((rd_T25 l0 x8_2).f0) _ _ ((rd_T25 l0 x8_2).f1) (-1) t513 _ ?side1 ?side2 ?side3 ?side4 A15.out).mono ?_); (case side1 => exact sqQ HR512_0 HB); (case side2 => exact HC512_0.out); (case side3 => exact sqQ HR512_1 HB); (case side4 => exact HC512_1.out); rintro e w18 ⟨v514, rfl, ho0, hb⟩; refine ⟨_, rfl, ?_⟩; replace HO_5 := Aside0.mk (Kd.R_below (sqR HO_5) hb); have HO515 := Aside0.mk (Kd.S_lower ho0 (below_size sqB)); replace HB := sqb hb; (try clear hb); (try clear hb2); (try clear hk); (try clear hi); (try clear ho0); obtain ⟨Ao19, co19, eo19⟩ := Kd.S_slice HO515.out; subst eo19) | ((with_reducible refine gate_callee (f := 25) rfl ?_); refine goesL_ (some 47) rfl rfl Tryd.func25 sqF rfl #[.slice Ao19 t513.length co19] rfl sqM ?_; (with_reducible refine (rf_Is.calls k2 _ _ t513 true _ ?side1 ?side2 A16.out).mono ?_); (case side1 => repeat (first | exact (Kd.S_reads' HO515.out).2.2 | (with_reducible refine Kd.C_alloc ?_ _) | (with_reducible refine Kd.C_drewN ?_ _) | (with_reducible refine Kd.C_drew ?_))); (case side2 => exact (Kd.S_reads' HO515.out).2.1); rintro e w20 ⟨rfl, hb⟩; refine ⟨_, rfl, ?_⟩; replace HO_5 := Aside0.mk (Kd.R_below (sqR HO_5) hb); replace HO515 := Aside0.mk (Kd.S_below (sqS HO515) hb); replace HB := sqb hb; (try clear hb); (try clear hb2); (try clear hk); (try clear hi)))
         go_roundg k2
         case measure => have := HJ3.out; have := HK2.out; omega
         case rel => exact ⟨(x5_2), (x6_2), (wrap64 (x8_2 + 1)), sqE, sqE, H', ⟨by have := HJ3.out; have := HK2.out; omega⟩, ⟨sqR HO_5⟩, ⟨sqB⟩⟩
        ·replace c17 := Bool.eq_false_iff.mpr c17
         subst c17; rw [if_neg Bool.false_ne_true] at H; obtain ⟨t518, A210, H⟩ := Option.bind_eq_some_iff.mp H; have A21 := Aside0.mk A210; clear A210; replace H : ∃ y_ : List Int, y_ = (([] : List Int)) ∧ (rf_Common.l2 k2 l0 x5_2 true x8_2 t518 y_ 0) = some (r1, r2) := ⟨_, rfl, sqJ H⟩; obtain ⟨y521, hy521, H⟩ := H; have Ny521 := Aside0.mk hy521; clear hy521; have H' := Aside0.mk H; clear H; have p512 : 0 ≤ (x8_2 : Int) := sqD; have q512 : x8_2 < (l0.length : Int) := sqD; obtain ⟨ad512, A512_0, c512_0, A512_1, c512_1, e512, hx512_0, hx512_1, hl512_0, hi512_0, hl512_1, hi512_1⟩ := at_T25 HR0.out x8_2 p512 q512
         cases e512
         replace hx512_0 := (HB.out.cell (World.block_lt_of_cell? w _ hx512_0)).trans hx512_0; replace hx512_1 := (HB.out.cell (World.block_lt_of_cell? w _ hx512_1)).trans hx512_1; have HR512_0 := Aside0.mk hi512_0; have HC512_0 := Aside0.mk hl512_0; clear hi512_0 hl512_0; have HR512_1 := Aside0.mk hi512_1; have HC512_1 := Aside0.mk hl512_1; clear hi512_1 hl512_1; replace p512 := eq_true p512; replace q512 := eq_true q512
         go_wp2_with (first | ((with_reducible refine gate_callee (f := 24) rfl ?_); refine goesL_ (some 46) rfl rfl Tryd.func24 sqF rfl #[.agg #[.slice A512_0 ((rd_T25 l0 x8_2).f0).length c512_0, .slice A512_1 ((rd_T25 l0 x8_2).f1).length c512_1], .int .i64 (-1)] rfl sqM ?_; (with_reducible refine (rf_Sets.calls k2 _ _ ((rd_T25 l0 x8_2).f0) _ _ ((rd_T25 l0 x8_2).f1) (-1) t513 _ ?side1 ?side2 ?side3 ?side4 A15.out).mono ?_); (case side1 => exact sqQ HR512_0 HB); (case side2 => exact HC512_0.out); (case side3 => exact sqQ HR512_1 HB); (case side4 => exact HC512_1.out); rintro e w22 ⟨v514, rfl, ho0, hb⟩; refine ⟨_, rfl, ?_⟩; replace HO_5 := Aside0.mk (Kd.R_below (sqR HO_5) hb); have HO515 := Aside0.mk (Kd.S_lower ho0 (below_size sqB)); replace HB := sqb hb; (try clear hb); (try clear hb2); (try clear hk); (try clear hi); (try clear ho0); obtain ⟨Ao23, co23, eo23⟩ := Kd.S_slice HO515.out; subst eo23) | ((with_reducible refine gate_callee (f := 25) rfl ?_); refine goesL_ (some 47) rfl rfl Tryd.func25 sqF rfl #[.slice Ao23 t513.length co23] rfl sqM ?_; (with_reducible refine (rf_Is.calls k2 _ _ t513 false _ ?side1 ?side2 A16.out).mono ?_); (case side1 => repeat (first | exact (Kd.S_reads' HO515.out).2.2 | (with_reducible refine Kd.C_alloc ?_ _) | (with_reducible refine Kd.C_drewN ?_ _) | (with_reducible refine Kd.C_drew ?_))); (case side2 => exact (Kd.S_reads' HO515.out).2.1); rintro e w24 ⟨rfl, hb⟩; refine ⟨_, rfl, ?_⟩; replace HO_5 := Aside0.mk (Kd.R_below (sqR HO_5) hb); replace HO515 := Aside0.mk (Kd.S_below (sqS HO515) hb); replace HB := sqb hb; (try clear hb); (try clear hb2); (try clear hk); (try clear hi); have p517 : 0 ≤ (x8_2 : Int) := sqD; have q517 : x8_2 < (l0.length : Int) := sqD; obtain ⟨ad517, A517_0, c517_0, A517_1, c517_1, e517, hx517_0, hx517_1, hl517_0, hi517_0, hl517_1, hi517_1⟩ := at_T25 HR0.out x8_2 p517 q517; obtain rfl : ad512 = ad517 := (by injection e517); replace hx517_0 := (HB.out.cell (World.block_lt_of_cell? w _ hx517_0)).trans hx517_0; replace hx517_1 := (HB.out.cell (World.block_lt_of_cell? w _ hx517_1)).trans hx517_1; have HR517_0 := Aside0.mk hi517_0; have HC517_0 := Aside0.mk hl517_0; clear hi517_0 hl517_0; have HR517_1 := Aside0.mk hi517_1; have HC517_1 := Aside0.mk hl517_1; clear hi517_1 hl517_1; replace p517 := eq_true p517; replace q517 := eq_true q517) | ((with_reducible refine gate_callee (f := 73) rfl ?_); refine goesL_ (some 52) rfl rfl Tryd.func73 sqF rfl #[.agg #[.slice A517_0 ((rd_T25 l0 x8_2).f0).length c517_0, .slice A517_1 ((rd_T25 l0 x8_2).f1).length c517_1]] rfl sqM ?_; (with_reducible refine (rf_Where.calls k2 _ _ ((rd_T25 l0 x8_2).f0) _ _ ((rd_T25 l0 x8_2).f1) t518 _ ?side1 ?side2 ?side3 ?side4 A21.out).mono ?_); (case side1 => exact sqQ HR517_0 HB); (case side2 => exact HC517_0.out); (case side3 => exact sqQ HR517_1 HB); (case side4 => exact HC517_1.out); rintro e w25 ⟨v519, rfl, ho0, hb⟩; refine ⟨_, rfl, ?_⟩; replace HO515 := Aside0.mk (Kd.S_below (sqS HO515) hb); have HO520 := Aside0.mk (Kd.R_lower (Kd.R_new' ho0 (Kd.R_lt (sqR HO_5))) (below_size sqB)); replace HO_5 := Aside0.mk (Kd.R_elder' (sqR HO_5) (Kd.R_base ho0) hb); replace HB := sqb hb; (try clear hb); (try clear hb2); (try clear hk); (try clear hi); (try clear ho0)) | ((with_reducible refine gate_dst (N := 53) rfl ?_); (try (refine gate_guard (by rfl) ?_; dsimp only)); refine Kd.R_lit (Kd.int .i64) _ 3 ?hg (N := 53) ?hd (xs := ([] : List Int)) (inner := []) (ok := fun _ => True) (okp := fun _ => True) ?hr ?hp (fun _ hk => hk) trivial (Below.refl _ _) (Nat.le_refl _) (by simp) ?_; (case hd => rfl); (case hg => rfl); (case hr => first | (go_simp; done) | (go_simp; rfl)); (case hp => exact (Reps.none _ _)); intro v522 w26 ho27 hb hg_ hnew_; clear hg_ hnew_; (first | rw [← Ny521.out] at ho27 | (simp only [Int.reduceToNat] at ho27; rw [← Ny521.out] at ho27)); replace HO515 := Aside0.mk (Kd.S_below (sqS HO515) hb); have HO523 := Aside0.mk (Kd.R_lower (Kd.R_new' (Kd.R_new' ho27 (Kd.R_lt (sqR HO_5))) (Kd.R_lt (sqR HO520))) (below_size sqB)); replace HO_5 := Aside0.mk (Kd.R_elder' (sqR HO_5) (Kd.R_base ho27) hb); replace HO520 := Aside0.mk (Kd.R_elder' (sqR HO520) (Kd.R_base ho27) hb); replace HB := sqb hb; clear hb ho27))
         go_loopg [10, 11] k2 (fun kq v10 v11 w' => ∃ (x10_3 : List Int) (x11_3 : Int), v11 = .int .i64 x11_3 ∧ Aside0 (rf_Common.l2 kq l0 x5_2 true x8_2 t518 x10_3 x11_3 = some (r1, r2)) ∧ Aside0 (kq ≤ k2) ∧ Aside0 (Kd.R (Kd.int .i64) 3 w' w.heap.size (fun k_ => some k_ ≠ (v519 : Value).ownBlock ∧ some k_ ≠ (v10 : Value).ownBlock) u5 x5_2) ∧ Aside0 (Kd.R (Kd.int .i64) 3 w' w.heap.size (fun k_ => some k_ ≠ (u5 : Value).ownBlock ∧ some k_ ≠ (v10 : Value).ownBlock) v519 t518) ∧ Aside0 (Kd.R (Kd.int .i64) 3 w' w.heap.size (fun k_ => some k_ ≠ (u5 : Value).ownBlock ∧ some k_ ≠ (v519 : Value).ownBlock) v10 x10_3) ∧ Aside0 (Below w.heap.size w w'))
         case atStart => exact ⟨(y521), (0), sqE, H', ⟨Nat.le_refl _⟩, ⟨by (with_reducible repeat (first | apply Kd.R_alloc | apply Kd.R_drewN | apply Kd.R_drew)); exact Kd.R_mono HO_5.out (fun _ hk => ⟨hk.1.2, hk.2⟩)⟩, ⟨by (with_reducible repeat (first | apply Kd.R_alloc | apply Kd.R_drewN | apply Kd.R_drew)); exact Kd.R_mono HO520.out (fun _ hk => ⟨hk.1.2, hk.2⟩)⟩, ⟨by (with_reducible repeat (first | apply Kd.R_alloc | apply Kd.R_drewN | apply Kd.R_drew)); exact Kd.R_mono HO523.out (fun _ hk => ⟨hk.1.2, hk.2⟩)⟩, ⟨sqB⟩⟩
         case round =>
          clear H'; try clear c13b0
          (try clear c14b0); (try clear c17); (try clear hx512_0); (try clear hx512_1); (try clear hx517_0); (try clear hx517_1); (try clear p512); (try clear p517); (try clear q512); (try clear q517); obtain ⟨x10_3, x11_3, rfl, HA, HK3, HO_5, HO_9, HO_10, HB⟩ := hrel
          cases gk with
          | zero => exact absurd HA.out (by simp [rf_Common.l2])
          | succ k3 =>
           have H := HA.out; clear HA; simp only [rf_Common.l2] at H
           by_cases c28 : x11_3 < (x5_2.length : Int)
           ·rw [if_pos c28] at H
            have c28b0 : decide (x11_3 < (x5_2.length : Int)) = true := decide_eq_true c28; clear c28
            by_cases c29 : 0 ≤ x11_3
            ·rw [if_pos c29] at H
             have c29b0 : decide (0 ≤ x11_3) = true := decide_eq_true c29; clear c29; obtain ⟨t525, A300, H⟩ := Option.bind_eq_some_iff.mp H; have A30 := Aside0.mk A300; clear A300
             by_cases c31 : t525 = true
             ·subst c31
              rw [if_pos rfl] at H
              by_cases c32 : x10_3.length < 17592186044416
              ·rw [if_pos c32] at H
               have LMc32 := Aside0.mk c32; clear c32; replace H : ∃ y_ : List Int, y_ = (x10_3 ++ [rd x5_2 x11_3]) ∧ (rf_Common.l2 k3 l0 x5_2 true x8_2 t518 y_ (wrap64 (x11_3 + 1))) = some (r1, r2) := ⟨_, rfl, sqJ H⟩; obtain ⟨y527, hy527, H⟩ := H; have Ny527 := Aside0.mk hy527; clear hy527; have H' := Aside0.mk H; clear H; obtain ⟨Ao33, co33, eo33⟩ := Kd.R_slice HO_5.out; subst eo33; have p524 : 0 ≤ (x11_3 : Int) := sqD; have q524 : x11_3 < (x5_2.length : Int) := sqD; obtain ⟨ad524, e524, hx524_0⟩ := Kd.at_int (Kd.R_reads' HO_5.out).2.2 x11_3 p524 q524
               cases e524
               replace p524 := eq_true p524; replace q524 := eq_true q524; obtain ⟨Ao34, co34, eo34⟩ := Kd.R_slice HO_9.out; subst eo34
               go_wp2_with (first | ((with_reducible refine gate_callee (f := 90) rfl ?_); refine goesL_ (some 65) rfl rfl Tryd.func90 sqF rfl #[.slice Ao34 t518.length co34, .int .i64 (rd x5_2 x11_3)] rfl sqM ?_; (with_reducible refine (rf_Has.calls k3 _ _ t518 (rd x5_2 x11_3) true _ ?side1 ?side2 A30.out).mono ?_); (case side1 => repeat (first | exact (Kd.R_reads' HO_9.out).2.2 | (with_reducible refine Kd.C_alloc ?_ _) | (with_reducible refine Kd.C_drewN ?_ _) | (with_reducible refine Kd.C_drew ?_))); (case side2 => exact (Kd.R_reads' HO_9.out).2.1); rintro e w' ⟨rfl, ⟨nd, rfl⟩⟩; refine ⟨_, rfl, ?_⟩; have p526 : 0 ≤ (x11_3 : Int) := sqD; have q526 : x11_3 < (x5_2.length : Int) := sqD; obtain ⟨ad526, e526, hx526_0⟩ := Kd.at_int (Kd.R_reads' HO_5.out).2.2 x11_3 p526 q526; obtain rfl : ad524 = ad526 := (by injection e526); replace p526 := eq_true p526; replace q526 := eq_true q526) | ((with_reducible refine gate_builtin (b := .append) (xs := #[.tmp 66, .tmp 71]) rfl ?_); (try (refine gate_guard (by rfl) ?_; dsimp only)); at_builtin; refine Kd.R_append (Kd.int .i64) (w0 := w) w.heap.size rfl (.tmp 66) (.tmp 71) 45 3 (.int .i64 0) 8 rfl Tryd.underlying45 info3 rfl (by decide) (by omega) u10 x10_3 (rd x5_2 x11_3) [.int .i64 (rd x5_2 x11_3)] (fun k_ => some k_ ≠ (.slice (some ad524) x5_2.length co33 : Value).ownBlock ∧ some k_ ≠ (.slice Ao34 t518.length co34 : Value).ownBlock) (fun _ => False) rfl rfl ?aP (fun _ hk => hk.elim) ?aF ?aO ?aB ?aS ?aL ?_; (case aP => exact rfl); (case aB => exact sqB); (case aF => exact (fun k_ hk => ⟨Kd.fresh' (Kd.R_lt (sqR HO_5)) k_ hk, Kd.fresh' (Kd.R_lt (sqR HO_9)) k_ hk⟩)); (case aO => exact (sqR HO_10)); (case aS => exact (below_size sqB)); (case aL => have := LMc32.out; omega); intro v528 w35 ho hb hg hat; rw [← Ny527.out] at ho; replace HO_5 := Aside0.mk (Kd.R_after (ok := (fun k_ => some k_ ≠ (.slice Ao34 t518.length co34 : Value).ownBlock)) (sqR HO_5) hg hat); replace HO_9 := Aside0.mk (Kd.R_after (ok := (fun k_ => some k_ ≠ (.slice (some ad524) x5_2.length co33 : Value).ownBlock)) (sqR HO_9) hg hat); replace HB := Aside0.mk (hb); have HO529 := Aside0.mk (ho); clear HO_10; clear ho hb hg hat))
               go_roundg k3
               case measure => have := HJ3.out; have := HK2.out; have := HK3.out; omega
               case rel => exact ⟨(y527), (wrap64 (x11_3 + 1)), sqE, H', ⟨by have := HJ3.out; have := HK2.out; have := HK3.out; omega⟩, ⟨sqR HO_5⟩, ⟨sqR HO_9⟩, ⟨sqR HO529⟩, ⟨sqB⟩⟩
              ·rw [if_neg c32] at H
               exact absurd H (by simp)
             ·replace c31 := Bool.eq_false_iff.mpr c31
              subst c31; rw [if_neg Bool.false_ne_true] at H; have H' := Aside0.mk H; clear H; obtain ⟨Ao36, co36, eo36⟩ := Kd.R_slice HO_5.out; subst eo36; have p524 : 0 ≤ (x11_3 : Int) := sqD; have q524 : x11_3 < (x5_2.length : Int) := sqD; obtain ⟨ad524, e524, hx524_0⟩ := Kd.at_int (Kd.R_reads' HO_5.out).2.2 x11_3 p524 q524
              cases e524
              replace p524 := eq_true p524; replace q524 := eq_true q524; obtain ⟨Ao37, co37, eo37⟩ := Kd.R_slice HO_9.out; subst eo37
              go_wp2_with (first | ((with_reducible refine gate_callee (f := 90) rfl ?_); refine goesL_ (some 65) rfl rfl Tryd.func90 sqF rfl #[.slice Ao37 t518.length co37, .int .i64 (rd x5_2 x11_3)] rfl sqM ?_; (with_reducible refine (rf_Has.calls k3 _ _ t518 (rd x5_2 x11_3) false _ ?side1 ?side2 A30.out).mono ?_); (case side1 => repeat (first | exact (Kd.R_reads' HO_9.out).2.2 | (with_reducible refine Kd.C_alloc ?_ _) | (with_reducible refine Kd.C_drewN ?_ _) | (with_reducible refine Kd.C_drew ?_))); (case side2 => exact (Kd.R_reads' HO_9.out).2.1); rintro e w' ⟨rfl, ⟨nd, rfl⟩⟩; refine ⟨_, rfl, ?_⟩))
              go_roundg k3
              case measure => have := HJ3.out; have := HK2.out; have := HK3.out; omega
              case rel => exact ⟨(x10_3), (wrap64 (x11_3 + 1)), sqE, H', ⟨by have := HJ3.out; have := HK2.out; have := HK3.out; omega⟩, ⟨sqR HO_5⟩, ⟨sqR HO_9⟩, ⟨sqR HO_10⟩, ⟨sqB⟩⟩
            ·rw [if_neg c29] at H
             exact absurd H (by simp)
           ·rw [if_neg c28] at H
            have c28b0 : decide (x11_3 < (x5_2.length : Int)) = false := decide_eq_false c28; clear c28; have H' := Aside0.mk H; clear H; obtain ⟨Ao38, co38, eo38⟩ := Kd.R_slice HO_5.out; subst eo38
            go_wp2
            go_roundg k3
            case measure => have := HJ3.out; have := HK2.out; have := HK3.out; omega
            case rel => exact ⟨(x10_3), (true), (wrap64 (x8_2 + 1)), sqE, sqE, H', ⟨by have := HJ3.out; have := HK2.out; have := HK3.out; omega⟩, ⟨by (with_reducible repeat (first | apply Kd.R_alloc | apply Kd.R_drewN | apply Kd.R_drew)); exact Kd.R_mono HO_10.out (fun _ hk => trivial)⟩, ⟨sqB⟩⟩
       ·rw [if_neg c14] at H
        exact absurd H (by simp)
      ·rw [if_neg c13] at H
       have c13b0 : decide (x8_2 < (l0.length : Int)) = false := decide_eq_false c13; clear c13
       by_cases c39 : x6_2 = true
       ·subst c39
        rw [if_pos rfl] at H
        by_cases c40 : (x5_2.length : Int) = 0
        ·rw [if_pos c40] at H
         have c40b0 : ((x5_2.length : Int) == 0) = true := beq_iff_eq.mpr c40; have c40b1 : ((x5_2.length : Int) != 0) = false := bne_eq_false_iff_eq.mpr c40; clear c40; simp only [Option.some.injEq, Prod.mk.injEq] at H; obtain ⟨rfl, rfl⟩ := H; obtain ⟨Ao41, co41, eo41⟩ := Kd.R_slice HO_5.out; subst eo41
         go_wp2
         go_ret2
         exact ⟨_, by first | rfl | (simp [errW_none, errW_some] <;> rfl) | (simp [*, errW_none, errW_some] <;> rfl), by first | exact Kd.R_nil _ _ _ _ _ | exact Kd.N_nil _ _ _ _ _ | exact Kd.V_nil _ _ _ _ _ | exact Kd.Q_nil _ _ _ _ _ | exact Kd.S_nil _ _ _ _ _, sqB⟩
        ·rw [if_neg c40] at H
         have c40b0 : ((x5_2.length : Int) == 0) = false := beq_eq_false_iff_ne.mpr c40; have c40b1 : ((x5_2.length : Int) != 0) = true := bne_iff_ne.mpr c40
         have c40b2 : ¬ (x5_2 = []) := fun h_ => c40 (by rw [h_]; rfl)
         simp only [Option.some.injEq, Prod.mk.injEq] at H; obtain ⟨rfl, rfl⟩ := H; obtain ⟨Ao42, co42, eo42⟩ := Kd.R_slice HO_5.out; subst eo42
         go_wp2
         go_ret2
         exact ⟨_, by first | rfl | (simp [errW_none, errW_some] <;> rfl) | (simp [*, errW_none, errW_some] <;> rfl), by (with_reducible repeat (first | apply Kd.R_alloc | apply Kd.R_drewN | apply Kd.R_drew)); exact HO_5.out, sqB⟩
       ·replace c39 := Bool.eq_false_iff.mpr c39
        subst c39; rw [if_neg Bool.false_ne_true] at H; simp only [Option.some.injEq, Prod.mk.injEq] at H; obtain ⟨rfl, rfl⟩ := H
        go_wp2
        go_ret2
        exact ⟨_, by first | rfl | (simp [errW_none, errW_some] <;> rfl) | (simp [*, errW_none, errW_some] <;> rfl), by first | exact Kd.R_nil _ _ _ _ _ | exact Kd.N_nil _ _ _ _ _ | exact Kd.V_nil _ _ _ _ _ | exact Kd.Q_nil _ _ _ _ _ | exact Kd.S_nil _ _ _ _ _, sqB⟩
 ·rw [if_neg c3] at H
  have c3b0 : (t504 == 0) = false := beq_eq_false_iff_ne.mpr c3; have c3b1 : (t504 != 0) = true := bne_iff_ne.mpr c3; simp only [Option.some.injEq, Prod.mk.injEq] at H; obtain ⟨rfl, rfl⟩ := H
  go_enter Tryd.func42, Tryd.ntmps42
  go_wp2_with (first | ((with_reducible refine gate_callee (f := 89) rfl ?_); refine goesL_ (some 13) rfl rfl Tryd.func89 sqF rfl #[.slice A0 l0.length c0] rfl sqM ?_; (with_reducible refine (rf_Days.calls k _ _ l0 t504 _ ?side1 ?side2 A2.out).mono ?_); (case side1 => repeat (first | exact HR0.out | (with_reducible refine Kd.C_alloc ?_ _) | (with_reducible refine Kd.C_drewN ?_ _) | (with_reducible refine Kd.C_drew ?_))); (case side2 => exact HC0.out); rintro e w43 ⟨rfl, hb⟩; refine ⟨_, rfl, ?_⟩; replace HB := sqb hb; (try clear hb); (try clear hb2); (try clear hk); (try clear hi)))
  go_ret2
  exact ⟨_, by first | rfl | (simp [errW_none, errW_some] <;> rfl) | (simp [*, errW_none, errW_some] <;> rfl), by first | exact Kd.R_nil _ _ _ _ _ | exact Kd.N_nil _ _ _ _ _ | exact Kd.V_nil _ _ _ _ _ | exact Kd.Q_nil _ _ _ _ _ | exact Kd.S_nil _ _ _ _ _, sqB⟩
end Go.Proofs.YtemingmeidmjkaaDoor.Q
namespace Go.Proofs.YtemingmeidmjkaaDoor.Q
open Go.RowKit Go.Proofs.YtemingmeidmjkaaDoorW.PrintWords Go.Proofs.YtemingmeidmjkaaDoorW.PrintLast Go.Proofs.YtemingmeidmjkaaDoorW.PrintMore
attribute [local go_sem] max2_int min2_int max_two min_two max_three min_three max_four min_four   -- for this text's walks alone
set_option linter.unusedVariables false
set_option linter.unusedSimpArgs false
mutual
def lw_WoolCommons.l0 : Nat → List (S25) → List (S25) → Int → Option (Bool)
 | 0, _, _, _ => none
 | k + 1, x0, x3, x4 => if x4 < (x0.length : Int) then (if 0 ≤ x4 then ((lw_long.f ((rd_T25 x0 x4).f0) ((rd_T25 x0 x4).f1)).bind fun t535 => (if t535 = true then ((lw_known.f).bind fun t536 => (some t536)) else ((rf_Copy.f ((rd_T25 x0 x4).f0) ((rd_T25 x0 x4).f1)).bind fun bt538 => (if x3.length < 2932031007402 then (lw_WoolCommons.l0 k x0 (x3 ++ [(⟨bt538.1, bt538.2⟩ : S25)]) (wrap64 (x4 + 1))) else (none))))) else (none)) else ((wool_Common.f x3).bind fun bt547 => (lw_WoolCommons.l1 k x0 x3 bt547.1 bt547.2 0))
def lw_WoolCommons.l1 : Nat → List (S25) → List (S25) → List Int → Int → Int → Option (Bool)
 | 0, _, _, _, _, _ => none
 | k + 1, x0, x3, x5, x6, x7 => if x7 < (x0.length : Int) then (if 0 ≤ x7 then (if x7 < (x3.length : Int) then ((rf_Same.f k ((rd_T25 x3 x7).f0) ((rd_T25 x3 x7).f1) ((rd_T25 x0 x7).f0) ((rd_T25 x0 x7).f1)).bind fun t553 => (if t553 = true then (lw_WoolCommons.l1 k x0 x3 x5 x6 (wrap64 (x7 + 1))) else (some false))) else (none)) else (none)) else ((rf_Common.f k x0).bind fun bt554 => (if bt554.2 = 0 then (if x6 = 0 then ((rf_Ints.f k x5 bt554.1).bind fun t558 => (if t558 = true then ((lw_known.f).bind fun t559 => (some t559)) else (some false))) else (some false)) else (if x6 = bt554.2 then (if (x5.length : Int) = 0 then ((lw_known.f).bind fun t560 => (some t560)) else (some false)) else (some false))))
end
def lw_WoolCommons.f (k : Nat) (l0 : List (S25)) : Option (Bool) := if (l0.length : Int) > 10 then ((lw_known.f).bind fun t530 => (some t530)) else (lw_WoolCommons.l0 k l0 (([] : List (S25))) 0)
def lw_WoolCommons.T14 : Bool × List (List Nat × List Nat) := (true, [([], []), ([], []), ([0, 1], [0, 1]), ([2], [2]), ([], []), ([], []), ([4, 5], [4, 5]), ([6], [6]), ([3, 7], [3, 7]), ([8], [8])])
def lw_WoolCommons.B14 : List Nat := [0, 0, 3, 7, 0, 0, 48, 112, 255, 511]
theorem lw_WoolCommons.tab14 : rtab .any (opsOf Tryd.f8 14) = lw_WoolCommons.T14 := by kernel_rfl
theorem lw_WoolCommons.bits14 : waitsOk lw_WoolCommons.T14.2 lw_WoolCommons.B14 = true := by kernel_rfl
set_option maxHeartbeats 8000000 in
set_option maxRecDepth 100000 in
theorem lw_WoolCommons.calls (k : Nat) (A0 : Option Addr) (c0 : Nat) (l0 : List (S25)) (r : Bool) (w : World) (hG : GL w) (hr0 : Kd.C k25 w A0 l0.length l0) (hc0 : l0.length ≤ c0) (h : lw_WoolCommons.f k l0 = some r) :
  Calls Tryd.prog 8 #[.slice A0 l0.length c0] w fun e w' => e = .returned (.bool r) ∧ Below w.heap.size w w' := by
 have hu25 := Tryd.underlying25; have HR0 := Aside0.mk hr0; have HC0 := Aside0.mk hc0; clear hr0 hc0; have HB := Aside0.mk (Below.refl w.heap.size w); have HGL := Aside0.mk hG; clear hG; have H : (if (l0.length : Int) > 10 then ((lw_known.f).bind fun t530 => (some t530)) else (lw_WoolCommons.l0 k l0 (([] : List (S25))) 0)) = some r := h; clear h
 by_cases c2 : (l0.length : Int) > 10
 ·rw [if_pos c2] at H
  have c2b0 : decide (10 < (l0.length : Int)) = true := decide_eq_true c2; have c2b1 : decide (10 < l0.length) = true := decide_eq_true (by omega); clear c2; obtain ⟨t530, A30, H⟩ := Option.bind_eq_some_iff.mp H; have A3 := Aside0.mk A30; clear A30; obtain rfl := Option.some.inj H
  go_enter Tryd.func8, Tryd.ntmps8
  go_wp2_with (first | ((with_reducible refine gate_callee (f := 17) rfl ?_); refine goesL_ (some 13) rfl rfl Tryd.func17 sqF rfl #[] rfl sqM ?_; (with_reducible refine (lw_known.calls t530 _ ?sideG A3.out).mono ?_); (case sideG => exact sqQ HGL HB); rintro e w4 ⟨rfl, hb⟩; refine ⟨_, rfl, ?_⟩; replace HB := sqb hb; (try clear hb); (try clear hb2); (try clear hk); (try clear hi)))
  go_ret
  exact ⟨by first | rfl | (simp [errW_none, errW_some] <;> rfl) | (simp [*, errW_none, errW_some] <;> rfl), sqB⟩
 ·rw [if_neg c2] at H
  have c2b0 : decide (10 < (l0.length : Int)) = false := decide_eq_false c2; have c2b1 : decide (10 < l0.length) = false := decide_eq_false (by omega); clear c2; replace H : ∃ y_ : List (S25), y_ = (([] : List (S25))) ∧ (lw_WoolCommons.l0 k l0 y_ 0) = some r := ⟨_, rfl, sqJ H⟩; obtain ⟨y531, hy531, H⟩ := H; have Ny531 := Aside0.mk hy531; clear hy531; have H' := Aside0.mk H; clear H; go_enter Tryd.func8, Tryd.ntmps8
  go_wp2_with (first | ((with_reducible refine gate_dst (N := 14) rfl ?_); (try (refine gate_guard (by rfl) ?_; dsimp only)); refine Kd.S_lit k25 _ 25 ?hg (N := 14) ?hd (xs := ([] : List (S25))) (inner := []) (ok := fun _ => True) (okp := fun _ => True) ?hr ?hp (fun _ hk => hk) trivial (Below.refl _ _) (Nat.le_refl _) (by simp) ?_; (case hd => rfl); (case hg => rfl); (case hr => first | (go_simp; done) | (go_simp; rfl)); (case hp => exact (Reps.none _ _)); intro v532 w5 ho6 hb hg_ hnew_; clear hg_ hnew_; (first | rw [← Ny531.out] at ho6 | (simp only [Int.reduceToNat] at ho6; rw [← Ny531.out] at ho6)); have HO533 := Aside0.mk (Kd.S_lower ho6 (below_size sqB)); replace HB := sqb hb; clear hb ho6))
  go_loopg [3, 4] k (fun kq v3 v4 w' => ∃ (x3_1 : List (S25)) (x4_1 : Int), v4 = .int .i64 x4_1 ∧ Aside0 (lw_WoolCommons.l0 kq l0 x3_1 x4_1 = some r) ∧ Aside0 (kq ≤ k) ∧ Aside0 (Kd.S k25 25 w' w.heap.size (fun _ => True) v3 x3_1) ∧ Aside0 (Below w.heap.size w w'))
  case atStart => exact ⟨(y531), (0), sqE, H', ⟨Nat.le_refl _⟩, ⟨sqS HO533⟩, ⟨sqB⟩⟩
  case round =>
   clear H'; try clear c2b0
   (try clear c2b1); obtain ⟨x3_1, x4_1, rfl, HA, HK1, HO_3, HB⟩ := hrel
   cases gk with
   | zero => exact absurd HA.out (by simp [lw_WoolCommons.l0])
   | succ k1 =>
    have H := HA.out; clear HA; simp only [lw_WoolCommons.l0] at H
    by_cases c7 : x4_1 < (l0.length : Int)
    ·rw [if_pos c7] at H
     have c7b0 : decide (x4_1 < (l0.length : Int)) = true := decide_eq_true c7; clear c7
     by_cases c8 : 0 ≤ x4_1
     ·rw [if_pos c8] at H
      have c8b0 : decide (0 ≤ x4_1) = true := decide_eq_true c8; clear c8; obtain ⟨t535, A90, H⟩ := Option.bind_eq_some_iff.mp H; have A9 := Aside0.mk A90; clear A90
      by_cases c10 : t535 = true
      ·subst c10
       rw [if_pos rfl] at H; obtain ⟨t536, A110, H⟩ := Option.bind_eq_some_iff.mp H; have A11 := Aside0.mk A110; clear A110; obtain rfl := Option.some.inj H; have p534 : 0 ≤ (x4_1 : Int) := sqD; have q534 : x4_1 < (l0.length : Int) := sqD; obtain ⟨ad534, A534_0, c534_0, A534_1, c534_1, e534, hx534_0, hx534_1, hl534_0, hi534_0, hl534_1, hi534_1⟩ := at_T25 HR0.out x4_1 p534 q534
       cases e534
       replace hx534_0 := (HB.out.cell (World.block_lt_of_cell? w _ hx534_0)).trans hx534_0; replace hx534_1 := (HB.out.cell (World.block_lt_of_cell? w _ hx534_1)).trans hx534_1; have HR534_0 := Aside0.mk hi534_0; have HC534_0 := Aside0.mk hl534_0; clear hi534_0 hl534_0; have HR534_1 := Aside0.mk hi534_1; have HC534_1 := Aside0.mk hl534_1; clear hi534_1 hl534_1; replace p534 := eq_true p534; replace q534 := eq_true q534
       go_wp2_with (first | ((with_reducible refine gate_callee (f := 16) rfl ?_); refine goesL_ (some 25) rfl rfl Tryd.func16 sqF rfl #[.agg #[.slice A534_0 ((rd_T25 l0 x4_1).f0).length c534_0, .slice A534_1 ((rd_T25 l0 x4_1).f1).length c534_1]] rfl sqM ?_; (with_reducible refine (lw_long.calls _ _ ((rd_T25 l0 x4_1).f0) _ _ ((rd_T25 l0 x4_1).f1) true _ ?side1 ?side2 ?side3 ?side4 A9.out).mono ?_); (case side1 => exact sqQ HR534_0 HB); (case side2 => exact HC534_0.out); (case side3 => exact sqQ HR534_1 HB); (case side4 => exact HC534_1.out); rintro e w12 ⟨rfl, hb⟩; refine ⟨_, rfl, ?_⟩; replace HO_3 := Aside0.mk (Kd.S_below (sqS HO_3) hb); replace HB := sqb hb; (try clear hb); (try clear hb2); (try clear hk); (try clear hi)) | ((with_reducible refine gate_callee (f := 17) rfl ?_); refine goesL_ (some 26) rfl rfl Tryd.func17 sqF rfl #[] rfl sqM ?_; (with_reducible refine (lw_known.calls t536 _ ?sideG A11.out).mono ?_); (case sideG => exact sqQ HGL HB); rintro e w13 ⟨rfl, hb⟩; refine ⟨_, rfl, ?_⟩; replace HO_3 := Aside0.mk (Kd.S_below (sqS HO_3) hb); replace HB := sqb hb; (try clear hb); (try clear hb2); (try clear hk); (try clear hi)))
       go_ret
       exact ⟨by first | rfl | (simp [errW_none, errW_some] <;> rfl) | (simp [*, errW_none, errW_some] <;> rfl), sqB⟩
      ·replace c10 := Bool.eq_false_iff.mpr c10
       subst c10; rw [if_neg Bool.false_ne_true] at H; obtain ⟨⟨t538, t541⟩, A140, H⟩ := Option.bind_eq_some_iff.mp H; replace H : (if x3_1.length < 2932031007402 then (lw_WoolCommons.l0 k1 l0 (x3_1 ++ [(⟨t538, t541⟩ : S25)]) (wrap64 (x4_1 + 1))) else (none)) = some r := H; have A14 := Aside0.mk A140; clear A140
       by_cases c15 : x3_1.length < 2932031007402
       ·rw [if_pos c15] at H
        have LMc15 := Aside0.mk c15; clear c15; replace H : ∃ y_ : List (S25), y_ = (x3_1 ++ [(⟨t538, t541⟩ : S25)]) ∧ (lw_WoolCommons.l0 k1 l0 y_ (wrap64 (x4_1 + 1))) = some r := ⟨_, rfl, sqJ H⟩; obtain ⟨y544, hy544, H⟩ := H; have Ny544 := Aside0.mk hy544; clear hy544; have H' := Aside0.mk H; clear H; have p534 : 0 ≤ (x4_1 : Int) := sqD; have q534 : x4_1 < (l0.length : Int) := sqD; obtain ⟨ad534, A534_0, c534_0, A534_1, c534_1, e534, hx534_0, hx534_1, hl534_0, hi534_0, hl534_1, hi534_1⟩ := at_T25 HR0.out x4_1 p534 q534
        cases e534
        replace hx534_0 := (HB.out.cell (World.block_lt_of_cell? w _ hx534_0)).trans hx534_0; replace hx534_1 := (HB.out.cell (World.block_lt_of_cell? w _ hx534_1)).trans hx534_1; have HR534_0 := Aside0.mk hi534_0; have HC534_0 := Aside0.mk hl534_0; clear hi534_0 hl534_0; have HR534_1 := Aside0.mk hi534_1; have HC534_1 := Aside0.mk hl534_1; clear hi534_1 hl534_1; replace p534 := eq_true p534; replace q534 := eq_true q534
        go_wp2_with (first | ((with_reducible refine gate_callee (f := 16) rfl ?_); refine goesL_ (some 25) rfl rfl Tryd.func16 sqF rfl #[.agg #[.slice A534_0 ((rd_T25 l0 x4_1).f0).length c534_0, .slice A534_1 ((rd_T25 l0 x4_1).f1).length c534_1]] rfl sqM ?_; (with_reducible refine (lw_long.calls _ _ ((rd_T25 l0 x4_1).f0) _ _ ((rd_T25 l0 x4_1).f1) false _ ?side1 ?side2 ?side3 ?side4 A9.out).mono ?_); (case side1 => exact sqQ HR534_0 HB); (case side2 => exact HC534_0.out); (case side3 => exact sqQ HR534_1 HB); (case side4 => exact HC534_1.out); rintro e w16 ⟨rfl, hb⟩; refine ⟨_, rfl, ?_⟩; replace HO_3 := Aside0.mk (Kd.S_below (sqS HO_3) hb); replace HB := sqb hb; (try clear hb); (try clear hb2); (try clear hk); (try clear hi); have p537 : 0 ≤ (x4_1 : Int) := sqD; have q537 : x4_1 < (l0.length : Int) := sqD; obtain ⟨ad537, A537_0, c537_0, A537_1, c537_1, e537, hx537_0, hx537_1, hl537_0, hi537_0, hl537_1, hi537_1⟩ := at_T25 HR0.out x4_1 p537 q537; obtain rfl : ad534 = ad537 := (by injection e537); replace hx537_0 := (HB.out.cell (World.block_lt_of_cell? w _ hx537_0)).trans hx537_0; replace hx537_1 := (HB.out.cell (World.block_lt_of_cell? w _ hx537_1)).trans hx537_1; have HR537_0 := Aside0.mk hi537_0; have HC537_0 := Aside0.mk hl537_0; clear hi537_0 hl537_0; have HR537_1 := Aside0.mk hi537_1; have HC537_1 := Aside0.mk hl537_1; clear hi537_1 hl537_1; replace p537 := eq_true p537; replace q537 := eq_true q537) | ((with_reducible refine gate_callee (f := 18) rfl ?_); refine goesL_ (some 32) rfl rfl Tryd.func18 sqF rfl #[.agg #[.slice A537_0 ((rd_T25 l0 x4_1).f0).length c537_0, .slice A537_1 ((rd_T25 l0 x4_1).f1).length c537_1]] rfl sqM ?_; (with_reducible refine (rf_Copy.calls _ _ ((rd_T25 l0 x4_1).f0) _ _ ((rd_T25 l0 x4_1).f1) t538 t541 _ ?side1 ?side2 ?side3 ?side4 A14.out).mono ?_); (case side1 => exact sqQ HR537_0 HB); (case side2 => exact HC537_0.out); (case side3 => exact sqQ HR537_1 HB); (case side4 => exact HC537_1.out); rintro e w17 ⟨v539, v542, rfl, ho0, ho1, hb⟩; refine ⟨_, rfl, ?_⟩; replace HO_3 := Aside0.mk (Kd.S_mono (Kd.S_told (Kd.S_told (Kd.S_old (sqS HO_3) hb) (Kd.R_base ho0)) (Kd.R_base ho1)) (fun _ h_ => h_.1)); have HO540 := Aside0.mk (Kd.R_lower ho0 (below_size sqB)); have HO543 := Aside0.mk (Kd.R_lower ho1 (below_size sqB)); replace HB := sqb hb; (try clear hb); (try clear hb2); (try clear hk); (try clear hi); (try clear ho0); (try clear ho1); obtain ⟨Ao19, co19, eo19⟩ := Kd.R_slice HO540.out; subst eo19; obtain ⟨Ao20, co20, eo20⟩ := Kd.R_slice HO543.out; subst eo20) | ((with_reducible refine gate_builtin (b := .append) (xs := #[.tmp 27, .tmp 33]) rfl ?_); (try (refine gate_guard (by rfl) ?_; dsimp only)); at_builtin; refine Kd.S_append k25 (w0 := w) w.heap.size rfl (.tmp 27) (.tmp 33) 58 25 (.agg #[(.slice none 0 0), (.slice none 0 0)]) 48 rfl Tryd.underlying58 info25 rfl (by decide) (by omega) u3 x3_1 (⟨t538, t541⟩ : S25) [.slice Ao19 t538.length co19, .slice Ao20 t541.length co20] (fun _ => True) (fun k_ => some k_ = (.slice Ao19 t538.length co19 : Value).ownBlock ∨ some k_ = (.slice Ao20 t541.length co20 : Value).ownBlock) rfl rfl ?aP (fun k_ hk_ => hk_.elim (fun h_ => ((Kd.R_mono (ok' := fun k_ => ((fun _ => True)) k_ ∧ some k_ ≠ (u3 : Value).ownBlock) (Kd.R_apart' (HO540.out) (Kd.S_typed HO_3.out) (by decide)) (fun k_ hk => ⟨trivial, hk.2⟩))).1 k_ h_.symm) (fun h_ => ((Kd.R_mono (ok' := fun k_ => ((fun _ => True)) k_ ∧ some k_ ≠ (u3 : Value).ownBlock) (Kd.R_apart' (HO543.out) (Kd.S_typed HO_3.out) (by decide)) (fun k_ hk => ⟨trivial, hk.2⟩))).1 k_ h_.symm)) ?aF ?aO ?aB ?aS ?aL ?_; (case aP => exact k25_mkM _ _ _ (⟨t538, t541⟩ : S25) (Kd.R_mono (Kd.R_tight rfl (Kd.R_mono (ok' := fun k_ => ((fun _ => True)) k_ ∧ some k_ ≠ (u3 : Value).ownBlock) (Kd.R_apart' (HO540.out) (Kd.S_typed HO_3.out) (by decide)) (fun k_ hk => ⟨trivial, hk.2⟩))) (fun _ h_ => Or.inl h_)) (Kd.R_mono (Kd.R_tight rfl (Kd.R_mono (ok' := fun k_ => ((fun _ => True)) k_ ∧ some k_ ≠ (u3 : Value).ownBlock) (Kd.R_apart' (HO543.out) (Kd.S_typed HO_3.out) (by decide)) (fun k_ hk => ⟨trivial, hk.2⟩))) (fun _ h_ => Or.inr (h_)))); (case aB => exact sqB); (case aF => exact (fun _ _ => trivial)); (case aO => exact (by (with_reducible repeat (first | apply Kd.S_alloc | apply Kd.S_drewN | apply Kd.S_drew)); exact Kd.S_mono HO_3.out (fun k_ hk => ⟨trivial, fun e_ => e_.elim (fun h_ => hk.1.2 h_) (fun h_ => hk.2 h_)⟩))); (case aS => exact (below_size sqB)); (case aL => have := LMc15.out; omega); intro v545 w18 ho hb hg hat; rw [← Ny544.out] at ho; replace HB := Aside0.mk (hb); have HO546 := Aside0.mk (ho); clear HO_3 HO540 HO543; clear ho hb hg hat))
        go_roundg k1
        case measure => have := HK1.out; omega
        case rel => exact ⟨(y544), (wrap64 (x4_1 + 1)), sqE, H', ⟨by have := HK1.out; omega⟩, ⟨sqS HO546⟩, ⟨sqB⟩⟩
       ·rw [if_neg c15] at H
        exact absurd H (by simp)
     ·rw [if_neg c8] at H
      exact absurd H (by simp)
    ·rw [if_neg c7] at H
     have c7b0 : decide (x4_1 < (l0.length : Int)) = false := decide_eq_false c7; clear c7; obtain ⟨⟨t547, t548⟩, A210, H⟩ := Option.bind_eq_some_iff.mp H; replace H : (lw_WoolCommons.l1 k1 l0 x3_1 t547 t548 0) = some r := H; have A21 := Aside0.mk A210; clear A210; have H' := Aside0.mk H; clear H; obtain ⟨Ao22, co22, eo22⟩ := Kd.S_slice HO_3.out; subst eo22
     go_wp2_with (first | ((with_reducible refine gate_callee (f := 41) rfl ?_); refine goesL_ (some 37) rfl rfl Tryd.func41 sqF rfl #[.slice Ao22 x3_1.length co22] rfl sqM ?_; (with_reducible refine (wool_Common.calls _ _ x3_1 t547 t548 _ ?sideG ?side1 ?side2 A21.out).mono ?_); (case sideG => exact sqQ HGL HB); (case side1 => repeat (first | exact (Kd.S_reads' HO_3.out).2.2 | (with_reducible refine Kd.C_alloc ?_ _) | (with_reducible refine Kd.C_drewN ?_ _) | (with_reducible refine Kd.C_drew ?_))); (case side2 => exact (Kd.S_reads' HO_3.out).2.1); rintro e w23 ⟨v549, rfl, ho0, hb⟩; refine ⟨_, rfl, ?_⟩; replace HO_3 := Aside0.mk (Kd.S_below (sqS HO_3) hb); have HO550 := Aside0.mk (Kd.R_lower ho0 (below_size sqB)); replace HB := sqb hb; (try clear hb); (try clear hb2); (try clear hk); (try clear hi); (try clear ho0)))
     go_loopg [7] k1 (fun kq v7 w' => ∃ (x7_2 : Int), v7 = .int .i64 x7_2 ∧ Aside0 (lw_WoolCommons.l1 kq l0 x3_1 t547 t548 x7_2 = some r) ∧ Aside0 (kq ≤ k1) ∧ Aside0 (Kd.S k25 25 w' w.heap.size (fun _ => True) (.slice Ao22 x3_1.length co22) x3_1) ∧ Aside0 (Kd.R (Kd.int .i64) 3 w' w.heap.size (fun _ => True) v549 t547) ∧ Aside0 (Below w.heap.size w w'))
     case atStart => exact ⟨(0), sqE, H', ⟨Nat.le_refl _⟩, ⟨sqS HO_3⟩, ⟨sqR HO550⟩, ⟨sqB⟩⟩
     case round =>
      clear H'; try clear c7b0
      obtain ⟨x7_2, rfl, HA, HK2, HO_3, HO_5, HB⟩ := hrel
      cases gk with
      | zero => exact absurd HA.out (by simp [lw_WoolCommons.l1])
      | succ k2 =>
       have H := HA.out; clear HA; simp only [lw_WoolCommons.l1] at H
       by_cases c24 : x7_2 < (l0.length : Int)
       ·rw [if_pos c24] at H
        have c24b0 : decide (x7_2 < (l0.length : Int)) = true := decide_eq_true c24; clear c24
        by_cases c25 : 0 ≤ x7_2
        ·rw [if_pos c25] at H
         have c25b0 : decide (0 ≤ x7_2) = true := decide_eq_true c25; clear c25
         by_cases c26 : x7_2 < (x3_1.length : Int)
         ·rw [if_pos c26] at H
          have c26b0 : decide (x7_2 < (x3_1.length : Int)) = true := decide_eq_true c26; clear c26; obtain ⟨t553, A270, H⟩ := Option.bind_eq_some_iff.mp H; have A27 := Aside0.mk A270; clear A270
          by_cases c28 : t553 = true
          ·subst c28
           rw [if_pos rfl] at H; have H' := Aside0.mk H
           clear H; try go_wp2
           have n0_ := Aside0.mk (Kd.S_drew HO_3.out); have n1_ := Aside0.mk (Kd.R_drew HO_5.out); have n2_ := Aside0.mk (below_drew1 HB.out); clear HO_3 HO_5 HB; have HO_3 := n0_; have HO_5 := n1_; have HB := n2_; clear n0_ n1_ n2_; have p551 : 0 ≤ (x7_2 : Int) := sqD; have q551 : x7_2 < (x3_1.length : Int) := sqD; obtain ⟨ad551, A551_0, c551_0, A551_1, c551_1, e551, hx551_0, hx551_1, hl551_0, hi551_0, hl551_1, hi551_1⟩ := at_T25 (Kd.S_reads' HO_3.out).2.2 x7_2 p551 q551
           cases e551
           obtain ⟨ce551, hce551, hMe551, hcc551⟩ := Kd.S_get HO_3.out z25 x7_2 p551 (by first | exact q551 | exact sqD | (have e_ := (Kd.S_reads' HO_3.out).1; omega)); obtain ⟨ve551_0, ve551_1, rfl, ge551_0, ge551_1⟩ := k25_openM hMe551; have hv551_0 := hcc551 0 _ rfl; rw [Nat.add_zero] at hv551_0; replace hv551_0 := Option.some.inj (hv551_0.symm.trans hx551_0); rw [hv551_0] at ge551_0; have HL551_0 := Aside0.mk (show Kd.R k41 41 _ _ _ _ ((rd_T25 x3_1 x7_2).f0) from ge551_0); clear hv551_0 ge551_0; have hv551_1 := hcc551 1 _ rfl; rw [add_field _ _ 1 (by omega)] at hv551_1; replace hv551_1 := Option.some.inj (hv551_1.symm.trans hx551_1); rw [hv551_1] at ge551_1; have HL551_1 := Aside0.mk (show Kd.R k80 80 _ _ _ _ ((rd_T25 x3_1 x7_2).f1) from ge551_1); clear hv551_1 ge551_1 hcc551 hce551; have HR551_0 := Aside0.mk hi551_0; have HC551_0 := Aside0.mk hl551_0; clear hi551_0 hl551_0; have HR551_1 := Aside0.mk hi551_1; have HC551_1 := Aside0.mk hl551_1; clear hi551_1 hl551_1; replace p551 := eq_true p551; replace q551 := eq_true q551; have p552 : 0 ≤ (x7_2 : Int) := sqD; have q552 : x7_2 < (l0.length : Int) := sqD; obtain ⟨ad552, A552_0, c552_0, A552_1, c552_1, e552, hx552_0, hx552_1, hl552_0, hi552_0, hl552_1, hi552_1⟩ := at_T25 HR0.out x7_2 p552 q552; have hw552_1 := hx552_1; have hw552_0 := hx552_0
           cases e552
           replace hx552_0 := (HB.out.cell (World.block_lt_of_cell? w _ hx552_0)).trans hx552_0; replace hx552_1 := (HB.out.cell (World.block_lt_of_cell? w _ hx552_1)).trans hx552_1; have HR552_0 := Aside0.mk hi552_0; have HC552_0 := Aside0.mk hl552_0; clear hi552_0 hl552_0; have HR552_1 := Aside0.mk hi552_1; have HC552_1 := Aside0.mk hl552_1; clear hi552_1 hl552_1; replace p552 := eq_true p552; replace q552 := eq_true q552; refine start_ (n := 10) (S := fun w' => w'.cell? (ad551.add ((x7_2).toNat * 2)) = some (.slice A551_0 ((rd_T25 x3_1 x7_2).f0).length c551_0) ∧ w'.cell? ⟨(ad551.add ((x7_2).toNat * 2)).block, (ad551.add ((x7_2).toNat * 2)).off + 1, none⟩ = some (.slice A551_1 ((rd_T25 x3_1 x7_2).f1).length c551_1) ∧ w'.cell? (ad552.add ((x7_2).toNat * 2)) = some (.slice A552_0 ((rd_T25 l0 x7_2).f0).length c552_0) ∧ w'.cell? ⟨(ad552.add ((x7_2).toNat * 2)).block, (ad552.add ((x7_2).toNat * 2)).off + 1, none⟩ = some (.slice A552_1 ((rd_T25 l0 x7_2).f1).length c552_1)) (ds := []) (bm 10 0) sqF rfl rfl ⟨hx551_0, hx551_1, ((HB.out.cell (World.block_lt_of_cell? w _ hw552_0)).trans hw552_0), ((HB.out.cell (World.block_lt_of_cell? w _ hw552_1)).trans hw552_1)⟩ (fun hHeld => ?_); refine with_tabW lw_WoolCommons.tab14 lw_WoolCommons.bits14 (fun HT_ HW_ => ?_)
           generalize wr.drew = w29 at HO_3 HO_5 HB HL551_0 HL551_1 HR551_0 HR551_1 HR552_0 HR552_1 hx551_0 hx551_1 hx552_0 hx552_1 hHeld ⊢
           refine pure_ (i := 0) (N := some 46) (v := ?_) (a' := ?_) (bm 10 1) rfl rfl (any_of HT_.out sqF) (fun _ _ _ h => h) (Or.inl ⟨by rfl, ?_⟩) ?_ ?_
           rotate_left
           ·intro w'
            go_simp; with_reducible rfl
           rotate_left
           ·simp only [Act.put, sqA, i64_w, i32_w]; rfl
           refine pure_ (i := 1) (N := some 47) (v := ?_) (a' := ?_) (bm 10 3) rfl rfl (any_of HT_.out sqF) (fun _ _ _ h => h) (Or.inl ⟨by rfl, ?_⟩) ?_ ?_
           rotate_left
           ·intro w'
            go_simp; with_reducible rfl
           rotate_left
           ·simp only [Act.put, sqA, i64_w, i32_w]; rfl
           refine pure_ (i := 2) (N := some 48) (v := ?_) (a' := ?_) (bm 10 7) rfl rfl (any_of HT_.out sqF) (fun _ _ _ h => h) (Or.inl ⟨by rfl, ?_⟩) ?_ ?_
           rotate_left
           ·intro w'
            go_simp; with_reducible rfl
           rotate_left
           ·simp only [Act.put, sqA, i64_w, i32_w]; rfl
           refine pure_ (i := 4) (N := some 50) (v := ?_) (a' := ?_) (bm 10 23) rfl rfl (any_of HT_.out sqF) (fun _ _ _ h => h) (Or.inl ⟨by rfl, ?_⟩) ?_ ?_
           rotate_left
           ·intro w'
            go_simp; with_reducible rfl
           rotate_left
           ·simp only [Act.put, sqA, i64_w, i32_w]; rfl
           refine pure_ (i := 5) (N := some 51) (v := ?_) (a' := ?_) (bm 10 55) rfl rfl (any_of HT_.out sqF) (fun _ _ _ h => h) (Or.inl ⟨by rfl, ?_⟩) ?_ ?_
           rotate_left
           ·intro w'
            go_simp; with_reducible rfl
           rotate_left
           ·simp only [Act.put, sqA, i64_w, i32_w]; rfl
           refine pure_ (i := 6) (N := some 52) (v := ?_) (a' := ?_) (bm 10 119) rfl rfl (any_of HT_.out sqF) (fun _ _ _ h => h) (Or.inl ⟨by rfl, ?_⟩) ?_ ?_
           rotate_left
           ·intro w'
            go_simp; with_reducible rfl
           rotate_left
           ·simp only [Act.put, sqA, i64_w, i32_w]; rfl
           refine take_ (i := 3) (N := some 49) (v := ?_) (a' := ?_) (bm 10 127) rfl rfl (take_ofW HT_.out HW_.out sqF) (fun _ _ _ h => h) (Or.inl ⟨by rfl, ?_⟩) hHeld ?_ ?_
           rotate_left
           ·rintro w' ⟨s0, s1, s2, s3⟩
            go_simp; with_reducible rfl
           rotate_left
           ·simp only [Act.put, sqA, i64_w, i32_w]; rfl
           refine take_ (i := 7) (N := some 53) (v := ?_) (a' := ?_) (bm 10 255) rfl rfl (take_ofW HT_.out HW_.out sqF) (fun _ _ _ h => h) (Or.inl ⟨by rfl, ?_⟩) hHeld ?_ ?_
           rotate_left
           ·rintro w' ⟨s0, s1, s2, s3⟩
            go_simp; with_reducible rfl
           rotate_left
           ·simp only [Act.put, sqA, i64_w, i32_w]; rfl
           refine one_ (i := 8) (N := some 54) (bm 10 511) rfl rfl (one_of HT_.out sqF) (by decide) (fun K hK => ?_); refine goes_ Tryd.func23 sqF rfl #[.agg #[.slice A551_0 ((rd_T25 x3_1 x7_2).f0).length c551_0, .slice A551_1 ((rd_T25 x3_1 x7_2).f1).length c551_1], .agg #[.slice A552_0 ((rd_T25 l0 x7_2).f0).length c552_0, .slice A552_1 ((rd_T25 l0 x7_2).f1).length c552_1]] (by rfl) rfl rfl sqM ?_
           with_reducible refine (rf_Same.calls k2 _ _ ((rd_T25 x3_1 x7_2).f0) _ _ ((rd_T25 x3_1 x7_2).f1) _ _ ((rd_T25 l0 x7_2).f0) _ _ ((rd_T25 l0 x7_2).f1) true _ ?side1 ?side2 ?side3 ?side4 ?side5 ?side6 ?side7 ?side8 A27.out).mono ?_
           (case side1 => repeat (first | exact (sqC HR551_0) | (with_reducible refine Kd.C_alloc ?_ _) | (with_reducible refine Kd.C_drewN ?_ _) | (with_reducible refine Kd.C_drew ?_)))
           (case side2 => exact HC551_0.out)
           (case side3 => repeat (first | exact (sqC HR551_1) | (with_reducible refine Kd.C_alloc ?_ _) | (with_reducible refine Kd.C_drewN ?_ _) | (with_reducible refine Kd.C_drew ?_)))
           (case side4 => exact HC551_1.out)
           (case side5 => exact sqQ HR552_0 HB)
           (case side6 => exact HC552_0.out)
           (case side7 => exact sqQ HR552_1 HB)
           (case side8 => exact HC552_1.out)
           rintro e w30 ⟨rfl, hb⟩; have HS0_ := (hb.cell (World.block_lt_of_cell? _ _ (hHeld.1))).trans (hHeld.1); have HS1_ := (hb.cell (World.block_lt_of_cell? _ _ (hHeld.2.1))).trans (hHeld.2.1); refine ⟨_, rfl, ?_⟩; have n0_ := Aside0.mk (Kd.S_below (sqS HO_3) hb); have n1_ := Aside0.mk (Kd.R_below (sqR HO_5) hb); have n2_ := Aside0.mk (Kd.R_below (sqR HL551_0) hb); have n3_ := Aside0.mk (Kd.R_below (sqR HL551_1) hb); have n4_ := Aside0.mk (Kd.C_below (sqC HR551_0) hb); have n5_ := Aside0.mk (Kd.C_below (sqC HR551_1) hb); have n6_ := Aside0.mk (below_step sqB hb); clear HO_3 HO_5 HL551_0 HL551_1 HR551_0 HR551_1 HB; have HO_3 := n0_; have HO_5 := n1_; have HL551_0 := n2_; have HL551_1 := n3_; have HR551_0 := n4_; have HR551_1 := n5_; have HB := n6_; clear n0_ n1_ n2_ n3_ n4_ n5_ n6_; (try clear hb); (try clear hb2); (try clear hk); (try clear hi); refine hK.out _ _ ⟨HS0_, HS1_, ((HB.out.cell (World.block_lt_of_cell? w _ hw552_0)).trans hw552_0), ((HB.out.cell (World.block_lt_of_cell? w _ hw552_1)).trans hw552_1)⟩ (fun hHeld => ?_); clear hK K; refine norm_ (a' := ?_) ?_ ?_
           rotate_left
           ·show Act.put _ (some 54) _ = _
            simp only [Act.put, sqA, i64_w, i32_w]; rfl
           refine pure_ (i := 9) (N := some 55) (v := ?_) (a' := ?_) (bm 10 1023) rfl rfl (any_of HT_.out sqF) (fun _ _ _ h => h) (Or.inl ⟨by rfl, ?_⟩) ?_ ?_
           rotate_left
           ·intro w'
            go_simp; with_reducible rfl
           rotate_left
           ·simp only [Act.put, sqA, i64_w, i32_w]; rfl
           refine done_ (done_of HT_.out sqF) ?_
           try go_wp2
           go_roundg k2
           case measure => have := HK1.out; have := HK2.out; omega
           case rel => exact ⟨(wrap64 (x7_2 + 1)), sqE, H', ⟨by have := HK1.out; have := HK2.out; omega⟩, ⟨sqS HO_3⟩, ⟨sqR HO_5⟩, ⟨sqB⟩⟩
          ·replace c28 := Bool.eq_false_iff.mpr c28
           subst c28; rw [if_neg Bool.false_ne_true] at H; obtain rfl := Option.some.inj H
           try go_wp2
           have n0_ := Aside0.mk (Kd.S_drew HO_3.out); have n1_ := Aside0.mk (Kd.R_drew HO_5.out); have n2_ := Aside0.mk (below_drew1 HB.out); clear HO_3 HO_5 HB; have HO_3 := n0_; have HO_5 := n1_; have HB := n2_; clear n0_ n1_ n2_; have p551 : 0 ≤ (x7_2 : Int) := sqD; have q551 : x7_2 < (x3_1.length : Int) := sqD; obtain ⟨ad551, A551_0, c551_0, A551_1, c551_1, e551, hx551_0, hx551_1, hl551_0, hi551_0, hl551_1, hi551_1⟩ := at_T25 (Kd.S_reads' HO_3.out).2.2 x7_2 p551 q551
           cases e551
           obtain ⟨ce551, hce551, hMe551, hcc551⟩ := Kd.S_get HO_3.out z25 x7_2 p551 (by first | exact q551 | exact sqD | (have e_ := (Kd.S_reads' HO_3.out).1; omega)); obtain ⟨ve551_0, ve551_1, rfl, ge551_0, ge551_1⟩ := k25_openM hMe551; have hv551_0 := hcc551 0 _ rfl; rw [Nat.add_zero] at hv551_0; replace hv551_0 := Option.some.inj (hv551_0.symm.trans hx551_0); rw [hv551_0] at ge551_0; have HL551_0 := Aside0.mk (show Kd.R k41 41 _ _ _ _ ((rd_T25 x3_1 x7_2).f0) from ge551_0); clear hv551_0 ge551_0; have hv551_1 := hcc551 1 _ rfl; rw [add_field _ _ 1 (by omega)] at hv551_1; replace hv551_1 := Option.some.inj (hv551_1.symm.trans hx551_1); rw [hv551_1] at ge551_1; have HL551_1 := Aside0.mk (show Kd.R k80 80 _ _ _ _ ((rd_T25 x3_1 x7_2).f1) from ge551_1); clear hv551_1 ge551_1 hcc551 hce551; have HR551_0 := Aside0.mk hi551_0; have HC551_0 := Aside0.mk hl551_0; clear hi551_0 hl551_0; have HR551_1 := Aside0.mk hi551_1; have HC551_1 := Aside0.mk hl551_1; clear hi551_1 hl551_1; replace p551 := eq_true p551; replace q551 := eq_true q551; have p552 : 0 ≤ (x7_2 : Int) := sqD; have q552 : x7_2 < (l0.length : Int) := sqD; obtain ⟨ad552, A552_0, c552_0, A552_1, c552_1, e552, hx552_0, hx552_1, hl552_0, hi552_0, hl552_1, hi552_1⟩ := at_T25 HR0.out x7_2 p552 q552; have hw552_1 := hx552_1; have hw552_0 := hx552_0
           cases e552
           replace hx552_0 := (HB.out.cell (World.block_lt_of_cell? w _ hx552_0)).trans hx552_0; replace hx552_1 := (HB.out.cell (World.block_lt_of_cell? w _ hx552_1)).trans hx552_1; have HR552_0 := Aside0.mk hi552_0; have HC552_0 := Aside0.mk hl552_0; clear hi552_0 hl552_0; have HR552_1 := Aside0.mk hi552_1; have HC552_1 := Aside0.mk hl552_1; clear hi552_1 hl552_1; replace p552 := eq_true p552; replace q552 := eq_true q552; refine start_ (n := 10) (S := fun w' => w'.cell? (ad551.add ((x7_2).toNat * 2)) = some (.slice A551_0 ((rd_T25 x3_1 x7_2).f0).length c551_0) ∧ w'.cell? ⟨(ad551.add ((x7_2).toNat * 2)).block, (ad551.add ((x7_2).toNat * 2)).off + 1, none⟩ = some (.slice A551_1 ((rd_T25 x3_1 x7_2).f1).length c551_1) ∧ w'.cell? (ad552.add ((x7_2).toNat * 2)) = some (.slice A552_0 ((rd_T25 l0 x7_2).f0).length c552_0) ∧ w'.cell? ⟨(ad552.add ((x7_2).toNat * 2)).block, (ad552.add ((x7_2).toNat * 2)).off + 1, none⟩ = some (.slice A552_1 ((rd_T25 l0 x7_2).f1).length c552_1)) (ds := []) (bm 10 0) sqF rfl rfl ⟨hx551_0, hx551_1, ((HB.out.cell (World.block_lt_of_cell? w _ hw552_0)).trans hw552_0), ((HB.out.cell (World.block_lt_of_cell? w _ hw552_1)).trans hw552_1)⟩ (fun hHeld => ?_); refine with_tabW lw_WoolCommons.tab14 lw_WoolCommons.bits14 (fun HT_ HW_ => ?_)
           generalize wr.drew = w31 at HO_3 HO_5 HB HL551_0 HL551_1 HR551_0 HR551_1 HR552_0 HR552_1 hx551_0 hx551_1 hx552_0 hx552_1 hHeld ⊢
           refine pure_ (i := 0) (N := some 46) (v := ?_) (a' := ?_) (bm 10 1) rfl rfl (any_of HT_.out sqF) (fun _ _ _ h => h) (Or.inl ⟨by rfl, ?_⟩) ?_ ?_
           rotate_left
           ·intro w'
            go_simp; with_reducible rfl
           rotate_left
           ·simp only [Act.put, sqA, i64_w, i32_w]; rfl
           refine pure_ (i := 1) (N := some 47) (v := ?_) (a' := ?_) (bm 10 3) rfl rfl (any_of HT_.out sqF) (fun _ _ _ h => h) (Or.inl ⟨by rfl, ?_⟩) ?_ ?_
           rotate_left
           ·intro w'
            go_simp; with_reducible rfl
           rotate_left
           ·simp only [Act.put, sqA, i64_w, i32_w]; rfl
           refine pure_ (i := 2) (N := some 48) (v := ?_) (a' := ?_) (bm 10 7) rfl rfl (any_of HT_.out sqF) (fun _ _ _ h => h) (Or.inl ⟨by rfl, ?_⟩) ?_ ?_
           rotate_left
           ·intro w'
            go_simp; with_reducible rfl
           rotate_left
           ·simp only [Act.put, sqA, i64_w, i32_w]; rfl
           refine pure_ (i := 4) (N := some 50) (v := ?_) (a' := ?_) (bm 10 23) rfl rfl (any_of HT_.out sqF) (fun _ _ _ h => h) (Or.inl ⟨by rfl, ?_⟩) ?_ ?_
           rotate_left
           ·intro w'
            go_simp; with_reducible rfl
           rotate_left
           ·simp only [Act.put, sqA, i64_w, i32_w]; rfl
           refine pure_ (i := 5) (N := some 51) (v := ?_) (a' := ?_) (bm 10 55) rfl rfl (any_of HT_.out sqF) (fun _ _ _ h => h) (Or.inl ⟨by rfl, ?_⟩) ?_ ?_
           rotate_left
           ·intro w'
            go_simp; with_reducible rfl
           rotate_left
           ·simp only [Act.put, sqA, i64_w, i32_w]; rfl
           refine pure_ (i := 6) (N := some 52) (v := ?_) (a' := ?_) (bm 10 119) rfl rfl (any_of HT_.out sqF) (fun _ _ _ h => h) (Or.inl ⟨by rfl, ?_⟩) ?_ ?_
           rotate_left
           ·intro w'
            go_simp; with_reducible rfl
           rotate_left
           ·simp only [Act.put, sqA, i64_w, i32_w]; rfl
           refine take_ (i := 3) (N := some 49) (v := ?_) (a' := ?_) (bm 10 127) rfl rfl (take_ofW HT_.out HW_.out sqF) (fun _ _ _ h => h) (Or.inl ⟨by rfl, ?_⟩) hHeld ?_ ?_
           rotate_left
           ·rintro w' ⟨s0, s1, s2, s3⟩
            go_simp; with_reducible rfl
           rotate_left
           ·simp only [Act.put, sqA, i64_w, i32_w]; rfl
           refine take_ (i := 7) (N := some 53) (v := ?_) (a' := ?_) (bm 10 255) rfl rfl (take_ofW HT_.out HW_.out sqF) (fun _ _ _ h => h) (Or.inl ⟨by rfl, ?_⟩) hHeld ?_ ?_
           rotate_left
           ·rintro w' ⟨s0, s1, s2, s3⟩
            go_simp; with_reducible rfl
           rotate_left
           ·simp only [Act.put, sqA, i64_w, i32_w]; rfl
           refine one_ (i := 8) (N := some 54) (bm 10 511) rfl rfl (one_of HT_.out sqF) (by decide) (fun K hK => ?_); refine goes_ Tryd.func23 sqF rfl #[.agg #[.slice A551_0 ((rd_T25 x3_1 x7_2).f0).length c551_0, .slice A551_1 ((rd_T25 x3_1 x7_2).f1).length c551_1], .agg #[.slice A552_0 ((rd_T25 l0 x7_2).f0).length c552_0, .slice A552_1 ((rd_T25 l0 x7_2).f1).length c552_1]] (by rfl) rfl rfl sqM ?_
           with_reducible refine (rf_Same.calls k2 _ _ ((rd_T25 x3_1 x7_2).f0) _ _ ((rd_T25 x3_1 x7_2).f1) _ _ ((rd_T25 l0 x7_2).f0) _ _ ((rd_T25 l0 x7_2).f1) false _ ?side1 ?side2 ?side3 ?side4 ?side5 ?side6 ?side7 ?side8 A27.out).mono ?_
           (case side1 => repeat (first | exact (sqC HR551_0) | (with_reducible refine Kd.C_alloc ?_ _) | (with_reducible refine Kd.C_drewN ?_ _) | (with_reducible refine Kd.C_drew ?_)))
           (case side2 => exact HC551_0.out)
           (case side3 => repeat (first | exact (sqC HR551_1) | (with_reducible refine Kd.C_alloc ?_ _) | (with_reducible refine Kd.C_drewN ?_ _) | (with_reducible refine Kd.C_drew ?_)))
           (case side4 => exact HC551_1.out)
           (case side5 => exact sqQ HR552_0 HB)
           (case side6 => exact HC552_0.out)
           (case side7 => exact sqQ HR552_1 HB)
           (case side8 => exact HC552_1.out)
           rintro e w32 ⟨rfl, hb⟩; have HS0_ := (hb.cell (World.block_lt_of_cell? _ _ (hHeld.1))).trans (hHeld.1); have HS1_ := (hb.cell (World.block_lt_of_cell? _ _ (hHeld.2.1))).trans (hHeld.2.1); refine ⟨_, rfl, ?_⟩; have n0_ := Aside0.mk (Kd.S_below (sqS HO_3) hb); have n1_ := Aside0.mk (Kd.R_below (sqR HO_5) hb); have n2_ := Aside0.mk (Kd.R_below (sqR HL551_0) hb); have n3_ := Aside0.mk (Kd.R_below (sqR HL551_1) hb); have n4_ := Aside0.mk (Kd.C_below (sqC HR551_0) hb); have n5_ := Aside0.mk (Kd.C_below (sqC HR551_1) hb); have n6_ := Aside0.mk (below_step sqB hb); clear HO_3 HO_5 HL551_0 HL551_1 HR551_0 HR551_1 HB; have HO_3 := n0_; have HO_5 := n1_; have HL551_0 := n2_; have HL551_1 := n3_; have HR551_0 := n4_; have HR551_1 := n5_; have HB := n6_; clear n0_ n1_ n2_ n3_ n4_ n5_ n6_; (try clear hb); (try clear hb2); (try clear hk); (try clear hi); refine hK.out _ _ ⟨HS0_, HS1_, ((HB.out.cell (World.block_lt_of_cell? w _ hw552_0)).trans hw552_0), ((HB.out.cell (World.block_lt_of_cell? w _ hw552_1)).trans hw552_1)⟩ (fun hHeld => ?_); clear hK K; refine norm_ (a' := ?_) ?_ ?_
           rotate_left
           ·show Act.put _ (some 54) _ = _
            simp only [Act.put, sqA, i64_w, i32_w]; rfl
           refine pure_ (i := 9) (N := some 55) (v := ?_) (a' := ?_) (bm 10 1023) rfl rfl (any_of HT_.out sqF) (fun _ _ _ h => h) (Or.inl ⟨by rfl, ?_⟩) ?_ ?_
           rotate_left
           ·intro w'
            go_simp; with_reducible rfl
           rotate_left
           ·simp only [Act.put, sqA, i64_w, i32_w]; rfl
           refine done_ (done_of HT_.out sqF) ?_
           try go_wp2
           go_ret
           exact ⟨by first | rfl | (simp [errW_none, errW_some] <;> rfl) | (simp [*, errW_none, errW_some] <;> rfl), sqB⟩
         ·rw [if_neg c26] at H
          exact absurd H (by simp)
        ·rw [if_neg c25] at H
         exact absurd H (by simp)
       ·rw [if_neg c24] at H
        have c24b0 : decide (x7_2 < (l0.length : Int)) = false := decide_eq_false c24; clear c24; obtain ⟨⟨t554, t555⟩, A330, H⟩ := Option.bind_eq_some_iff.mp H; replace H : (if t555 = 0 then (if t548 = 0 then ((rf_Ints.f k2 t547 t554).bind fun t558 => (if t558 = true then ((lw_known.f).bind fun t559 => (some t559)) else (some false))) else (some false)) else (if t548 = t555 then (if (t547.length : Int) = 0 then ((lw_known.f).bind fun t560 => (some t560)) else (some false)) else (some false))) = some r := H; have A33 := Aside0.mk A330; clear A330
        by_cases c34 : t555 = 0
        ·rw [if_pos c34] at H
         have c34b0 : (t555 == 0) = true := beq_iff_eq.mpr c34; have c34b1 : (t555 != 0) = false := bne_eq_false_iff_eq.mpr c34; clear c34
         by_cases c35 : t548 = 0
         ·rw [if_pos c35] at H
          have c35b0 : (t548 == 0) = true := beq_iff_eq.mpr c35; have c35b1 : (t548 != 0) = false := bne_eq_false_iff_eq.mpr c35; clear c35; obtain ⟨t558, A360, H⟩ := Option.bind_eq_some_iff.mp H; have A36 := Aside0.mk A360; clear A360
          by_cases c37 : t558 = true
          ·subst c37
           rw [if_pos rfl] at H; obtain ⟨t559, A380, H⟩ := Option.bind_eq_some_iff.mp H; have A38 := Aside0.mk A380; clear A380; obtain rfl := Option.some.inj H
           go_wp2_with (first | ((with_reducible refine gate_callee (f := 42) rfl ?_); refine goesL_ (some 58) rfl rfl Tryd.func42 sqF rfl #[.slice A0 l0.length c0] rfl sqM ?_; (with_reducible refine (rf_Common.calls k2 _ _ l0 t554 t555 _ ?side1 ?side2 A33.out).mono ?_); (case side1 => exact sqQ HR0 HB); (case side2 => exact HC0.out); rintro e w39 ⟨v556, rfl, ho0, hb⟩; refine ⟨_, rfl, ?_⟩; replace HO_3 := Aside0.mk (Kd.S_below (sqS HO_3) hb); have HO557 := Aside0.mk (Kd.R_lower (Kd.R_new' ho0 (Kd.R_lt (sqR HO_5))) (below_size sqB)); replace HO_5 := Aside0.mk (Kd.R_elder' (sqR HO_5) (Kd.R_base ho0) hb); replace HB := sqb hb; (try clear hb); (try clear hb2); (try clear hk); (try clear hi); (try clear ho0); obtain ⟨Ao40, co40, eo40⟩ := Kd.R_slice HO_5.out; subst eo40; obtain ⟨Ao41, co41, eo41⟩ := Kd.R_slice HO557.out; subst eo41) | (go_at_call 34; (with_reducible refine (rf_Ints.calls k2 _ _ t547 _ _ t554 true _ ?side1 ?side2 ?side3 ?side4 A36.out).mono ?_); (case side1 => repeat (first | exact (Kd.R_reads' HO_5.out).2.2 | (with_reducible refine Kd.C_alloc ?_ _) | (with_reducible refine Kd.C_drewN ?_ _) | (with_reducible refine Kd.C_drew ?_))); (case side2 => exact (Kd.R_reads' HO_5.out).2.1); (case side3 => repeat (first | exact (Kd.R_reads' HO557.out).2.2 | (with_reducible refine Kd.C_alloc ?_ _) | (with_reducible refine Kd.C_drewN ?_ _) | (with_reducible refine Kd.C_drew ?_))); (case side4 => exact (Kd.R_reads' HO557.out).2.1); rintro e w' ⟨rfl, ⟨nd, rfl⟩⟩) | (go_at_call 17; (with_reducible refine (lw_known.calls t559 _ ?sideG A38.out).mono ?_); (case sideG => exact sqQ HGL HB); rintro e w42 ⟨rfl, hb⟩; replace HO_3 := Aside0.mk (Kd.S_below (sqS HO_3) hb); replace HO_5 := Aside0.mk (Kd.R_below (sqR HO_5) hb); replace HO557 := Aside0.mk (Kd.R_below (sqR HO557) hb); replace HB := sqb hb; (try clear hb); (try clear hb2); (try clear hk); (try clear hi)))
           go_ret
           exact ⟨by first | rfl | (simp [errW_none, errW_some] <;> rfl) | (simp [*, errW_none, errW_some] <;> rfl), sqB⟩
          ·replace c37 := Bool.eq_false_iff.mpr c37
           subst c37; rw [if_neg Bool.false_ne_true] at H; obtain rfl := Option.some.inj H
           go_wp2_with (first | ((with_reducible refine gate_callee (f := 42) rfl ?_); refine goesL_ (some 58) rfl rfl Tryd.func42 sqF rfl #[.slice A0 l0.length c0] rfl sqM ?_; (with_reducible refine (rf_Common.calls k2 _ _ l0 t554 t555 _ ?side1 ?side2 A33.out).mono ?_); (case side1 => exact sqQ HR0 HB); (case side2 => exact HC0.out); rintro e w43 ⟨v556, rfl, ho0, hb⟩; refine ⟨_, rfl, ?_⟩; replace HO_3 := Aside0.mk (Kd.S_below (sqS HO_3) hb); have HO557 := Aside0.mk (Kd.R_lower (Kd.R_new' ho0 (Kd.R_lt (sqR HO_5))) (below_size sqB)); replace HO_5 := Aside0.mk (Kd.R_elder' (sqR HO_5) (Kd.R_base ho0) hb); replace HB := sqb hb; (try clear hb); (try clear hb2); (try clear hk); (try clear hi); (try clear ho0); obtain ⟨Ao44, co44, eo44⟩ := Kd.R_slice HO_5.out; subst eo44; obtain ⟨Ao45, co45, eo45⟩ := Kd.R_slice HO557.out; subst eo45) | (go_at_call 34; (with_reducible refine (rf_Ints.calls k2 _ _ t547 _ _ t554 false _ ?side1 ?side2 ?side3 ?side4 A36.out).mono ?_); (case side1 => repeat (first | exact (Kd.R_reads' HO_5.out).2.2 | (with_reducible refine Kd.C_alloc ?_ _) | (with_reducible refine Kd.C_drewN ?_ _) | (with_reducible refine Kd.C_drew ?_))); (case side2 => exact (Kd.R_reads' HO_5.out).2.1); (case side3 => repeat (first | exact (Kd.R_reads' HO557.out).2.2 | (with_reducible refine Kd.C_alloc ?_ _) | (with_reducible refine Kd.C_drewN ?_ _) | (with_reducible refine Kd.C_drew ?_))); (case side4 => exact (Kd.R_reads' HO557.out).2.1); rintro e w' ⟨rfl, ⟨nd, rfl⟩⟩))
           go_ret
           exact ⟨by first | rfl | (simp [errW_none, errW_some] <;> rfl) | (simp [*, errW_none, errW_some] <;> rfl), sqB⟩
         ·rw [if_neg c35] at H
          have c35b0 : (t548 == 0) = false := beq_eq_false_iff_ne.mpr c35; have c35b1 : (t548 != 0) = true := bne_iff_ne.mpr c35; obtain rfl := Option.some.inj H
          go_wp2_with (first | ((with_reducible refine gate_callee (f := 42) rfl ?_); refine goesL_ (some 58) rfl rfl Tryd.func42 sqF rfl #[.slice A0 l0.length c0] rfl sqM ?_; (with_reducible refine (rf_Common.calls k2 _ _ l0 t554 t555 _ ?side1 ?side2 A33.out).mono ?_); (case side1 => exact sqQ HR0 HB); (case side2 => exact HC0.out); rintro e w46 ⟨v556, rfl, ho0, hb⟩; refine ⟨_, rfl, ?_⟩; replace HO_3 := Aside0.mk (Kd.S_below (sqS HO_3) hb); have HO557 := Aside0.mk (Kd.R_lower (Kd.R_new' ho0 (Kd.R_lt (sqR HO_5))) (below_size sqB)); replace HO_5 := Aside0.mk (Kd.R_elder' (sqR HO_5) (Kd.R_base ho0) hb); replace HB := sqb hb; (try clear hb); (try clear hb2); (try clear hk); (try clear hi); (try clear ho0)))
          go_ret
          exact ⟨by first | rfl | (simp [errW_none, errW_some] <;> rfl) | (simp [*, errW_none, errW_some] <;> rfl), sqB⟩
        ·rw [if_neg c34] at H
         have c34b0 : (t555 == 0) = false := beq_eq_false_iff_ne.mpr c34; have c34b1 : (t555 != 0) = true := bne_iff_ne.mpr c34
         by_cases c47 : t548 = t555
         ·rw [if_pos c47] at H
          have c47b0 : (t548 == t555) = true := beq_iff_eq.mpr c47; have c47b1 : (t548 != t555) = false := bne_eq_false_iff_eq.mpr c47; clear c47
          by_cases c48 : (t547.length : Int) = 0
          ·rw [if_pos c48] at H
           have c48b0 : ((t547.length : Int) == 0) = true := beq_iff_eq.mpr c48; have c48b1 : ((t547.length : Int) != 0) = false := bne_eq_false_iff_eq.mpr c48; clear c48; obtain ⟨t560, A490, H⟩ := Option.bind_eq_some_iff.mp H; have A49 := Aside0.mk A490; clear A490; obtain rfl := Option.some.inj H
           go_wp2_with (first | ((with_reducible refine gate_callee (f := 42) rfl ?_); refine goesL_ (some 58) rfl rfl Tryd.func42 sqF rfl #[.slice A0 l0.length c0] rfl sqM ?_; (with_reducible refine (rf_Common.calls k2 _ _ l0 t554 t555 _ ?side1 ?side2 A33.out).mono ?_); (case side1 => exact sqQ HR0 HB); (case side2 => exact HC0.out); rintro e w50 ⟨v556, rfl, ho0, hb⟩; refine ⟨_, rfl, ?_⟩; replace HO_3 := Aside0.mk (Kd.S_below (sqS HO_3) hb); have HO557 := Aside0.mk (Kd.R_lower (Kd.R_new' ho0 (Kd.R_lt (sqR HO_5))) (below_size sqB)); replace HO_5 := Aside0.mk (Kd.R_elder' (sqR HO_5) (Kd.R_base ho0) hb); replace HB := sqb hb; (try clear hb); (try clear hb2); (try clear hk); (try clear hi); (try clear ho0); obtain ⟨Ao51, co51, eo51⟩ := Kd.R_slice HO_5.out; subst eo51) | (go_at_call 17; (with_reducible refine (lw_known.calls t560 _ ?sideG A49.out).mono ?_); (case sideG => exact sqQ HGL HB); rintro e w52 ⟨rfl, hb⟩; replace HO_3 := Aside0.mk (Kd.S_below (sqS HO_3) hb); replace HO_5 := Aside0.mk (Kd.R_below (sqR HO_5) hb); replace HO557 := Aside0.mk (Kd.R_below (sqR HO557) hb); replace HB := sqb hb; (try clear hb); (try clear hb2); (try clear hk); (try clear hi)))
           go_ret
           exact ⟨by first | rfl | (simp [errW_none, errW_some] <;> rfl) | (simp [*, errW_none, errW_some] <;> rfl), sqB⟩
          ·rw [if_neg c48] at H
           have c48b0 : ((t547.length : Int) == 0) = false := beq_eq_false_iff_ne.mpr c48; have c48b1 : ((t547.length : Int) != 0) = true := bne_iff_ne.mpr c48
           have c48b2 : ¬ (t547 = []) := fun h_ => c48 (by rw [h_]; rfl)
           obtain rfl := Option.some.inj H
           go_wp2_with (first | ((with_reducible refine gate_callee (f := 42) rfl ?_); refine goesL_ (some 58) rfl rfl Tryd.func42 sqF rfl #[.slice A0 l0.length c0] rfl sqM ?_; (with_reducible refine (rf_Common.calls k2 _ _ l0 t554 t555 _ ?side1 ?side2 A33.out).mono ?_); (case side1 => exact sqQ HR0 HB); (case side2 => exact HC0.out); rintro e w53 ⟨v556, rfl, ho0, hb⟩; refine ⟨_, rfl, ?_⟩; replace HO_3 := Aside0.mk (Kd.S_below (sqS HO_3) hb); have HO557 := Aside0.mk (Kd.R_lower (Kd.R_new' ho0 (Kd.R_lt (sqR HO_5))) (below_size sqB)); replace HO_5 := Aside0.mk (Kd.R_elder' (sqR HO_5) (Kd.R_base ho0) hb); replace HB := sqb hb; (try clear hb); (try clear hb2); (try clear hk); (try clear hi); (try clear ho0); obtain ⟨Ao54, co54, eo54⟩ := Kd.R_slice HO_5.out; subst eo54))
           go_ret
           exact ⟨by first | rfl | (simp [errW_none, errW_some] <;> rfl) | (simp [*, errW_none, errW_some] <;> rfl), sqB⟩
         ·rw [if_neg c47] at H
          have c47b0 : (t548 == t555) = false := beq_eq_false_iff_ne.mpr c47; have c47b1 : (t548 != t555) = true := bne_iff_ne.mpr c47; obtain rfl := Option.some.inj H
          go_wp2_with (first | ((with_reducible refine gate_callee (f := 42) rfl ?_); refine goesL_ (some 58) rfl rfl Tryd.func42 sqF rfl #[.slice A0 l0.length c0] rfl sqM ?_; (with_reducible refine (rf_Common.calls k2 _ _ l0 t554 t555 _ ?side1 ?side2 A33.out).mono ?_); (case side1 => exact sqQ HR0 HB); (case side2 => exact HC0.out); rintro e w55 ⟨v556, rfl, ho0, hb⟩; refine ⟨_, rfl, ?_⟩; replace HO_3 := Aside0.mk (Kd.S_below (sqS HO_3) hb); have HO557 := Aside0.mk (Kd.R_lower (Kd.R_new' ho0 (Kd.R_lt (sqR HO_5))) (below_size sqB)); replace HO_5 := Aside0.mk (Kd.R_elder' (sqR HO_5) (Kd.R_base ho0) hb); replace HB := sqb hb; (try clear hb); (try clear hb2); (try clear hk); (try clear hi); (try clear ho0)))
          go_ret
          exact ⟨by first | rfl | (simp [errW_none, errW_some] <;> rfl) | (simp [*, errW_none, errW_some] <;> rfl), sqB⟩
end Go.Proofs.YtemingmeidmjkaaDoor.Q
namespace Go.Proofs.YtemingmeidmjkaaDoor.Rw
open Go.RowKit Go.Proofs.YtemingmeidmjkaaDoorW.PrintWords
set_option linter.unusedVariables false
set_option linter.unusedSimpArgs false
theorem add_two (a : Addr) (x y : Nat) : (a.add x).add y = a.add (x + y) := by
 unfold Addr.add
 by_cases h1 : x = 0
 ·subst h1; simp
 ·by_cases h2 : y = 0
  ·subst h2; simp
  ·have h3 : ¬ x + y = 0 := by omega
   simp [h1, h2, Nat.add_assoc]
structure Opens {α : Type} (P : Program) (t : TypeId) (d : Kd α) (good : α → Prop) : Prop where
 size : d.sz = P.cellsOf t
 read : ∀ {H : Type} {enc : TypeId × Value → H} {w : World} {base : Nat} {sp : Nat → Bool} {held : Bool} {fuel : Nat} {cs : List Value} {x : DataW H × List MemPlace}, DataW.trod enc P w base sp held fuel t cs = some x → ∃ y : α, d.K w y cs ∧ good y
theorem Opens.int {P : Program} {t : TypeId} {k : IntKind} (ht : P.underlying t = some (.int k)) (hc : 1 = P.cellsOf t) : Opens P t (Kd.int k) (fun n => (Lit.int k n).wf = true) := ⟨hc, fun h => by
 obtain ⟨n, rfl, rfl, hw⟩ := DataW.trod_int ht h
 exact ⟨n, rfl, hw⟩⟩
theorem Opens.slice {α : Type} {P : Program} {t e : TypeId} {d : Kd α} {good : α → Prop} (ht : P.underlying t = some (.slice e)) (hc : 1 = P.cellsOf t) (h : Opens P e d good) : Opens P t (Kd.slice e d) (fun l => ∀ x ∈ l, good x) := ⟨hc, fun {H enc w base sp held fuel cs x} hx => by
 rcases DataW.trod_slice ht hx with ⟨rfl, _⟩ | ⟨a, len, cap, elems, rest, n, _, rfl, _, hb, hl, hm, hlen, hel, _, _⟩
 ·exact ⟨[], ⟨none, 0, rfl, Nat.le_refl _, Kd.C_nil _ _⟩, fun x hx => by cases hx⟩
 ·have key : ∀ m, m ≤ len → ∃ l : List α, l.length = m ∧ ∀ i z, l[i]? = some z → good z ∧ ∃ c, c.length = d.sz ∧ d.K w z c ∧ ∀ j u, c[j]? = some u → w.cell? (a.add (i * d.sz + j)) = some u := by
   intro m
   induction m with
   | zero => intro _; exact ⟨[], rfl, fun i z hz => by simp at hz⟩
   | succ m ih =>
    intro hle; obtain ⟨l, hll, hl2⟩ := ih (by omega); have h1 := hel m (by omega); rw [List.getElem?_eq_getElem (by omega), Option.bind_eq_some_iff] at h1; obtain ⟨c, hc1, hc2⟩ := h1; obtain ⟨z, hz, hg⟩ := h.read hc2; obtain ⟨_, hcl, hcc⟩ := World.cells?_some hc1; refine ⟨l ++ [z], by simp [hll], fun i z' hz' => ?_⟩
    rcases Nat.lt_or_ge i l.length with hlt | hge
    ·rw [List.getElem?_append_left hlt] at hz'
     exact hl2 i z' hz'
    ·rw [List.getElem?_append_right hge] at hz'
     have e : i = m := by
      rcases Nat.eq_zero_or_pos (i - l.length) with e | e
      ·omega
      ·rw [List.getElem?_eq_none (by simp; omega)] at hz'; cases hz'
     subst e; rw [show i - l.length = 0 by omega] at hz'; simp only [List.getElem?_cons_zero, Option.some.injEq] at hz'; subst hz'; refine ⟨hg, c, by rw [hcl, h.size], hz, fun j u hu => ?_⟩
     have hj : j < P.cellsOf e := by rw [← hcl]; exact (List.getElem?_eq_some_iff.1 hu).1
     have := hcc j hj; rw [hu] at this; rw [h.size, ← this, add_two]
  obtain ⟨l, hll, hl2⟩ := key len (Nat.le_refl _); refine ⟨l, ⟨some a, cap, by rw [hll], by omega, rfl, by unfold maxLen at hm; omega, fun _ => ⟨a, rfl, fun j p hj => ?_⟩⟩, fun x hx => ?_⟩
  ·obtain ⟨_, c, h1, h2, h3⟩ := hl2 j p hj
   exact ⟨c, h1, h2, h3⟩
  ·obtain ⟨i, hi⟩ := List.getElem?_of_mem hx
   exact (hl2 i x hi).1⟩
structure FOpens {α : Type} (P : Program) (fs : List Field) (off : Nat) (d : Kd α) (good : α → Prop) : Prop where
 read : ∀ {H : Type} {enc : TypeId × Value → H} {w : World} {base : Nat} {sp : Nat → Bool} {held : Bool} {fuel : Nat} {cs : List Value},
 (∀ (i : Nat) (f : Field), fs[i]? = some f → ∃ y, DataW.trod enc P w base sp held fuel f.type ((cs.drop f.offset).take (P.cellsOf f.type)) = some y) → cs.length = off + d.sz → ∃ y : α, d.K w y (cs.drop off) ∧ good y
theorem FOpens.one {α : Type} {P : Program} {f : Field} {off : Nat} {d : Kd α} {good : α → Prop} (h : Opens P f.type d good) (ho : f.offset = off) : FOpens P [f] off d good := ⟨fun {H enc w base sp held fuel cs} hf hl => by
 obtain ⟨y, hy⟩ := hf 0 f rfl; rw [ho, ← h.size, List.take_of_length_le (by rw [List.length_drop]; omega)] at hy
 exact h.read hy⟩
theorem FOpens.cons {α β : Type} {P : Program} {f : Field} {fs : List Field} {off : Nat} {d1 : Kd α} {d2 : Kd β} {g1 : α → Prop} {g2 : β → Prop} (h1 : Opens P f.type d1 g1) (ho : f.offset = off) (h2 : FOpens P fs (off + d1.sz) d2 g2) : FOpens P (f :: fs) off (Kd.pair d1 d2) (fun x => g1 x.1 ∧ g2 x.2) := ⟨fun {H enc w base sp held fuel cs} hf hl => by
 have hsz : (Kd.pair d1 d2).sz = d1.sz + d2.sz := rfl; obtain ⟨y1, hy1⟩ := hf 0 f rfl; rw [ho, ← h1.size] at hy1; obtain ⟨x1, hk1, hg1⟩ := h1.read hy1; obtain ⟨x2, hk2, hg2⟩ := h2.read (cs := cs) (fun i g hg => hf (i + 1) g (by simpa using hg)) (by omega); refine ⟨(x1, x2), ⟨_, _, ?_, hk1, hk2⟩, hg1, hg2⟩
 rw [← List.drop_drop, List.take_append_drop]⟩
theorem Opens.struct {α : Type} {P : Program} {t : TypeId} {fs : Array Field} {d : Kd α} {good : α → Prop} (ht : P.underlying t = some (.struct fs)) (hs : d.sz = P.cellsOf t) (h : FOpens P fs.toList 0 d good) : Opens P t d good := ⟨hs, fun {H enc w base sp held fuel cs x} hx => by
 obtain ⟨xs, n, _, _, hcl, hxl, hf⟩ := DataW.trod_struct ht hx
 have := h.read (enc := enc) (w := w) (base := base) (sp := sp) (held := held) (fuel := n) (cs := cs) (fun i f hi => by
  rw [Array.getElem?_toList] at hi; have hlt := (Array.getElem?_eq_some_iff.1 hi).1
  exact ⟨xs[i]'(by omega), by rw [hf i f hi, List.getElem?_eq_getElem]⟩) (by omega)
 simpa using this⟩
theorem Opens.iso {α β : Type} {P : Program} {t : TypeId} {d : Kd α} {good : α → Prop} (f : β → α) (g : α → β) (hfg : ∀ x, f (g x) = x) (h : Opens P t d good) : Opens P t (Kd.iso d f) (fun y => good (f y)) := ⟨h.size, fun hx => by
 obtain ⟨y, hk, hg⟩ := h.read hx
 exact ⟨g y, by show d.K _ (f (g y)) _; rw [hfg]; exact hk, by rw [hfg]; exact hg⟩⟩
end Go.Proofs.YtemingmeidmjkaaDoor.Rw
namespace Go.Proofs.YtemingmeidmjkaaDoor.Q
open Go.RowKit Go.Proofs.YtemingmeidmjkaaDoorW.PrintWords
set_option linter.unusedVariables false
set_option linter.unusedSimpArgs false
theorem rdI (l : List Int) (i : Nat) (h : i < l.length) : rd l (i : Int) = l[i] := by simp [rd, h]
theorem rdA (l : List S41) (i : Nat) (h : i < l.length) : rd_T41 l (i : Int) = l[i] := by simp [rd_T41, h]
theorem rdW (l : List S80) (i : Nat) (h : i < l.length) : rd_T80 l (i : Int) = l[i] := by simp [rd_T80, h]
theorem drop_dec {α : Type} [DecidableEq α] (a b : List α) (i : Nat) (ha : i < a.length) (hb : i < b.length) : decide (a.drop i = b.drop i) = (decide (a[i] = b[i]) && decide (a.drop (i + 1) = b.drop (i + 1))) := by
 rw [List.drop_eq_getElem_cons ha, List.drop_eq_getElem_cons hb, Bool.eq_iff_iff]; simp only [decide_eq_true_eq, Bool.and_eq_true, List.cons.injEq]
theorem In_f (a b c : Int) : rf_In.f a b c = some (inB b c [a]) := by
 have e : inB b c [a] = (decide (b ≤ a) && decide (a ≤ c)) := by
  rw [Bool.eq_iff_iff, inB_iff]
  simp
 rw [e]
 unfold rf_In.f
 split <;> simp_all <;> omega
theorem inB_one (b c a : Int) : inB b c [a] = true ↔ b ≤ a ∧ a ≤ c := by rw [inB_iff]; simp
theorem known_f : lw_known.f = some true := rfl
theorem long_f (l0 : List S41) (l1 : List S80) : lw_long.f l0 l1 = some (decide ((l0.length : Int) > 10 ∨ (l1.length : Int) > 12)) := by
 unfold lw_long.f
 by_cases h : (l0.length : Int) > 10 <;> simp [h]
theorem Copy_f (l0 : List S41) (l1 : List S80) (h0 : l0.length ≤ 1000) (h1 : l1.length ≤ 1000) : rf_Copy.f l0 l1 = some (l0, l1) := by
 unfold rf_Copy.f
 simp only [Option.bind_some, List.length_nil, List.nil_append]; rw [if_pos (by omega), if_pos (by omega)]
theorem dec_S (x y : S41) : decide ((⟨x.f0, x.f1⟩ : Sp) = ⟨y.f0, y.f1⟩) = !(!(x.f0 == y.f0) || !(x.f1 == y.f1)) := by
 rw [Bool.eq_iff_iff]
 simp
theorem toSt_get (l : List S41) (i : Nat) (h : i < l.length) : (toSt l)[i]'(by rw [toSt_len]; exact h) = ⟨l[i].f0, l[i].f1⟩ := by simp [toSt]
theorem Spans_l0 (a b : List S41) (hl : a.length ≤ 1000) (hab : a.length = b.length) : ∀ (d i : Nat), i + d = a.length → Ev (fun k => rf_Spans.l0 k a b (i : Int)) (decide ((toSt a).drop i = (toSt b).drop i))
 | 0, i, h => by
  refine Ev.up ?_; simp only [rf_Spans.l0, if_neg (show ¬ (i : Int) < (a.length : Int) by omega)]; rw [List.drop_eq_nil_of_le (by rw [toSt_len]; omega), List.drop_eq_nil_of_le (by rw [toSt_len]; omega)]
  simpa using Ev.now true
 | d + 1, i, h => by
  refine Ev.up ?_; simp only [rf_Spans.l0, if_pos (show (i : Int) < (a.length : Int) by omega), if_pos (show (0 : Int) ≤ (i : Int) by omega), if_pos (show (i : Int) < (b.length : Int) by omega), wi i (by omega), rdA a i (by omega), rdA b i (by omega)]; rw [drop_dec (toSt a) (toSt b) i (by rw [toSt_len]; omega) (by rw [toSt_len]; omega), toSt_get a i (by omega), toSt_get b i (by omega), dec_S]
  cases hq : (!(a[i].f0 == b[i].f0) || !(a[i].f1 == b[i].f1))
  ·simp only [Bool.false_eq_true, if_false, Bool.not_false, Bool.true_and]
   exact Spans_l0 a b hl hab d (i + 1) (by omega)
  ·simp only [if_true, Bool.not_true, Bool.false_and]
   exact Ev.now _
theorem Spans_f (a b : List S41) (ha : a.length ≤ 1000) : Ev (fun k => rf_Spans.f k a b) (decide (toSt a = toSt b)) := by
 unfold rf_Spans.f
 by_cases h : a.length = b.length
 ·simp only [if_pos (show (a.length : Int) = (b.length : Int) by omega)]
  exact Spans_l0 a b ha h a.length 0 (by omega)
 ·simp only [if_neg (show ¬ (a.length : Int) = (b.length : Int) by omega)]
  rw [decide_eq_false (fun e => h (by have := congrArg List.length e; rwa [toSt_len, toSt_len] at this))]; exact Ev.now _
theorem Ints_l0 (a b : List Int) (hl : a.length ≤ 1000) (hab : a.length = b.length) : ∀ (d i : Nat), i + d = a.length → Ev (fun k => rf_Ints.l0 k a b (i : Int)) (decide (a.drop i = b.drop i))
 | 0, i, h => by
  refine Ev.up ?_; simp only [rf_Ints.l0, if_neg (show ¬ (i : Int) < (a.length : Int) by omega)]; rw [List.drop_eq_nil_of_le (by omega), List.drop_eq_nil_of_le (by omega)]
  simpa using Ev.now true
 | d + 1, i, h => by
  refine Ev.up ?_; simp only [rf_Ints.l0, if_pos (show (i : Int) < (a.length : Int) by omega), if_pos (show (0 : Int) ≤ (i : Int) by omega), if_pos (show (i : Int) < (b.length : Int) by omega), wi i (by omega), rdI a i (by omega), rdI b i (by omega)]; rw [drop_dec a b i (by omega) (by omega)]
  by_cases hq : a[i] = b[i]
  ·rw [decide_eq_true hq, Bool.true_and]
   simp only [if_pos hq]; exact Ints_l0 a b hl hab d (i + 1) (by omega)
  ·rw [decide_eq_false hq, Bool.false_and]
   simp only [if_neg hq]; exact Ev.now _
theorem Ints_f (a b : List Int) (ha : a.length ≤ 1000) : Ev (fun k => rf_Ints.f k a b) (decide (a = b)) := by
 unfold rf_Ints.f
 by_cases h : a.length = b.length
 ·simp only [if_pos (show (a.length : Int) = (b.length : Int) by omega)]
  exact Ints_l0 a b ha h a.length 0 (by omega)
 ·simp only [if_neg (show ¬ (a.length : Int) = (b.length : Int) by omega)]
  rw [decide_eq_false (fun e => h (by rw [e]))]; exact Ev.now _
theorem Same_l0 (st : List S41) (wg : List S80) (hl : wg.length ≤ 1000) : ∀ (d i : Nat), i + d = wg.length → Ev (fun k => rf_Same.l0 k (i : Int) st wg st wg) true
 | 0, i, h => by
  refine Ev.up ?_; simp only [rf_Same.l0, if_neg (show ¬ (i : Int) < (wg.length : Int) by omega)]; exact Ev.now true
 | d + 1, i, h => by
  refine Ev.up ?_; simp only [rf_Same.l0, if_pos (show (i : Int) < (wg.length : Int) by omega), if_pos (show (0 : Int) ≤ (i : Int) by omega), wi i (by omega), beq_self_eq_true, Bool.not_true, Bool.or_self, Bool.false_eq_true, if_false]; exact Same_l0 st wg hl d (i + 1) (by omega)
theorem Same_f (st : List S41) (wg : List S80) (h0 : st.length ≤ 1000) (hl : wg.length ≤ 1000) : Ev (fun k => rf_Same.f k st wg st wg) true := by
 unfold rf_Same.f
 refine Ev.bind (Spans_f st st h0) ?_; simp only [decide_true, if_true, bne_self_eq_false]; refine Ev.up ?_; simp only [rf_Same.j0, Bool.false_eq_true, if_false]; exact Same_l0 st wg hl wg.length 0 (by omega)
theorem Least_f (s : Sp) (h : stB s) (w : Int) (hw : 0 ≤ w ∧ w ≤ 400) : rf_Least.f s.lo s.hi w = some (loS s w) := by
 obtain ⟨h0, h1, h2⟩ := h
 unfold rf_Least.f loS
 have e1 : 0 ≤ w * s.hi := Int.mul_nonneg hw.1 (by omega); have e2 : w * s.hi ≤ 400 * 300 := Int.mul_le_mul hw.2 h2 (by omega) (by omega)
 generalize w * s.hi = y at *
 rw [wr (x := y) (by omega), Int.tdiv_eq_ediv_of_nonneg (by omega), wr (x := y / 1000) (by omega), wr (x := y / 1000 * 1000) (by omega), wr (x := y / 1000 + 1) (by omega)]
 split
 ·rw [wr (by omega)]; congr 1; omega
 ·rw [wr (by omega)]; congr 1; omega
theorem Greatest_f (s : Sp) (h : stB s) (w : Int) (hw : 0 ≤ w ∧ w ≤ 400) : rf_Greatest.f s.lo s.hi w = some (hiS s w) := by
 obtain ⟨h0, h1, h2⟩ := h
 unfold rf_Greatest.f hiS
 have e1 : 0 ≤ w * s.lo := Int.mul_nonneg hw.1 (by omega); have e2 : w * s.lo ≤ 400 * 300 := Int.mul_le_mul hw.2 (by omega) (by omega) (by omega)
 generalize w * s.lo = y at *
 rw [wr (x := y) (by omega), Int.tdiv_eq_ediv_of_nonneg (by omega), wr (x := y / 1000) (by omega), wr (by omega)]
theorem Check_l1 (st : List S41) (wg : List S80) (hl : wg.length ≤ 1000) : ∀ (d i : Nat), i + d = wg.length → Ev (fun k => rf_Check.l1 k (i : Int) st wg) (if (toWg (wg.drop i)).any (wgBad st.length) then 2 else 0)
 | 0, i, h => by
  refine Ev.up ?_; simp only [rf_Check.l1, if_neg (show ¬ (i : Int) < (wg.length : Int) by omega)]; rw [List.drop_eq_nil_of_le (by omega)]; exact Ev.now _
 | d + 1, i, h => by
  refine Ev.up ?_
  have hi : i < wg.length := by omega
  simp only [rf_Check.l1, if_pos (show (i : Int) < (wg.length : Int) by omega), if_pos (show (0 : Int) ≤ (i : Int) by omega), wi i (by omega), rdW wg i hi, In_f, Option.bind_some]; have ih := Check_l1 st wg hl d (i + 1) (by omega); rw [List.drop_eq_getElem_cons hi]; have e : (toWg (wg[i] :: wg.drop (i + 1))).any (wgBad st.length) = (wgBad st.length ⟨wg[i].f0, wg[i].f1, wg[i].f2⟩ || (toWg (wg.drop (i + 1))).any (wgBad st.length)) := rfl; rw [e]
  unfold wgBad at ih ⊢
  cases h1 : inB 0 (st.length : Int) [wg[i].f0] <;> cases h2 : inB 0 400 [wg[i].f1] <;> cases h3 : inB 0 20 [wg[i].f2] <;> simp only [Bool.false_eq_true, if_false, if_true, Bool.not_true, Bool.not_false, Bool.or_true, Bool.true_or, Bool.or_false, Bool.false_or]
  all_goals first | exact Ev.now _ | exact ih
theorem Check_l0 (st : List S41) (wg : List S80) (hs : st.length ≤ 1000) (hl : wg.length ≤ 1000) : ∀ (d i : Nat), i + d = st.length → Ev (fun k => rf_Check.l0 k (i : Int) st wg) (if (toSt (st.drop i)).any stBad then 4 else if wg.length > 8 then 5 else if (toWg wg).any (wgBad st.length) then 2 else 0)
 | 0, i, h => by
  refine Ev.up ?_; simp only [rf_Check.l0, if_neg (show ¬ (i : Int) < (st.length : Int) by omega)]; rw [List.drop_eq_nil_of_le (by omega)]; have e : (toSt []).any stBad = false := rfl; rw [e]; simp only [Bool.false_eq_true, if_false]
  by_cases h8 : wg.length > 8
  ·simp only [if_pos h8, if_pos (show (wg.length : Int) > 8 by omega)]
   exact Ev.now _
  ·simp only [if_neg h8, if_neg (show ¬ (wg.length : Int) > 8 by omega)]
   have h9 := Check_l1 st wg hl wg.length 0 (by omega); rw [List.drop_zero] at h9; exact h9
 | d + 1, i, h => by
  refine Ev.up ?_
  have hi : i < st.length := by omega
  simp only [rf_Check.l0, if_pos (show (i : Int) < (st.length : Int) by omega), if_pos (show (0 : Int) ≤ (i : Int) by omega), wi i (by omega), rdA st i hi, In_f, Option.bind_some]; have ih := Check_l0 st wg hs hl d (i + 1) (by omega); rw [List.drop_eq_getElem_cons hi]; have e : (toSt (st[i] :: st.drop (i + 1))).any stBad = (stBad ⟨st[i].f0, st[i].f1⟩ || (toSt (st.drop (i + 1))).any stBad) := rfl; rw [e]
  have e2 : stBad ⟨st[i].f0, st[i].f1⟩ = !(inB 0 st[i].f1 [st[i].f0] && !decide (st[i].f1 > 300)) := by
   unfold stBad
   rw [Bool.eq_iff_iff]; simp only [Bool.or_eq_true, decide_eq_true_eq, Bool.not_eq_true', Bool.and_eq_false_iff, Bool.not_eq_false']
   have a1 : (inB 0 300 [st[i].f0, st[i].f1] = false) ↔ ¬ ((0 ≤ st[i].f0 ∧ st[i].f0 ≤ 300) ∧ (0 ≤ st[i].f1 ∧ st[i].f1 ≤ 300)) := by
    rw [← Bool.not_eq_true, inB_iff]
    simp
   have a2 : (inB 0 st[i].f1 [st[i].f0] = false) ↔ ¬ (0 ≤ st[i].f0 ∧ st[i].f0 ≤ st[i].f1) := by rw [← Bool.not_eq_true, inB_one]
   rw [a1, a2]; omega
  rw [e2]
  cases h1 : inB 0 st[i].f1 [st[i].f0]
  ·simp only [Bool.false_eq_true, if_false, Bool.false_and, Bool.not_false, Bool.true_or, if_true]
   exact Ev.now _
  ·by_cases h3 : st[i].f1 > 300
   ·simp only [h3, if_true, decide_true, Bool.not_true, Bool.and_false, Bool.not_false, Bool.true_or]
    exact Ev.now _
   ·simp only [h3, if_true, decide_false, Bool.not_false, Bool.and_true, Bool.not_true, Bool.false_or, if_false]
    exact ih
theorem Check_f (st : List S41) (wg : List S80) (hs : st.length ≤ 1000) (hl : wg.length ≤ 1000) : Ev (fun k => rf_Check.f k st wg) (roadE (toSt st) (toWg wg)) := by
 unfold rf_Check.f roadE
 simp only [In_f, Option.bind_some, toSt_len, toWg_len]
 cases h1 : inB 1 5 [(st.length : Int)]
 ·simp only [Bool.false_eq_true, if_false]
  exact Ev.now _
 ·simp only [if_true]
  have h9 := Check_l0 st wg hs hl st.length 0 (by omega); rw [List.drop_zero] at h9; exact h9
end Go.Proofs.YtemingmeidmjkaaDoor.Q
namespace Go.Proofs.YtemingmeidmjkaaDoor.Q
open Go.RowKit Go.Proofs.YtemingmeidmjkaaDoorW.PrintWords
set_option linter.unusedVariables false
set_option linter.unusedSimpArgs false
def T4 (g : Nat → Bool) : List Bool := (List.range 401).map g
theorem T4_len (g : Nat → Bool) : (T4 g).length = 401 := by simp [T4]
theorem T4_get (g : Nat → Bool) (i : Nat) (h : i ≤ 400) : rdOf false (T4 g) (i : Int) = g i := by
 unfold rdOf T4
 rw [Int.toNat_natCast, List.getD_eq_getElem?_getD, List.getElem?_map, List.getElem?_range (by omega)]; rfl
theorem T4_congr {g h : Nat → Bool} (e : ∀ j, j ≤ 400 → g j = h j) : T4 g = T4 h := List.map_congr_left fun j hj => e j (by have := List.mem_range.1 hj; omega)
theorem T4_set (g : Nat → Bool) (i : Nat) (b : Bool) : (T4 g).set i b = T4 (fun j => if j = i then b else g j) := by
 apply List.ext_getElem?
 intro j; rw [List.getElem?_set, T4_len]
 unfold T4
 rw [List.getElem?_map, List.getElem?_map]
 by_cases hj : j < 401
 ·rw [List.getElem?_range hj]
  by_cases e : i = j
  ·rw [if_pos e, if_pos (by omega)]
   simp [e]
  ·rw [if_neg e]
   simp [show ¬ j = i from fun e' => e e'.symm]
 ·rw [List.getElem?_eq_none (l := List.range 401) (by simpa using hj)]
  by_cases e : i = j
  ·rw [if_pos e, if_neg (by omega)]; rfl
  ·rw [if_neg e]; rfl
def rowsL (n : Nat) (R : Nat → Nat → Bool) : List (List Bool) := (List.range n).map fun p => T4 (R p)
theorem rowsL_len (n : Nat) (R : Nat → Nat → Bool) : (rowsL n R).length = n := by simp [rowsL]
theorem rowsL_get (n : Nat) (R : Nat → Nat → Bool) (p : Nat) (h : p < n) : rd_L9 (rowsL n R) (p : Int) = T4 (R p) := by
 unfold rd_L9 rowsL
 rw [Int.toNat_natCast, List.getD_eq_getElem?_getD, List.getElem?_map, List.getElem?_range h]; rfl
theorem rowsL_set (n : Nat) (R : Nat → Nat → Bool) (p : Nat) (g : Nat → Bool) (h : p < n) : (rowsL n R).set p (T4 g) = rowsL n (fun q => if q = p then g else R q) := by
 apply List.ext_getElem?
 intro j; rw [List.getElem?_set, rowsL_len]
 unfold rowsL
 rw [List.getElem?_map, List.getElem?_map]
 by_cases hj : j < n
 ·rw [List.getElem?_range hj]
  by_cases e : p = j
  ·rw [if_pos e, if_pos (by omega)]
   simp [e]
  ·rw [if_neg e]
   simp [show ¬ j = p from fun e' => e e'.symm]
 ·rw [List.getElem?_eq_none (l := List.range n) (by simpa using hj)]
  by_cases e : p = j
  ·omega
  ·rw [if_neg e]; rfl
theorem rowsL_succ (n : Nat) (R : Nat → Nat → Bool) : rowsL n R ++ [T4 (R n)] = rowsL (n + 1) R := by simp [rowsL, List.range_succ]
theorem rowsL_congr {n : Nat} {R S : Nat → Nat → Bool} (e : ∀ p, p < n → ∀ j, j ≤ 400 → R p j = S p j) : rowsL n R = rowsL n S := List.map_congr_left fun p hp => T4_congr (e p (List.mem_range.1 hp))
def fitB (wg : List Wg) (p w : Int) : Bool := wg.all fun x => !decide (x.p = p) || inB (x.r - x.o) (x.r + x.o) [w]
theorem fitB_iff (wg : List Wg) (p w : Int) : fitB wg p w = true ↔ ∀ x ∈ wg, x.p = p → x.r - x.o ≤ w ∧ w ≤ x.r + x.o := by
 unfold fitB
 simp only [List.all_eq_true, Bool.or_eq_true, Bool.not_eq_true', decide_eq_false_iff_not, inB_one]
 exact ⟨fun h x hx hp => (h x hx).resolve_left (fun hn => hn hp), fun h x hx => by
  by_cases e : x.p = p
  ·exact .inr (h x hx e)
  ·exact .inl e⟩
theorem seen_in (p w : Int) : ∀ (wg : List Wg) (s : Sp), inS (wg.foldl (seenStep p) s) w ↔ inS s w ∧ ∀ x ∈ wg, x.p = p → x.r - x.o ≤ w ∧ w ≤ x.r + x.o
 | [], s => by simp
 | x :: wg, s => by
  rw [List.foldl_cons, seen_in p w wg]
  unfold seenStep
  by_cases e : x.p = p
  ·rw [if_pos e, inS_and]
   simp only [List.mem_cons, forall_eq_or_imp, e, true_implies]
   unfold inS
   simp only
   constructor
   ·rintro ⟨⟨h1, h2⟩, h3⟩; exact ⟨h1, h2, h3⟩
   ·rintro ⟨h1, h2, h3⟩; exact ⟨⟨h1, h2⟩, h3⟩
  ·rw [if_neg e]
   simp only [List.mem_cons, forall_eq_or_imp, e, false_implies, true_and]
theorem fit_seen (wg : List Wg) (p w : Int) (h : 0 ≤ w ∧ w ≤ 400) : fitB wg p w = true ↔ inS (seenS wg p) w := by
 rw [fitB_iff, seenS, seen_in]; simp only [inS]; exact ⟨fun h1 => ⟨h, h1⟩, fun h1 => h1.2⟩
theorem Fits_l0 (st : List S41) (wg : List S80) (hw : wgOk (toWg wg)) (hl : wg.length ≤ 1000) (p w : Int) : ∀ (d i : Nat), i + d = wg.length → Ev (fun k => rf_Fits.l0 k p w (i : Int) st wg) (fitB (toWg (wg.drop i)) p w)
 | 0, i, h => by
  refine Ev.up ?_; simp only [rf_Fits.l0, if_neg (show ¬ (i : Int) < (wg.length : Int) by omega)]; rw [List.drop_eq_nil_of_le (by omega)]; exact Ev.now _
 | d + 1, i, h => by
  refine Ev.up ?_
  have hi : i < wg.length := by omega
  have hb := hw ⟨wg[i].f0, wg[i].f1, wg[i].f2⟩ (List.mem_map.2 ⟨wg[i], List.getElem_mem hi, rfl⟩); simp only at hb; simp only [rf_Fits.l0, if_pos (show (i : Int) < (wg.length : Int) by omega), if_pos (show (0 : Int) ≤ (i : Int) by omega), wi i (by omega), rdW wg i hi, In_f, Option.bind_some]; rw [wr (x := wg[i].f1 - wg[i].f2) (by omega), wr (x := wg[i].f1 + wg[i].f2) (by omega), List.drop_eq_getElem_cons hi]; have ih := Fits_l0 st wg hw hl p w d (i + 1) (by omega); have e : fitB (toWg (wg[i] :: wg.drop (i + 1))) p w = ((!decide (wg[i].f0 = p) || inB (wg[i].f1 - wg[i].f2) (wg[i].f1 + wg[i].f2) [w]) && fitB (toWg (wg.drop (i + 1))) p w) := rfl; rw [e]
  by_cases hp : wg[i].f0 = p
  ·simp only [hp, if_true, decide_true, Bool.not_true, Bool.false_or]
   cases inB (wg[i].f1 - wg[i].f2) (wg[i].f1 + wg[i].f2) [w]
   ·simp only [Bool.false_eq_true, if_false, Bool.false_and]; exact Ev.now _
   ·simp only [if_true, Bool.true_and]; exact ih
  ·simp only [hp, if_false, decide_false, Bool.not_false, Bool.true_or, Bool.true_and]
   exact ih
theorem Fits_f (st : List S41) (wg : List S80) (hw : wgOk (toWg wg)) (hl : wg.length ≤ 1000) (p w : Int) : Ev (fun k => rf_Fits.f k st wg p w) (fitB (toWg wg) p w) := by
 have h := Fits_l0 st wg hw hl p w wg.length 0 (by omega); rw [List.drop_zero] at h; exact h
def stpB (st : List Sp) (th : Int) (p w v : Nat) : Bool := if (p : Int) = th then decide ((v : Int) < hiS (rdS st p) w) else inB (loS (rdS st p) w) (hiS (rdS st p) w) [(v : Int)]
theorem Step_f (st : List S41) (wg : List S80) (hok : RdOk (toSt st) (toWg wg)) (th : Int) (p w v : Nat) (hp : p < st.length) (hw : w ≤ 400) : rf_Step.f st wg (p : Int) (w : Int) (v : Int) ((p : Int) == th) = some (stpB (toSt st) th p w v) := by
 have hv := hok.at (p : Int) (by omega) (by rw [toSt_len]; omega); have e1 := Least_f (rdS (toSt st) (p : Int)) hv (w : Int) (by omega); have e2 := Greatest_f (rdS (toSt st) (p : Int)) hv (w : Int) (by omega)
 have er : rdS (toSt st) (p : Int) = ⟨st[p].f0, st[p].f1⟩ := by rw [rdS_nat _ _ (by rw [toSt_len]; exact hp), toSt_get st p hp]
 unfold rf_Step.f stpB
 rw [er] at e1 e2 ⊢; simp only at e1 e2; simp only [if_pos (show (0 : Int) ≤ (p : Int) by omega), if_pos (show (p : Int) < (st.length : Int) by omega), rdA st p hp, e1, e2, In_f, Option.bind_some]
 by_cases h : (p : Int) = th
 ·simp [h]
 ·simp [h]
def fwB (st : List Sp) (wg : List Wg) (th : Int) : Nat → Nat → Bool
 | 0, w => fitB wg 0 w
 | p + 1, v => fitB wg ((p + 1 : Nat) : Int) v && (List.range 401).any fun w => decide (v ≤ w) && fwB st wg th p w && stpB st th p w v
def acB (st : List Sp) (wg : List Wg) (th : Int) (p w v : Nat) : Bool := (List.range w).any fun w' => decide (v ≤ w') && fwB st wg th p w' && stpB st th p w' v
theorem acB_succ (st : List Sp) (wg : List Wg) (th : Int) (p w v : Nat) : acB st wg th p (w + 1) v = (acB st wg th p w v || (decide (v ≤ w) && fwB st wg th p w && stpB st th p w v)) := by
 unfold acB
 rw [List.range_succ, List.any_append]
 simp
def fuB (st : List Sp) (wg : List Wg) (th : Int) : Nat → Nat → Nat → Bool
 | 0, p, w => fwB st wg th p w
 | d + 1, p, w => fwB st wg th p w && (List.range (w + 1)).any fun v => fuB st wg th d (p + 1) v && stpB st th p w v
section
variable (st : List S41) (wg : List S80) (hok : RdOk (toSt st) (toWg wg)) (hl : wg.length ≤ 1000) (th : Int) (r : List (List Bool))
theorem Sets_l1 (p : Nat) (x6 : List (List Bool)) (x5 : Int) (g : Nat → Bool)
  (h : Ev (fun k => rf_Sets.l2 k th x5 x6 (p : Int) (T4 fun w => if p = 0 then fitB (toWg wg) 0 w else false) 0 st wg) r) (hok : RdOk (toSt st) (toWg wg)) (hl : wg.length ≤ 1000) : ∀ (d i : Nat), i + d = 401 → Ev (fun k => rf_Sets.l1 k th x5 x6 (p : Int) (T4 fun w => if w < i then (if p = 0 then fitB (toWg wg) 0 w else false) else g w) (i : Int) st wg) r
 | 0, i, hd => by
  refine Ev.up ?_; simp only [rf_Sets.l1, if_neg (show ¬ (i : Int) ≤ 400 by omega)]; rw [T4_congr (h := fun w => if p = 0 then fitB (toWg wg) 0 w else false) (fun j hj => if_pos (show j < i by omega))]; exact h
 | d + 1, i, hd => by
  have ih := Sets_l1 p x6 x5 g h hok hl d (i + 1) (by omega); refine Ev.up ?_
  have e : ∀ b, b = (if p = 0 then fitB (toWg wg) 0 i else false) → (T4 fun w => if w < i then (if p = 0 then fitB (toWg wg) 0 w else false) else g w).set i b = T4 fun w => if w < i + 1 then (if p = 0 then fitB (toWg wg) 0 w else false) else g w := by
   intro b hb; rw [T4_set, hb]; refine T4_congr (fun j hj => ?_)
   by_cases e1 : j = i
   ·rw [if_pos e1, if_pos (show j < i + 1 by omega), e1]
   ·rw [if_neg e1]
    by_cases e2 : j < i
    ·rw [if_pos e2, if_pos (show j < i + 1 by omega)]
    ·rw [if_neg e2, if_neg (show ¬ j < i + 1 by omega)]
  simp only [rf_Sets.l1, if_pos (show (i : Int) ≤ 400 by omega), if_pos (show (0 : Int) ≤ (i : Int) by omega), T4_len, if_pos (show (i : Int) < ((401 : Nat) : Int) by omega), wi i (by omega), Int.toNat_natCast]
  by_cases hp : p = 0
  ·subst hp
   simp only [Int.natCast_zero, Int.ofNat_eq_natCast, if_true] at *; refine Ev.bind (Fits_f st wg hok.wgs hl 0 (i : Int)) ?_; rw [e _ rfl]; exact ih
  ·simp only [if_neg (show ¬ (p : Int) = 0 by omega)]
   rw [e false (by rw [if_neg hp])]; exact ih
theorem Sets_l3 (n p : Nat) (x5 : Int) (hp : p < st.length) (w : Nat) (hw : w ≤ 400) (hok : RdOk (toSt st) (toWg wg))
  (h : Ev (fun k => rf_Sets.l2 k th x5 (rowsL (p + 1) (fwB (toSt st) (toWg wg) th)) ((p + 1 : Nat) : Int) (T4 (acB (toSt st) (toWg wg) th p (w + 1))) ((w + 1 : Nat) : Int) st wg) r) (hf : fwB (toSt st) (toWg wg) th p w = true) :
  ∀ (d i : Nat), i + d = w + 1 → Ev (fun k => rf_Sets.l3 k th x5 (rowsL (p + 1) (fwB (toSt st) (toWg wg) th)) ((p + 1 : Nat) : Int) (T4 fun v => if v < i then acB (toSt st) (toWg wg) th p (w + 1) v else acB (toSt st) (toWg wg) th p w v) (w : Int) (i : Int) st wg) r
 | 0, i, hd => by
  refine Ev.up ?_; simp only [rf_Sets.l3, if_neg (show ¬ (i : Int) ≤ (w : Int) by omega), wi w (by omega)]
  rw [T4_congr (h := acB (toSt st) (toWg wg) th p (w + 1)) (fun j hj => by
   by_cases e1 : j < i
   ·rw [if_pos e1]
   ·rw [if_neg e1, acB_succ, decide_eq_false (show ¬ j ≤ w by omega)]; simp)]
  exact h
 | d + 1, i, hd => by
  have ih := Sets_l3 n p x5 hp w hw hok h hf d (i + 1) (by omega); refine Ev.up ?_
  have e1 : wrap64 (((p + 1 : Nat) : Int) - 1) = (p : Int) := by
   have := hok.len; rw [toSt_len] at this; rw [wr (by omega)]; omega
  have e : ∀ b, b = acB (toSt st) (toWg wg) th p (w + 1) i → (T4 fun v => if v < i then acB (toSt st) (toWg wg) th p (w + 1) v else acB (toSt st) (toWg wg) th p w v).set i b = T4 fun v => if v < i + 1 then acB (toSt st) (toWg wg) th p (w + 1) v else acB (toSt st) (toWg wg) th p w v := by
   intro b hb; rw [T4_set, hb]; refine T4_congr (fun j hj => ?_)
   by_cases e1 : j = i
   ·rw [if_pos e1, if_pos (show j < i + 1 by omega), e1]
   ·rw [if_neg e1]
    by_cases e2 : j < i
    ·rw [if_pos e2, if_pos (show j < i + 1 by omega)]
    ·rw [if_neg e2, if_neg (show ¬ j < i + 1 by omega)]
  have ea : acB (toSt st) (toWg wg) th p (w + 1) i = (acB (toSt st) (toWg wg) th p w i || stpB (toSt st) th p w i) := by
   rw [acB_succ, hf, decide_eq_true (show i ≤ w by omega)]; simp
  simp only [rf_Sets.l3, if_pos (show (i : Int) ≤ (w : Int) by omega), e1, if_pos (show (0 : Int) ≤ (p : Int) by omega), rowsL_len, if_pos (show (p : Int) < ((p + 1 : Nat) : Int) by omega), if_pos (show (0 : Int) ≤ (w : Int) by omega), rowsL_get (p + 1) _ p (by omega), T4_len, if_pos (show (w : Int) < ((401 : Nat) : Int) by omega), T4_get _ w hw, hf, if_true, if_pos (show (0 : Int) ≤ (i : Int) by omega), if_pos (show (i : Int) < ((401 : Nat) : Int) by omega), T4_get _ i (show i ≤ 400 by omega), if_neg (show ¬ i < i by omega), wi i (by omega), Int.toNat_natCast]
  cases ha : acB (toSt st) (toWg wg) th p w i
  ·simp only [Bool.false_eq_true, if_false]
   simp only [Step_f st wg hok th p w i hp hw, Option.bind_some]; rw [e _ (by rw [ea, ha, Bool.false_or])]; exact ih
  ·simp only [if_true]
   rw [e true (by rw [ea, ha, Bool.true_or])]; exact ih
theorem Sets_l2 (p : Nat) (x5 : Int) (hp : p < st.length) (hok : RdOk (toSt st) (toWg wg))
  (h : Ev (fun k => rf_Sets.l4 k th x5 (rowsL (p + 1) (fwB (toSt st) (toWg wg) th)) ((p + 1 : Nat) : Int) (T4 (acB (toSt st) (toWg wg) th p 401)) 0 st wg) r) :
  ∀ (d w : Nat), w + d = 401 → Ev (fun k => rf_Sets.l2 k th x5 (rowsL (p + 1) (fwB (toSt st) (toWg wg) th)) ((p + 1 : Nat) : Int) (T4 (acB (toSt st) (toWg wg) th p w)) (w : Int) st wg) r
 | 0, w, hd => by
  obtain rfl : w = 401 := by omega
  refine Ev.up ?_; simp only [rf_Sets.l2, if_neg (show ¬ (((401 : Nat)) : Int) ≤ 400 by omega)]; refine Ev.up ?_; simp only [rf_Sets.j3, Bool.false_eq_true, if_false]; exact h
 | d + 1, w, hd => by
  have ih := Sets_l2 p x5 hp hok h d (w + 1) (by omega); refine Ev.up ?_; simp only [rf_Sets.l2, if_pos (show (w : Int) ≤ 400 by omega)]; refine Ev.up ?_; simp only [rf_Sets.j3, decide_eq_true (show ((p + 1 : Nat) : Int) > 0 by omega), if_true]
  cases hf : fwB (toSt st) (toWg wg) th p w
  ·refine Ev.up ?_
   have e1 : wrap64 (((p + 1 : Nat) : Int) - 1) = (p : Int) := by
    have := hok.len; rw [toSt_len] at this; rw [wr (by omega)]; omega
   simp only [rf_Sets.l3, if_pos (show (0 : Int) ≤ (w : Int) by omega), e1, if_pos (show (0 : Int) ≤ (p : Int) by omega), rowsL_len, if_pos (show (p : Int) < ((p + 1 : Nat) : Int) by omega), rowsL_get (p + 1) _ p (by omega), T4_len, if_pos (show (w : Int) < ((401 : Nat) : Int) by omega), T4_get _ w (show w ≤ 400 by omega), hf, Bool.false_eq_true, if_false, wi w (by omega)]; rw [T4_congr (g := acB (toSt st) (toWg wg) th p w) (h := acB (toSt st) (toWg wg) th p (w + 1)) (fun j hj => by rw [acB_succ, hf]; simp)]; exact ih
  ·have h3 := Sets_l3 st wg th r 0 p x5 hp w (by omega) hok ih hf (w + 1) 0 (by omega)
   simp only [show ∀ v, ¬ (v < 0) from fun v => by omega, if_false] at h3; exact h3
theorem Sets_l4 (p : Nat) (x5 : Int) (x6 : List (List Bool)) (hx : x6.length ≤ 1000) (hok : RdOk (toSt st) (toWg wg)) (hl : wg.length ≤ 1000) (g : Nat → Bool) (hp : p ≤ 1000)
  (h : Ev (fun k => rf_Sets.l0 k th x5 (x6 ++ [T4 fun v => g v && fitB (toWg wg) (p : Int) v]) ((p + 1 : Nat) : Int) st wg) r) :
  ∀ (d i : Nat), i + d = 401 → Ev (fun k => rf_Sets.l4 k th x5 x6 (p : Int) (T4 fun v => if v < i then (g v && fitB (toWg wg) (p : Int) v) else g v) (i : Int) st wg) r
 | 0, i, hd => by
  refine Ev.up ?_; simp only [rf_Sets.l4, if_neg (show ¬ (i : Int) ≤ 400 by omega), if_pos (show x6.length < 5864062014805 by omega), wi p (by omega)]; rw [T4_congr (h := fun v => g v && fitB (toWg wg) (p : Int) v) (fun j hj => if_pos (show j < i by omega))]; exact h
 | d + 1, i, hd => by
  have ih := Sets_l4 p x5 x6 hx hok hl g hp h d (i + 1) (by omega); refine Ev.up ?_
  have e : ∀ b, b = (g i && fitB (toWg wg) (p : Int) i) → (T4 fun v => if v < i then (g v && fitB (toWg wg) (p : Int) v) else g v).set i b = T4 fun v => if v < i + 1 then (g v && fitB (toWg wg) (p : Int) v) else g v := by
   intro b hb; rw [T4_set, hb]; refine T4_congr (fun j hj => ?_)
   by_cases e1 : j = i
   ·rw [if_pos e1, if_pos (show j < i + 1 by omega), e1]
   ·rw [if_neg e1]
    by_cases e2 : j < i
    ·rw [if_pos e2, if_pos (show j < i + 1 by omega)]
    ·rw [if_neg e2, if_neg (show ¬ j < i + 1 by omega)]
  simp only [rf_Sets.l4, if_pos (show (i : Int) ≤ 400 by omega), if_pos (show (0 : Int) ≤ (i : Int) by omega), T4_len, if_pos (show (i : Int) < ((401 : Nat) : Int) by omega), T4_get _ i (show i ≤ 400 by omega), if_neg (show ¬ i < i by omega), wi i (by omega), Int.toNat_natCast]
  cases hg : g i
  ·simp only [Bool.false_eq_true, if_false]
   rw [e false (by rw [hg]; rfl)]; exact ih
  ·simp only [if_true]
   refine Ev.bind (Fits_f st wg hok.wgs hl (p : Int) (i : Int)) ?_; rw [e _ (by rw [hg, Bool.true_and])]; exact ih
theorem Sets_l0 (hok : RdOk (toSt st) (toWg wg)) (hl : wg.length ≤ 1000) (hs : st.length ≤ 500)
  (h : Ev (fun k => rf_Sets.l5 k th (rowsL (st.length + 1) (fwB (toSt st) (toWg wg) th)) ((st.length : Int) - 1) st wg) r) :
  ∀ (d p : Nat), p + d = st.length + 1 → Ev (fun k => rf_Sets.l0 k th ((st.length : Int) + 1) (rowsL p (fwB (toSt st) (toWg wg) th)) (p : Int) st wg) r
 | 0, p, hd => by
  obtain rfl : p = st.length + 1 := by omega
  refine Ev.up ?_; simp only [rf_Sets.l0, if_neg (show ¬ ((st.length + 1 : Nat) : Int) < (st.length : Int) + 1 by omega)]; rw [wr (by omega), show (st.length : Int) + 1 - 2 = (st.length : Int) - 1 by omega]; exact h
 | d + 1, p, hd => by
  have ih := Sets_l0 hok hl hs h d (p + 1) (by omega); refine Ev.up ?_; simp only [rf_Sets.l0, if_pos (show (p : Int) < (st.length : Int) + 1 by omega), if_pos (show 401 ≤ 281474976710656 by omega)]
  have e0 : List.replicate 401 false = T4 fun w => if w < 0 then (if p = 0 then fitB (toWg wg) 0 w else false) else false := by
   unfold T4
   rw [List.map_congr_left (g := fun _ => false) (fun j _ => if_neg (show ¬ j < 0 by omega)), List.map_const', List.length_range]
  rw [e0]; refine Sets_l1 st wg th r p (rowsL p (fwB (toSt st) (toWg wg) th)) ((st.length : Int) + 1) (fun _ => false) ?_ hok hl 401 0 (by omega); rw [← rowsL_succ] at ih
  match p, hd, ih with
  | 0, hd, ih =>
   refine Ev.up ?_; simp only [rf_Sets.l2, if_pos (show (0 : Int) ≤ 400 by omega), Int.natCast_zero, Int.ofNat_eq_natCast]; refine Ev.up ?_; simp only [rf_Sets.j3, decide_eq_false (show ¬ ((0 : Int) > 0) by omega), Bool.false_eq_true, if_false, if_true]
   have h4 := Sets_l4 st wg th r 0 ((st.length : Int) + 1) (rowsL 0 (fwB (toSt st) (toWg wg) th)) (by simp [rowsL]) hok hl (fun w => fitB (toWg wg) 0 w) (by omega) (by
    rw [T4_congr (h := fwB (toSt st) (toWg wg) th 0) (fun j hj => by
     show (fitB (toWg wg) 0 j && fitB (toWg wg) ((0 : Nat) : Int) j) = fitB (toWg wg) 0 j
     simp)]
    exact ih) 401 0 (by omega)
   simp only [show ∀ v, ¬ (v < 0) from fun v => by omega, if_false] at h4; exact h4
  | p + 1, hd, ih =>
   have e1 : (T4 fun w => if p + 1 = 0 then fitB (toWg wg) 0 w else false) = T4 (acB (toSt st) (toWg wg) th p 0) := T4_congr (fun j hj => by rw [if_neg (by omega)]; rfl); rw [e1]; refine Sets_l2 st wg th r p ((st.length : Int) + 1) (by omega) hok ?_ 401 0 (by omega)
   have h4 := Sets_l4 st wg th r (p + 1) ((st.length : Int) + 1) (rowsL (p + 1) (fwB (toSt st) (toWg wg) th)) (by rw [rowsL_len]; omega) hok hl (acB (toSt st) (toWg wg) th p 401) (by omega) (by
    rw [T4_congr (h := fwB (toSt st) (toWg wg) th (p + 1)) (fun j hj => by
     rw [Bool.and_comm]
     rfl)]
    exact ih) 401 0 (by omega)
   simp only [show ∀ v, ¬ (v < 0) from fun v => by omega, if_false] at h4; exact h4
end
end Go.Proofs.YtemingmeidmjkaaDoor.Q
namespace Go.Proofs.YtemingmeidmjkaaDoor.Q
open Go.RowKit Go.Proofs.YtemingmeidmjkaaDoorW.PrintWords
set_option linter.unusedVariables false
set_option linter.unusedSimpArgs false
def anF (f : Nat → Bool) : Nat → Nat → Bool
 | 0, _ => false
 | d + 1, i => f i || anF f d (i + 1)
theorem anF_eq (f : Nat → Bool) : ∀ (d i : Nat), anF f d i = (List.range d).any fun t => f (i + t)
 | 0, i => rfl
 | d + 1, i => by
  rw [anF, anF_eq f d (i + 1), List.range_succ_eq_map, List.any_cons, List.any_map]
  congr 1
  congr 1
  funext t
  simp only [Function.comp]; rw [show i + 1 + t = i + (t + 1) by omega]
theorem anF_zero (f : Nat → Bool) (d : Nat) : anF f d 0 = (List.range d).any f := by
 rw [anF_eq]
 congr 1
 funext t
 rw [Nat.zero_add]
def upR (R : Nat → Nat → Bool) (p w : Nat) (b : Bool) : Nat → Nat → Bool := fun q => if q = p then (fun j => if j = w then b else R p j) else R q
section
variable (st : List S41) (wg : List S80) (th : Int) (r : List (List Bool))
theorem Sets_l7 (n p w : Nat) (hn : n = st.length + 1) (hp : p < st.length) (hw : w ≤ 400) (hok : RdOk (toSt st) (toWg wg)) (R : Nat → Nat → Bool) : ∀ (d i : Nat) (c : Bool), i + d = w + 1 → (c = true → R p w = true) →
  Ev (fun k => rf_Sets.l6 k th (rowsL n (upR R p w (R p w && (c || anF (fun v => R (p + 1) v && stpB (toSt st) th p w v) d i)))) (p : Int) ((w + 1 : Nat) : Int) st wg) r →
  Ev (fun k => rf_Sets.l7 k th (rowsL n R) (p : Int) (w : Int) c (i : Int) st wg) r
 | 0, i, c, hd, hc, h => by
  refine Ev.up ?_
  have e : (R p w && (c || anF (fun v => R (p + 1) v && stpB (toSt st) th p w v) 0 i)) = c := by
   cases c
   ·simp [anF]
   ·rw [hc rfl]; rfl
  rw [e] at h; simp only [rf_Sets.l7, if_neg (show ¬ (i : Int) ≤ (w : Int) by omega), if_pos (show (0 : Int) ≤ (p : Int) by omega), rowsL_len, if_pos (show (p : Int) < (n : Int) by omega), if_pos (show (0 : Int) ≤ (w : Int) by omega), rowsL_get n R p (by omega), T4_len, if_pos (show (w : Int) < ((401 : Nat) : Int) by omega), Int.toNat_natCast, T4_set, wi w (by omega)]; rw [rowsL_set n R p _ (by omega)]; exact h
 | d + 1, i, c, hd, hc, h => by
  have hset : ∀ b, (rowsL n R).set p ((T4 (R p)).set w b) = rowsL n (upR R p w b) := by
   intro b; rw [T4_set, rowsL_set n R p _ (by omega)]; rfl
  have hlen := hok.len; rw [toSt_len] at hlen; refine Ev.up ?_; simp only [rf_Sets.l7, if_pos (show (i : Int) ≤ (w : Int) by omega), if_pos (show (0 : Int) ≤ (p : Int) by omega), rowsL_len, if_pos (show (p : Int) < (n : Int) by omega), if_pos (show (0 : Int) ≤ (w : Int) by omega), rowsL_get n R p (by omega), T4_len, if_pos (show (w : Int) < ((401 : Nat) : Int) by omega), Int.toNat_natCast, T4_get _ w hw, wi w (by omega), hset]
  cases hr : R p w
  ·have hcf : c = false := by
    cases c
    ·rfl
    ·rw [hc rfl] at hr; cases hr
   subst hcf; rw [hr] at h; simp only [Bool.false_and] at h; simp only [Bool.false_eq_true, if_false]; exact h
  ·simp only [if_true]
   cases c
   ·simp only [Bool.false_eq_true, if_false, wi p (by omega), if_pos (show (0 : Int) ≤ ((p + 1 : Nat) : Int) by omega), if_pos (show ((p + 1 : Nat) : Int) < (n : Int) by omega), if_pos (show (0 : Int) ≤ (i : Int) by omega), rowsL_get n R (p + 1) (by omega), T4_len, if_pos (show (i : Int) < ((401 : Nat) : Int) by omega), T4_get _ i (show i ≤ 400 by omega), wi i (by omega)]
    rw [hr] at h; simp only [anF, Bool.true_and, Bool.false_or] at h
    cases h2 : R (p + 1) i
    ·simp only [Bool.false_eq_true, if_false]
     refine Sets_l7 n p w hn hp hw hok R d (i + 1) false (by omega) (fun e => by cases e) ?_; rw [hr]; rw [h2] at h
     simpa using h
    ·simp only [if_true, Step_f st wg hok th p w i hp hw, Option.bind_some]
     refine Sets_l7 n p w hn hp hw hok R d (i + 1) _ (by omega) (fun _ => hr) ?_; rw [hr]; rw [h2] at h
     simpa using h
   ·simp only [if_true]
    rw [hr] at h; simp only [Bool.true_or, Bool.and_self] at h; exact h
def bkR (R : Nat → Nat → Bool) (th : Int) (sts : List Sp) (p : Nat) : Nat → Bool := fun w => R p w && (List.range (w + 1)).any fun v => R (p + 1) v && stpB sts th p w v
def atR (R : Nat → Nat → Bool) (th : Int) (sts : List Sp) (p i : Nat) : Nat → Nat → Bool := fun q => if q = p then (fun w => if w < i then bkR R th sts p w else R p w) else R q
theorem Sets_l6 (n p : Nat) (hn : n = st.length + 1) (hp : p < st.length) (hok : RdOk (toSt st) (toWg wg)) (R : Nat → Nat → Bool)
  (h : Ev (fun k => rf_Sets.l5 k th (rowsL n (atR R th (toSt st) p 401)) ((p : Int) - 1) st wg) r) : ∀ (d i : Nat), i + d = 401 → Ev (fun k => rf_Sets.l6 k th (rowsL n (atR R th (toSt st) p i)) (p : Int) (i : Int) st wg) r
 | 0, i, hd => by
  obtain rfl : i = 401 := by omega
  refine Ev.up ?_; have hlen := hok.len; rw [toSt_len] at hlen; simp only [rf_Sets.l6, if_neg (show ¬ ((401 : Nat) : Int) ≤ 400 by omega)]; rw [wr (by omega)]; exact h
 | d + 1, i, hd => by
  have ih := Sets_l6 n p hn hp hok R h d (i + 1) (by omega); refine Ev.up ?_; simp only [rf_Sets.l6, if_pos (show (i : Int) ≤ 400 by omega)]; refine Sets_l7 st wg th r n p i hn hp (by omega) hok (atR R th (toSt st) p i) (i + 1) 0 false (by omega) (fun e => by cases e) ?_
  have e : rowsL n (upR (atR R th (toSt st) p i) p i (atR R th (toSt st) p i p i && (false || anF (fun v => atR R th (toSt st) p i (p + 1) v && stpB (toSt st) th p i v) (i + 1) 0))) = rowsL n (atR R th (toSt st) p (i + 1)) := by
   refine rowsL_congr (fun q hq j hj => ?_)
   have a1 : atR R th (toSt st) p i p i = R p i := by simp [atR]
   have a2 : ∀ v, atR R th (toSt st) p i (p + 1) v = R (p + 1) v := fun v => by simp [atR]
   have a3 : (atR R th (toSt st) p i p i && (false || anF (fun v => atR R th (toSt st) p i (p + 1) v && stpB (toSt st) th p i v) (i + 1) 0)) = bkR R th (toSt st) p i := by
    rw [a1, Bool.false_or, anF_zero]; simp only [a2]; rfl
   rw [a3]
   by_cases e1 : q = p
   ·subst e1
    simp only [upR, if_true, atR]
    by_cases e2 : j = i
    ·subst e2
     simp
    ·rw [if_neg e2]
     by_cases e3 : j < i
     ·rw [if_pos e3, if_pos (show j < i + 1 by omega)]
     ·rw [if_neg e3, if_neg (show ¬ j < i + 1 by omega)]
   ·simp only [upR, if_neg e1, atR]
  rw [e]; exact ih
def gR (sts : List Sp) (wgs : List Wg) (th : Int) (p : Nat) : Nat → Nat → Bool := fun q => if q < p then fwB sts wgs th q else fuB sts wgs th (sts.length - q) q
theorem Sets_l5 (hok : RdOk (toSt st) (toWg wg)) : ∀ (p : Nat), p ≤ st.length → Ev (fun k => rf_Sets.l5 k th (rowsL (st.length + 1) (gR (toSt st) (toWg wg) th p)) ((p : Int) - 1) st wg) (rowsL (st.length + 1) fun q => fuB (toSt st) (toWg wg) th (st.length - q) q)
 | 0, _ => by
  refine Ev.up ?_; simp only [rf_Sets.l5, if_neg (show ¬ (((0 : Nat) : Int) - 1 ≥ 0) by omega)]; rw [rowsL_congr (S := fun q => fuB (toSt st) (toWg wg) th (st.length - q) q) (fun q _ j _ => by simp [gR, toSt_len])]; exact Ev.now _
 | p + 1, hp => by
  have ih := Sets_l5 hok p (by omega); refine Ev.up ?_; rw [show ((p + 1 : Nat) : Int) - 1 = (p : Int) by omega]; simp only [rf_Sets.l5, if_pos (show (p : Int) ≥ 0 by omega)]
  have e : rowsL (st.length + 1) (gR (toSt st) (toWg wg) th (p + 1)) = rowsL (st.length + 1) (atR (gR (toSt st) (toWg wg) th (p + 1)) th (toSt st) p 0) := by
   refine rowsL_congr (fun q _ j _ => ?_)
   unfold atR
   by_cases e1 : q = p
   ·rw [if_pos e1, e1]; simp
   ·rw [if_neg e1]
  rw [e]; refine Sets_l6 st wg th _ (st.length + 1) p rfl (by omega) hok (gR (toSt st) (toWg wg) th (p + 1)) ?_ 401 0 (by omega)
  have e2 : rowsL (st.length + 1) (atR (gR (toSt st) (toWg wg) th (p + 1)) th (toSt st) p 401) = rowsL (st.length + 1) (gR (toSt st) (toWg wg) th p) := by
   refine rowsL_congr (fun q _ j hj => ?_)
   unfold atR
   by_cases e1 : q = p
   ·subst e1
    rw [if_pos rfl]; simp only [if_pos (show j < 401 by omega)]
    unfold bkR gR
    simp only [if_pos (show q < q + 1 by omega), if_neg (show ¬ q + 1 < q + 1 by omega), if_neg (show ¬ q < q by omega), toSt_len]; rw [show st.length - q = (st.length - (q + 1)) + 1 by omega]; rfl
   ·rw [if_neg e1]
    unfold gR
    by_cases e3 : q < p
    ·rw [if_pos e3, if_pos (show q < p + 1 by omega)]
    ·rw [if_neg e3, if_neg (show ¬ q < p + 1 by omega)]
  rw [e2]; exact ih
theorem Sets_f (hok : RdOk (toSt st) (toWg wg)) (hl : wg.length ≤ 1000) (hs : st.length ≤ 500) : Ev (fun k => rf_Sets.f k st wg th) (rowsL (st.length + 1) fun q => fuB (toSt st) (toWg wg) th (st.length - q) q) := by
 unfold rf_Sets.f
 rw [wr (by omega)]; have h5 := Sets_l5 st wg th hok st.length (Nat.le_refl _)
 have e : rowsL (st.length + 1) (gR (toSt st) (toWg wg) th st.length) = rowsL (st.length + 1) (fwB (toSt st) (toWg wg) th) := by
  refine rowsL_congr (fun q hq j _ => ?_)
  unfold gR
  by_cases e1 : q < st.length
  ·rw [if_pos e1]
  ·rw [if_neg e1, toSt_len, show st.length - q = 0 by omega]
   rfl
 rw [e] at h5; exact Sets_l0 st wg th _ hok hl hs h5 (st.length + 1) 0 (by omega)
end
end Go.Proofs.YtemingmeidmjkaaDoor.Q
namespace Go.Proofs.YtemingmeidmjkaaDoor.Q
open Go.RowKit Go.Proofs.YtemingmeidmjkaaDoorW.PrintWords
set_option linter.unusedVariables false
set_option linter.unusedSimpArgs false
theorem trimLo_in {st after : Sp} (h : stB st) (w : Int) : ∀ (n : Nat) (s : Sp), s.hi - s.lo + 1 ≤ n → (inS (trimLo st after n s) w ↔ inS s w ∧ after.lo ≤ hiS st w)
 | 0, s, hn => by
  unfold trimLo inS
  omega
 | n + 1, s, hn => by
  unfold trimLo
  by_cases h1 : s.lo > s.hi
  ·rw [if_pos h1]
   unfold inS
   omega
  ·rw [if_neg h1]
   by_cases h2 : hiS st s.lo < after.lo
   ·rw [if_pos h2, trimLo_in h w n _ (by simp only; omega)]
    unfold inS
    simp only
    constructor
    ·rintro ⟨h3, h4⟩; exact ⟨by omega, h4⟩
    ·rintro ⟨h3, h4⟩
     refine ⟨⟨?_, h3.2⟩, h4⟩
     by_cases e : w = s.lo
     ·rw [e] at h4; omega
     ·omega
   ·rw [if_neg h2]
    constructor
    ·intro h3
     have := hiS_mono h (w := s.lo) (w' := w) h3.1; exact ⟨h3, by omega⟩
    ·exact fun h3 => h3.1
theorem trimHi_in {st after : Sp} (h : stB st) (w : Int) : ∀ (n : Nat) (s : Sp), s.hi - s.lo + 1 ≤ n → (inS (trimHi st after n s) w ↔ inS s w ∧ loS st w ≤ after.hi)
 | 0, s, hn => by
  unfold trimHi inS
  omega
 | n + 1, s, hn => by
  unfold trimHi
  by_cases h1 : s.lo > s.hi
  ·rw [if_pos h1]
   unfold inS
   omega
  ·rw [if_neg h1]
   by_cases h2 : loS st s.hi > after.hi
   ·rw [if_pos h2, trimHi_in h w n _ (by simp only; omega)]
    unfold inS
    simp only
    constructor
    ·rintro ⟨h3, h4⟩; exact ⟨by omega, h4⟩
    ·rintro ⟨h3, h4⟩
     refine ⟨⟨h3.1, ?_⟩, h4⟩
     by_cases e : w = s.hi
     ·rw [e] at h4; omega
     ·omega
   ·rw [if_neg h2]
    constructor
    ·intro h3
     have := loS_mono h (w := w) (w' := s.hi) h3.2; exact ⟨h3, by omega⟩
    ·exact fun h3 => h3.1
theorem ok_len {s : Sp} (h : okS s) : s.hi - s.lo + 1 ≤ ((402 : Nat) : Int) := by
 unfold okS at h
 omega
theorem back_in {st s after : Sp} (h : stB st) (hs : okS s) (w : Int) : inS (backS st s after) w ↔ inS s w ∧ ∃ v, inS after v ∧ loS st w ≤ v ∧ v ≤ hiS st w := by
 unfold backS
 by_cases ha : after.lo > after.hi
 ·rw [if_pos ha]
  constructor
  ·intro h1; unfold inS at h1; omega
  ·rintro ⟨_, v, h1, _⟩; unfold inS at h1; omega
 ·rw [if_neg ha, trimHi_in h w 402 _ (ok_len (trimLo_ok _ _ _ _ hs)), trimLo_in h w 402 _ (ok_len hs)]
  constructor
  ·rintro ⟨⟨h1, h2⟩, h3⟩
   have h0 : 0 ≤ w := by unfold okS inS at *; omega
   exact ⟨h1, (meets st after w h h0).2 ⟨by omega, h2, h3⟩⟩
  ·rintro ⟨h1, h2⟩
   have h0 : 0 ≤ w := by unfold okS inS at *; omega
   obtain ⟨_, h3, h4⟩ := (meets st after w h h0).1 h2; exact ⟨⟨h1, h3⟩, h4⟩
theorem on_in {st s : Sp} (h : stB st) (hs : okS s) (v : Int) : inS (onS st s) v ↔ ∃ w, inS s w ∧ loS st w ≤ v ∧ v ≤ hiS st w := by
 by_cases hn : s.lo > s.hi
 ·constructor
  ·intro h1
   unfold onS at h1
   rw [if_pos hn] at h1
   unfold inS at h1
   omega
  ·rintro ⟨w, h1, _⟩
   unfold inS at h1
   omega
 ·exact onS_mem h s (by unfold okS at hs; omega) v
theorem goL_rd : ∀ (ts l : List Sp), l.length = ts.length + 1 → (∀ i : Nat, i < ts.length → rdS (goL ts l) (i : Int) = backS (rdS ts (i : Int)) (rdS l (i : Int)) (rdS (goL ts l) ((i + 1 : Nat) : Int))) ∧ rdS (goL ts l) (ts.length : Int) = rdS l (ts.length : Int)
 | [], l, h => ⟨fun i hi => by simp at hi, by cases l <;> rfl⟩
 | t :: ts, [], h => by simp at h
 | t :: ts, s :: l, h => by
  have hl : l.length = ts.length + 1 := by simpa using h
  obtain ⟨h1, h2⟩ := goL_rd ts l hl
  have sh : ∀ (x : Sp) (m : List Sp) (j : Nat), rdS (x :: m) ((j + 1 : Nat) : Int) = rdS m (j : Int) := fun x m j => by
   unfold rdS
   rw [Int.toNat_natCast, Int.toNat_natCast, List.getD_cons_succ]
  refine ⟨fun i hi => ?_, ?_⟩
  ·match i with
   | 0 =>
    rw [goL, sh]
    have e : (goL ts l).headD z_Sp = rdS (goL ts l) ((0 : Nat) : Int) := by
     cases goL ts l <;> rfl
    rw [e]; rfl
   | i + 1 =>
    rw [goL, sh, sh, sh, sh]; exact h1 i (by simpa using hi)
  ·rw [goL, List.length_cons, sh, sh]
   exact h2
section
variable {st : List Sp} {wg : List Wg}
theorem stp_hon {p w v : Nat} : stpB st (-1) p w v = true ↔ loS (rdS st p) w ≤ v ∧ (v : Int) ≤ hiS (rdS st p) w := by
 unfold stpB
 rw [if_neg (by omega), inB_one]
theorem fw_come (hok : RdOk st wg) : ∀ (p : Nat), p ≤ st.length → ∀ w : Nat, w ≤ 400 → (fwB st wg (-1) p w = true ↔ inS (comeAt st wg p) (w : Int))
 | 0, _, w, hw => fit_seen wg 0 (w : Int) (by omega)
 | p + 1, hp, v, hv => by
  have ih := fw_come hok p (by omega); have ho := comeAt_ok hok p (by omega); have hst := hok.at (p : Int) (by omega) (by omega); rw [comeAt, inS_and, on_in hst ho, fwB, Bool.and_eq_true, fit_seen wg _ (v : Int) (by omega), List.any_eq_true]
  constructor
  ·rintro ⟨h1, w, hw, h2⟩
   have hw4 := List.mem_range.1 hw; simp only [Bool.and_eq_true, decide_eq_true_eq] at h2; exact ⟨⟨(w : Int), (ih w (by omega)).1 h2.1.2, stp_hon.1 h2.2⟩, h1⟩
  ·rintro ⟨⟨w, h1, h2, h3⟩, h4⟩
   have hb : 0 ≤ w ∧ w ≤ 400 := by unfold okS inS at *; omega
   have h5 := hiS_le hst (w := w) hb.1; obtain ⟨m, rfl⟩ : ∃ m : Nat, w = (m : Int) := ⟨w.toNat, by omega⟩; refine ⟨h4, m, List.mem_range.2 (by omega), ?_⟩; simp only [Bool.and_eq_true, decide_eq_true_eq]; exact ⟨⟨by omega, (ih m (by omega)).2 h1⟩, stp_hon.2 ⟨h2, h3⟩⟩
theorem comeL_rd' (st : List Sp) (wg : List Wg) (j : Nat) (h : j ≤ st.length) : rdS (comeL st wg) (j : Int) = comeAt st wg j := by
 rw [rdS_nat _ _ (by rw [comeL_len]; omega)]
 simp [comeL]
theorem honL_okS (hok : RdOk st wg) (p : Nat) (hp : p ≤ st.length) : okS (rdS (honL st wg) (p : Int)) := by
 rw [rdS_nat _ _ (by rw [honL_len]; omega)]; exact goL_ok st (comeL st wg) (comeL_ok hok) _ (List.getElem_mem _)
theorem fu_hon (hok : RdOk st wg) : ∀ (d p : Nat), p + d = st.length → ∀ w : Nat, w ≤ 400 → (fuB st wg (-1) d p w = true ↔ inS (rdS (honL st wg) (p : Int)) (w : Int))
 | 0, p, hp, w, hw => by
  obtain rfl : p = st.length := by omega
  have h := (goL_rd st (comeL st wg) (comeL_len st wg)).2; rw [honL, h, comeL_rd' st wg _ (Nat.le_refl _)]; exact fw_come hok _ (Nat.le_refl _) w hw
 | d + 1, p, hp, w, hw => by
  have ih := fu_hon hok d (p + 1) (by omega); have h := (goL_rd st (comeL st wg) (comeL_len st wg)).1 p (by omega); have hst := hok.at (p : Int) (by omega) (by omega); have ho := comeAt_ok hok p (by omega); have ho2 := honL_okS hok (p + 1) (by omega); rw [honL, h, comeL_rd' st wg p (by omega), back_in hst ho, fuB, Bool.and_eq_true, fw_come hok p (by omega) w hw, List.any_eq_true]
  constructor
  ·rintro ⟨h1, v, hv, h2⟩
   have hv4 := List.mem_range.1 hv; simp only [Bool.and_eq_true] at h2; exact ⟨h1, (v : Int), (ih v (by omega)).1 h2.1, stp_hon.1 h2.2⟩
  ·rintro ⟨h1, v, h2, h3, h4⟩
   have h5 := hiS_le hst (w := (w : Int)) (by omega)
   have hv0 : 0 ≤ v := by
    have : inS (rdS (honL st wg) ((p + 1 : Nat) : Int)) v := h2
    unfold okS inS at *
    omega
   obtain ⟨m, rfl⟩ : ∃ m : Nat, v = (m : Int) := ⟨v.toNat, by omega⟩; refine ⟨h1, m, List.mem_range.2 (by omega), ?_⟩; rw [Bool.and_eq_true]; exact ⟨(ih m (by omega)).2 h2, stp_hon.2 ⟨h3, h4⟩⟩
theorem hon_is (hok : RdOk st wg) : honB st wg = true ↔ ∃ w : Nat, w ≤ 400 ∧ fuB st wg (-1) st.length 0 w = true := by
 have hn : honB st wg = true ↔ ∀ p : Nat, p ≤ st.length → ¬ (rdS (honL st wg) (p : Int)).lo > (rdS (honL st wg) (p : Int)).hi := by
  unfold honB
  rw [Bool.not_eq_true', List.any_eq_false]
  constructor
  ·intro h p hp
   have h1 := h (rdS (honL st wg) (p : Int)) (by rw [rdS_nat _ _ (by rw [honL_len]; omega)]; exact List.getElem_mem _)
   simpa [noneB] using h1
  ·intro h s hs
   obtain ⟨i, hi, rfl⟩ := List.getElem_of_mem hs; have h1 := h i (by rw [honL_len] at hi; omega); rw [rdS_nat _ _ hi] at h1
   simpa [noneB] using h1
 rw [hn]
 constructor
 ·intro h
  have h0 := h 0 (by omega); have ho := honL_okS hok 0 (by omega)
  generalize hs : rdS (honL st wg) ((0 : Nat) : Int) = s at *
  have hb : 0 ≤ s.lo ∧ s.lo ≤ s.hi ∧ s.hi ≤ 400 := by unfold okS at ho; omega
  refine ⟨s.lo.toNat, by omega, (fu_hon hok st.length 0 (by omega) _ (by omega)).2 ?_⟩; rw [hs]
  unfold inS
  omega
 ·rintro ⟨w, hw, h⟩
  have key : ∀ (d p : Nat), p + d = st.length → (∃ w : Nat, w ≤ 400 ∧ fuB st wg (-1) d p w = true) → ∀ q : Nat, p ≤ q → q ≤ st.length → ¬ (rdS (honL st wg) (q : Int)).lo > (rdS (honL st wg) (q : Int)).hi := by
   intro d
   induction d with
   | zero =>
    rintro p hp ⟨w, hw, h⟩ q h1 h2
    obtain rfl : q = p := by omega
    have := (fu_hon hok 0 q (by omega) w hw).1 h
    unfold inS at this
    omega
   | succ d ih =>
    rintro p hp ⟨w, hw, h⟩ q h1 h2
    by_cases e : q = p
    ·subst e
     have := (fu_hon hok (d + 1) q (by omega) w hw).1 h
     unfold inS at this
     omega
    ·rw [fuB, Bool.and_eq_true, List.any_eq_true] at h
     obtain ⟨_, v, hv, h3⟩ := h; have hv4 := List.mem_range.1 hv; rw [Bool.and_eq_true] at h3; exact ih (p + 1) (by omega) ⟨v, by omega, h3.1⟩ q (by omega) h2
  exact fun p hp => key st.length 0 (by omega) ⟨w, hw, h⟩ p (by omega) hp
end
end Go.Proofs.YtemingmeidmjkaaDoor.Q
namespace Go.Proofs.YtemingmeidmjkaaDoor.Q
open Go.RowKit Go.Proofs.YtemingmeidmjkaaDoorW.PrintWords
set_option linter.unusedVariables false
set_option linter.unusedSimpArgs false
section
variable {st : List Sp} {wg : List Wg} {s : Nat}
theorem stp_ne {p w v : Nat} (h : p ≠ s) : stpB st (s : Int) p w v = true ↔ loS (rdS st p) w ≤ v ∧ (v : Int) ≤ hiS (rdS st p) w := by
 unfold stpB
 rw [if_neg (by omega), inB_one]
theorem stp_at {w v : Nat} : stpB st (s : Int) s w v = true ↔ (v : Int) < hiS (rdS st s) w := by
 unfold stpB
 rw [if_pos rfl, decide_eq_true_eq]
theorem fw_step (hok : RdOk st wg) (p : Nat) (hp : p < st.length) (hps : p ≠ s) (X : Sp) (hX : okS X) (ih : ∀ w : Nat, w ≤ 400 → (fwB st wg s p w = true ↔ inS X (w : Int))) (v : Nat) (hv : v ≤ 400) :
  fwB st wg s (p + 1) v = true ↔ inS (andS (onS (rdS st p) X) (seenS wg ((p + 1 : Nat) : Int))) (v : Int) := by
 have hst := hok.at (p : Int) (by omega) (by omega); rw [inS_and, on_in hst hX, fwB, Bool.and_eq_true, fit_seen wg _ (v : Int) (by omega), List.any_eq_true]
 constructor
 ·rintro ⟨h1, w, hw, h2⟩
  have hw4 := List.mem_range.1 hw; simp only [Bool.and_eq_true, decide_eq_true_eq] at h2; exact ⟨⟨(w : Int), (ih w (by omega)).1 h2.1.2, (stp_ne hps).1 h2.2⟩, h1⟩
 ·rintro ⟨⟨w, h1, h2, h3⟩, h4⟩
  have hb : 0 ≤ w ∧ w ≤ 400 := by unfold okS inS at *; omega
  have h5 := hiS_le hst (w := w) hb.1; obtain ⟨m, rfl⟩ : ∃ m : Nat, w = (m : Int) := ⟨w.toNat, by omega⟩; refine ⟨h4, m, List.mem_range.2 (by omega), ?_⟩; simp only [Bool.and_eq_true, decide_eq_true_eq]; exact ⟨⟨by omega, (ih m (by omega)).2 h1⟩, (stp_ne hps).2 ⟨h2, h3⟩⟩
theorem fw_le (hok : RdOk st wg) (hs : s < st.length) : ∀ (p : Nat), p ≤ s → ∀ w : Nat, w ≤ 400 → (fwB st wg s p w = true ↔ inS (comeAt st wg p) (w : Int))
 | 0, _, w, hw => fit_seen wg 0 (w : Int) (by omega)
 | p + 1, hp, v, hv => fw_step hok p (by omega) (by omega) _ (comeAt_ok hok p (by omega)) (fun w hw => fw_le hok hs p (by omega) w hw) v hv
theorem fw_gt (hok : RdOk st wg) (hs : s < st.length) (hne : ¬ (comeAt st wg s).lo > (comeAt st wg s).hi) : ∀ (p : Nat), s < p → p ≤ st.length → ∀ w : Nat, w ≤ 400 → (fwB st wg s p w = true ↔ inS (thA st wg s p) (w : Int))
 | 0, h, _, _, _ => by omega
 | p + 1, hp, hpn, v, hv => by
  by_cases e : p = s
  ·subst e
   have ih := fw_le hok hs p (Nat.le_refl _); have hst := hok.at (p : Int) (by omega) (by omega); have ho := comeAt_ok hok p (by omega)
   have hb : 0 ≤ (comeAt st wg p).lo ∧ (comeAt st wg p).hi ≤ 400 := by unfold okS at ho; omega
   rw [thA_at, inS_and, fwB, Bool.and_eq_true, fit_seen wg _ (v : Int) (by omega), List.any_eq_true]
   have e1 : (onS (rdS st p) (comeAt st wg p)).hi = hiS (rdS st p) (comeAt st wg p).hi := by
    unfold onS
    rw [if_neg hne]
   rw [e1]
   constructor
   ·rintro ⟨h1, w, hw, h2⟩
    have hw4 := List.mem_range.1 hw; simp only [Bool.and_eq_true, decide_eq_true_eq] at h2; have h3 := (ih w (by omega)).1 h2.1.2; have h4 := stp_at.1 h2.2; have h5 := hiS_mono hst (w := (w : Int)) (w' := (comeAt st wg p).hi) h3.2; refine ⟨?_, h1⟩
    unfold inS
    simp only; omega
   ·rintro ⟨h1, h2⟩
    unfold inS at h1
    simp only at h1; obtain ⟨m, hm⟩ : ∃ m : Nat, (comeAt st wg p).hi = (m : Int) := ⟨(comeAt st wg p).hi.toNat, by omega⟩; have h5 := hiS_le hst (w := (m : Int)) (by omega); rw [hm] at h1 hb hne; refine ⟨h2, m, List.mem_range.2 (by omega), ?_⟩; simp only [Bool.and_eq_true, decide_eq_true_eq]; refine ⟨⟨by omega, (ih m (by omega)).2 ?_⟩, stp_at.2 (by omega)⟩
    unfold inS
    rw [hm]; omega
  ·rw [thA_gt _ _ _ _ (by omega)]
   exact fw_step hok p (by omega) e _ (thA_ok hok s hs p (by omega)) (fun w hw => fw_gt hok hs hne p (by omega) (by omega) w hw) v hv
theorem rd_drop (L : List Sp) (k i : Nat) : rdS (L.drop k) (i : Int) = rdS L ((k + i : Nat) : Int) := by
 unfold rdS
 rw [Int.toNat_natCast, Int.toNat_natCast, List.getD_eq_getElem?_getD, List.getD_eq_getElem?_getD, List.getElem?_drop]
theorem rd_take (L : List Sp) (k i : Nat) (h : i < k) : rdS (L.take k) (i : Int) = rdS L (i : Int) := by
 unfold rdS
 rw [Int.toNat_natCast, List.getD_eq_getElem?_getD, List.getD_eq_getElem?_getD, List.getElem?_take, if_pos h]
theorem rd_left (L M : List Sp) (i : Nat) (h : i < L.length) : rdS (L ++ M) (i : Int) = rdS L (i : Int) := by
 unfold rdS
 rw [Int.toNat_natCast, List.getD_eq_getElem?_getD, List.getD_eq_getElem?_getD, List.getElem?_append_left h]
theorem rd_right (L M : List Sp) (i : Nat) (h : L.length ≤ i) : rdS (L ++ M) (i : Int) = rdS M ((i - L.length : Nat) : Int) := by
 unfold rdS
 rw [Int.toNat_natCast, Int.toNat_natCast, List.getD_eq_getElem?_getD, List.getD_eq_getElem?_getD, List.getElem?_append_right h]
theorem rd_sets (L : List Sp) (k i : Nat) (x : Sp) (h : k < L.length) : rdS (L.set k x) (i : Int) = if i = k then x else rdS L (i : Int) := by
 unfold rdS
 rw [Int.toNat_natCast, List.getD_eq_getElem?_getD, List.getD_eq_getElem?_getD, List.getElem?_set]
 by_cases e : k = i
 ·subst e
  rw [if_pos rfl, if_pos h, if_pos rfl]; rfl
 ·rw [if_neg e, if_neg (fun h => e h.symm)]
theorem th2_rd (hs : s < st.length) (j : Nat) (hj : j ≤ st.length) : rdS (thL2 st wg s) (j : Int) = thA st wg s j := by
 rw [thL2, thM_rd _ _ _ _ _ hj, if_pos hj]
theorem th3_le (hs : s < st.length) (j : Nat) (hj : j ≤ s) : rdS (thL3 st wg s) (j : Int) = comeAt st wg j := by
 have hl := thL2_len st wg s; rw [thL3, gst, rd_left _ _ _ (by rw [List.length_take]; omega), rd_take _ _ _ (by omega), th2_rd hs j (by omega), thA_le _ _ _ _ hj]
theorem th3_gt (hs : s < st.length) (j : Nat) (hj : s < j) (hn : j ≤ st.length) : rdS (thL3 st wg s) (j : Int) = rdS (goL (st.drop (s + 1)) ((thL2 st wg s).drop (s + 1))) ((j - (s + 1) : Nat) : Int) := by
 have hl := thL2_len st wg s; rw [thL3, gst, show (thL2 st wg s).length - (st.length - s) = s + 1 by omega, rd_right _ _ _ (by rw [List.length_take]; omega), List.length_take, show min (s + 1) (thL2 st wg s).length = s + 1 by omega]
theorem th3_last (hs : s < st.length) : rdS (thL3 st wg s) (st.length : Int) = thA st wg s st.length := by
 have hl := thL2_len st wg s; have h := (goL_rd (st.drop (s + 1)) ((thL2 st wg s).drop (s + 1)) (by rw [List.length_drop, List.length_drop]; omega)).2; rw [List.length_drop] at h; rw [th3_gt hs _ hs (Nat.le_refl _), h, rd_drop, show s + 1 + (st.length - (s + 1)) = st.length by omega, th2_rd hs _ (Nat.le_refl _)]
theorem th3_step (hs : s < st.length) (j : Nat) (hj : s < j) (hn : j < st.length) : rdS (thL3 st wg s) (j : Int) = backS (rdS st (j : Int)) (thA st wg s j) (rdS (thL3 st wg s) ((j + 1 : Nat) : Int)) := by
 have hl := thL2_len st wg s; have h := (goL_rd (st.drop (s + 1)) ((thL2 st wg s).drop (s + 1)) (by rw [List.length_drop, List.length_drop]; omega)).1 (j - (s + 1)) (by rw [List.length_drop]; omega); rw [th3_gt hs j hj (by omega), h, rd_drop, rd_drop, show s + 1 + (j - (s + 1)) = j by omega, th2_rd hs _ (by omega), th3_gt hs (j + 1) (by omega) (by omega), show j - (s + 1) + 1 = j + 1 - (s + 1) by omega]
theorem th4_rd (hs : s < st.length) (j : Nat) : rdS (thL4 st wg s) (j : Int) = if j = s then thX (rdS st s) (comeAt st wg s) (rdS (thL3 st wg s) ((s + 1 : Nat) : Int)) else rdS (thL3 st wg s) (j : Int) := by
 rw [thL4, rd_sets _ _ _ _ (by rw [thL3_len]; omega), th3_le hs s (Nat.le_refl _)]
theorem th5_gt (hs : s < st.length) (j : Nat) (hj : s < j) : rdS (thL5 st wg s) (j : Int) = rdS (thL3 st wg s) (j : Int) := by
 have hl := thL4_len st wg s
 have hg : (gst (st.take s) ((thL4 st wg s).take (s + 1)) (s + 1)).length = s + 1 := by rw [gst_len, List.length_take]; omega
 rw [thL5, thG, rd_right _ _ _ (by omega), hg, rd_drop, show s + 1 + (j - (s + 1)) = j by omega, th4_rd hs, if_neg (by omega)]
theorem th5_go (hs : s < st.length) (j : Nat) (hj : j ≤ s) : rdS (thL5 st wg s) (j : Int) = rdS (goL (st.take s) ((thL4 st wg s).take (s + 1))) (j : Int) := by
 have hl := thL4_len st wg s
 have hg : (gst (st.take s) ((thL4 st wg s).take (s + 1)) (s + 1)).length = s + 1 := by rw [gst_len, List.length_take]; omega
 rw [thL5, thG, rd_left _ _ _ (by omega), gst, List.length_take, show min (s + 1) (thL4 st wg s).length - (s + 1) = 0 by omega, List.take_zero, List.drop_zero, List.drop_zero, List.nil_append]
theorem th5_at (hs : s < st.length) : rdS (thL5 st wg s) (s : Int) = thX (rdS st s) (comeAt st wg s) (rdS (thL3 st wg s) ((s + 1 : Nat) : Int)) := by
 have hl := thL4_len st wg s; have h := (goL_rd (st.take s) ((thL4 st wg s).take (s + 1)) (by rw [List.length_take, List.length_take]; omega)).2; rw [List.length_take, show min s st.length = s by omega] at h; rw [th5_go hs s (Nat.le_refl _), h, rd_take _ _ _ (by omega), th4_rd hs, if_pos rfl]
theorem th5_lt (hs : s < st.length) (j : Nat) (hj : j < s) : rdS (thL5 st wg s) (j : Int) = backS (rdS st (j : Int)) (comeAt st wg j) (rdS (thL5 st wg s) ((j + 1 : Nat) : Int)) := by
 have hl := thL4_len st wg s; have h := (goL_rd (st.take s) ((thL4 st wg s).take (s + 1)) (by rw [List.length_take, List.length_take]; omega)).1 j (by rw [List.length_take]; omega); rw [th5_go hs j (by omega), h, rd_take _ _ _ hj, rd_take _ _ _ (by omega), th4_rd hs, if_neg (by omega), th3_le hs j (by omega), th5_go hs (j + 1) (by omega)]
theorem rd5_ok (hok : RdOk st wg) (hs : s < st.length) (j : Nat) : okS (rdS (thL5 st wg s) (j : Int)) := rd_ok (thL5_ok hok s hs) j
theorem rd3_ok (hok : RdOk st wg) (hs : s < st.length) (j : Nat) : okS (rdS (thL3 st wg s) (j : Int)) := rd_ok (thL3_ok hok s hs) j
theorem fu_step (hok : RdOk st wg) (d p : Nat) (hp : p + (d + 1) = st.length) (hps : p ≠ s) (X Y : Sp) (hX : okS X) (hY : okS Y) (hf : ∀ w : Nat, w ≤ 400 → (fwB st wg s p w = true ↔ inS X (w : Int)))
  (ih : ∀ w : Nat, w ≤ 400 → (fuB st wg s d (p + 1) w = true ↔ inS Y (w : Int))) (w : Nat) (hw : w ≤ 400) : fuB st wg s (d + 1) p w = true ↔ inS (backS (rdS st (p : Int)) X Y) (w : Int) := by
 have hst := hok.at (p : Int) (by omega) (by omega); rw [back_in hst hX, fuB, Bool.and_eq_true, hf w hw, List.any_eq_true]
 constructor
 ·rintro ⟨h1, v, hv, h2⟩
  have hv4 := List.mem_range.1 hv; simp only [Bool.and_eq_true] at h2; exact ⟨h1, (v : Int), (ih v (by omega)).1 h2.1, (stp_ne hps).1 h2.2⟩
 ·rintro ⟨h1, v, h2, h3, h4⟩
  have h5 := hiS_le hst (w := (w : Int)) (by omega)
  have hv0 : 0 ≤ v := by unfold okS inS at *; omega
  obtain ⟨m, rfl⟩ : ∃ m : Nat, v = (m : Int) := ⟨v.toNat, by omega⟩; refine ⟨h1, m, List.mem_range.2 (by omega), ?_⟩; rw [Bool.and_eq_true]; exact ⟨(ih m (by omega)).2 h2, (stp_ne hps).2 ⟨h3, h4⟩⟩
theorem fu_gt (hok : RdOk st wg) (hs : s < st.length) (hne : ¬ (comeAt st wg s).lo > (comeAt st wg s).hi) : ∀ (d p : Nat), p + d = st.length → s < p → ∀ w : Nat, w ≤ 400 → (fuB st wg s d p w = true ↔ inS (rdS (thL3 st wg s) (p : Int)) (w : Int))
 | 0, p, hp, hsp, w, hw => by
  obtain rfl : p = st.length := by omega
  rw [th3_last hs]; exact fw_gt hok hs hne _ hs (Nat.le_refl _) w hw
 | d + 1, p, hp, hsp, w, hw => by
  rw [th3_step hs p hsp (by omega)]; exact fu_step hok d p hp (by omega) _ _ (thA_ok hok s hs p (by omega)) (rd3_ok hok hs (p + 1)) (fun v hv => fw_gt hok hs hne p hsp (by omega) v hv) (fun v hv => fu_gt hok hs hne d (p + 1) (by omega) (by omega) v hv) w hw
theorem fu_at (hok : RdOk st wg) (hs : s < st.length) (hne : ¬ (comeAt st wg s).lo > (comeAt st wg s).hi) (hne2 : ¬ (rdS (thL3 st wg s) ((s + 1 : Nat) : Int)).lo > (rdS (thL3 st wg s) ((s + 1 : Nat) : Int)).hi) (d : Nat) (hd : s + (d + 1) = st.length) (w : Nat) (hw : w ≤ 400) :
  fuB st wg s (d + 1) s w = true ↔ inS (rdS (thL5 st wg s) (s : Int)) (w : Int) := by
 have hst := hok.at (s : Int) (by omega) (by omega); have ih := fu_gt hok hs hne d (s + 1) (by omega) (by omega); have hY := rd3_ok hok hs (s + 1); have hX := comeAt_ok hok s (by omega)
 generalize hy : rdS (thL3 st wg s) ((s + 1 : Nat) : Int) = Y at *
 rw [th5_at hs, hy, thX, trimLo_in hst _ 402 _ (ok_len hX), fuB, Bool.and_eq_true, fw_le hok hs s (Nat.le_refl _) w hw, List.any_eq_true]
 have hb : 0 ≤ Y.lo ∧ Y.hi ≤ 400 := by unfold okS at hY; omega
 have h5 := hiS_le hst (w := (w : Int)) (by omega)
 constructor
 ·rintro ⟨h1, v, hv, h2⟩
  have hv4 := List.mem_range.1 hv; simp only [Bool.and_eq_true] at h2; have h3 := (ih v (by omega)).1 h2.1; have h4 := stp_at.1 h2.2; refine ⟨h1, ?_⟩
  unfold inS at h3
  simp only; omega
 ·rintro ⟨h1, h2⟩
  simp only at h2; obtain ⟨m, hm⟩ : ∃ m : Nat, Y.lo = (m : Int) := ⟨Y.lo.toNat, by omega⟩; refine ⟨h1, m, List.mem_range.2 (by omega), ?_⟩; rw [Bool.and_eq_true]; refine ⟨(ih m (by omega)).2 ?_, stp_at.2 (by omega)⟩
  unfold inS
  omega
theorem fu_le (hok : RdOk st wg) (hs : s < st.length) (hne : ¬ (comeAt st wg s).lo > (comeAt st wg s).hi) (hne2 : ¬ (rdS (thL3 st wg s) ((s + 1 : Nat) : Int)).lo > (rdS (thL3 st wg s) ((s + 1 : Nat) : Int)).hi) : ∀ (k p d : Nat), p + k = s → p + d = st.length → ∀ w : Nat, w ≤ 400 → (fuB st wg s d p w = true ↔ inS (rdS (thL5 st wg s) (p : Int)) (w : Int))
 | 0, p, d, hk, hd, w, hw => by
  obtain rfl : p = s := by omega
  obtain ⟨d, rfl⟩ : ∃ e, d = e + 1 := ⟨d - 1, by omega⟩; exact fu_at hok hs hne hne2 d hd w hw
 | k + 1, p, d, hk, hd, w, hw => by
  obtain ⟨d, rfl⟩ : ∃ e, d = e + 1 := ⟨d - 1, by omega⟩; rw [th5_lt hs p (by omega)]; exact fu_step hok d p hd (by omega) _ _ (comeAt_ok hok p (by omega)) (rd5_ok hok hs (p + 1)) (fun v hv => fw_le hok hs p (by omega) v hv) (fun v hv => fu_le hok hs hne hne2 k (p + 1) d (by omega) (by omega) v hv) w hw
theorem any_none {L : List Sp} {n : Nat} (hl : L.length = n + 1) : L.any noneB = false ↔ ∀ p : Nat, p ≤ n → ¬ (rdS L (p : Int)).lo > (rdS L (p : Int)).hi := by
 rw [List.any_eq_false]
 constructor
 ·intro h p hp
  have h1 := h (rdS L (p : Int)) (by rw [rdS_nat _ _ (by omega)]; exact List.getElem_mem _)
  simpa [noneB] using h1
 ·intro h x hx
  obtain ⟨i, hi, rfl⟩ := List.getElem_of_mem hx; have h1 := h i (by omega); rw [rdS_nat _ _ hi] at h1
  simpa [noneB] using h1
theorem fu_fw (d : Nat) : ∀ (p w : Nat), fuB st wg s d p w = true → fwB st wg s p w = true := by
 intro p w h
 cases d with
 | zero => exact h
 | succ d => rw [fuB, Bool.and_eq_true] at h; exact h.1
theorem fu_chain : ∀ (d p w : Nat), w ≤ 400 → fuB st wg s d p w = true → ∀ q : Nat, p ≤ q → q ≤ p + d → ∃ v : Nat, v ≤ 400 ∧ fuB st wg s (p + d - q) q v = true
 | 0, p, w, hw, h, q, h1, h2 => by
  obtain rfl : q = p := by omega
  exact ⟨w, hw, by rw [show q + 0 - q = 0 by omega]; exact h⟩
 | d + 1, p, w, hw, h, q, h1, h2 => by
  by_cases e : q = p
  ·subst e
   exact ⟨w, hw, by rw [show q + (d + 1) - q = d + 1 by omega]; exact h⟩
  ·rw [fuB, Bool.and_eq_true, List.any_eq_true] at h
   obtain ⟨_, v, hv, h3⟩ := h; have hv4 := List.mem_range.1 hv; rw [Bool.and_eq_true] at h3; have := fu_chain d (p + 1) v (by omega) h3.1 q (by omega) (by omega); rw [show p + (d + 1) - q = p + 1 + d - q by omega]; exact this
theorem th_ok (hs : s < st.length) : thOk st wg s = true ↔ (∀ p : Nat, p ≤ st.length → ¬ (rdS (thL3 st wg s) (p : Int)).lo > (rdS (thL3 st wg s) (p : Int)).hi) ∧ ∀ p : Nat, p ≤ st.length → ¬ (rdS (thL5 st wg s) (p : Int)).lo > (rdS (thL5 st wg s) (p : Int)).hi := by
 rw [← any_none (thL3_len st wg s), ← any_none (thL5_len st wg s), thOk]
 simp
theorem th_in (hok : RdOk st wg) (hs : s < st.length) (h : thOk st wg s = true) (q : Nat) (hq : q ≤ st.length) (w : Nat) (hw : w ≤ 400) : fuB st wg s (st.length - q) q w = true ↔ inS (rdS (thL5 st wg s) (q : Int)) (w : Int) := by
 obtain ⟨h3, h5⟩ := (th_ok hs).1 h; have hne := h3 s (by omega); rw [th3_le hs s (Nat.le_refl _)] at hne
 by_cases e : s < q
 ·rw [th5_gt hs q e]
  exact fu_gt hok hs hne _ q (by omega) e w hw
 ·exact fu_le hok hs hne (h3 (s + 1) (by omega)) (s - q) q _ (by omega) (by omega) w hw
theorem th_is (hok : RdOk st wg) (hs : s < st.length) : thOk st wg s = true ↔ ∃ w : Nat, w ≤ 400 ∧ fuB st wg s st.length 0 w = true := by
 constructor
 ·intro h
  have h0 := ((th_ok hs).1 h).2 0 (by omega); have ho := rd5_ok hok hs 0; have hi := th_in hok hs h 0 (by omega); rw [Nat.sub_zero] at hi
  generalize rdS (thL5 st wg s) ((0 : Nat) : Int) = x at *
  have hb : 0 ≤ x.lo ∧ x.lo ≤ x.hi ∧ x.hi ≤ 400 := by unfold okS at ho; omega
  refine ⟨x.lo.toNat, by omega, (hi _ (by omega)).2 ?_⟩
  unfold inS
  omega
 ·rintro ⟨w, hw, h⟩
  have hc := fu_chain st.length 0 w hw h
  have hcome : ∀ q : Nat, q ≤ s → ¬ (comeAt st wg q).lo > (comeAt st wg q).hi := by
   intro q hq; obtain ⟨v, hv, h1⟩ := hc q (by omega) (by omega); have := (fw_le hok hs q hq v hv).1 (fu_fw _ _ _ h1)
   unfold inS at this
   omega
  have hne := hcome s (Nat.le_refl _)
  have h3 : ∀ p : Nat, p ≤ st.length → ¬ (rdS (thL3 st wg s) (p : Int)).lo > (rdS (thL3 st wg s) (p : Int)).hi := by
   intro p hp
   by_cases e : s < p
   ·obtain ⟨v, hv, h1⟩ := hc p (by omega) (by omega)
    have := (fu_gt hok hs hne _ p (by omega) e v hv).1 h1
    unfold inS at this
    omega
   ·rw [th3_le hs p (by omega)]
    exact hcome p (by omega)
  refine (th_ok hs).2 ⟨h3, fun p hp => ?_⟩
  by_cases e : s < p
  ·rw [th5_gt hs p e]
   exact h3 p hp
  ·obtain ⟨v, hv, h1⟩ := hc p (by omega) (by omega)
   have := (fu_le hok hs hne (h3 (s + 1) (by omega)) (s - p) p _ (by omega) (by omega) v hv).1 h1
   unfold inS at this
   omega
end
end Go.Proofs.YtemingmeidmjkaaDoor.Q
namespace Go.Proofs.YtemingmeidmjkaaDoor.Q
open Go.RowKit Go.Proofs.YtemingmeidmjkaaDoorW.PrintWords Go.Proofs.YtemingmeidmjkaaDoorW.PrintLast Go.Proofs.YtemingmeidmjkaaDoorW.PrintMore
attribute [local go_sem] max2_int min2_int max_two min_two max_three min_three max_four min_four   -- for this text's walks alone
set_option linter.unusedVariables false
set_option linter.unusedSimpArgs false
end Go.Proofs.YtemingmeidmjkaaDoor.Q
namespace Go.Proofs.YtemingmeidmjkaaDoor.Q
open Go.RowKit Go.Proofs.YtemingmeidmjkaaDoorW.PrintWords Go.Proofs.YtemingmeidmjkaaDoorW.PrintLast Go.Proofs.YtemingmeidmjkaaDoorW.PrintMore
attribute [local go_sem] max2_int min2_int max_two min_two max_three min_three max_four min_four   -- for this text's walks alone
set_option linter.unusedVariables false
set_option linter.unusedSimpArgs false
def wool_Check.f (l0_0 : List (S41)) (l0_1 : List (S80)) : Option (Int) := some (roadE (toSt l0_0) (toWg l0_1))
theorem wool_Check.calls (A0_0 : Option Addr) (c0_0 : Nat) (l0_0 : List (S41)) (A0_1 : Option Addr) (c0_1 : Nat) (l0_1 : List (S80)) (r : Int) (w : World) (hr0_0 : Kd.C k41 w A0_0 l0_0.length l0_0) (hc0_0 : l0_0.length ≤ c0_0) (hr0_1 : Kd.C k80 w A0_1 l0_1.length l0_1) (hc0_1 : l0_1.length ≤ c0_1) (h : wool_Check.f l0_0 l0_1 = some r) :
  Calls Tryd.prog 19 #[.agg #[.slice A0_0 l0_0.length c0_0, .slice A0_1 l0_1.length c0_1]] w fun e w' => e = .returned (.int .i64 r) ∧ Below w.heap.size w w' := by
 simp only [wool_Check.f, Option.some.injEq, Prod.mk.injEq] at h; obtain rfl := h; have H := check_ A0_0 c0_0 (toSt l0_0) A0_1 c0_1 (toWg l0_1) w (toSt_C hr0_0) (toSt_c hc0_0) (toWg_C hr0_1) (toWg_c hc0_1); rw [toSt_len, toWg_len] at H; exact H
end Go.Proofs.YtemingmeidmjkaaDoor.Q
namespace Go.Proofs.YtemingmeidmjkaaDoor.Q
open Go.RowKit Go.Proofs.YtemingmeidmjkaaDoorW.PrintWords Go.Proofs.YtemingmeidmjkaaDoorW.PrintLast Go.Proofs.YtemingmeidmjkaaDoorW.PrintMore
attribute [local go_sem] max2_int min2_int max_two min_two max_three min_three max_four min_four   -- for this text's walks alone
set_option linter.unusedVariables false
set_option linter.unusedSimpArgs false
def wool_Weights.f (l0_0 : List (S41)) (l0_1 : List (S80)) : Option ((List (S41)) × Int) := some (ofSp (ohL (toSt l0_0) (toWg l0_1)), ohE (toSt l0_0) (toWg l0_1))
theorem wool_Weights.calls (A0_0 : Option Addr) (c0_0 : Nat) (l0_0 : List (S41)) (A0_1 : Option Addr) (c0_1 : Nat) (l0_1 : List (S80)) (r1 : List (S41)) (r2 : Int) (w : World) (hG : GL w) (hr0_0 : Kd.C k41 w A0_0 l0_0.length l0_0) (hc0_0 : l0_0.length ≤ c0_0) (hr0_1 : Kd.C k80 w A0_1 l0_1.length l0_1) (hc0_1 : l0_1.length ≤ c0_1) (h : wool_Weights.f l0_0 l0_1 = some (r1, r2)) :
  Calls Tryd.prog 20 #[.agg #[.slice A0_0 l0_0.length c0_0, .slice A0_1 l0_1.length c0_1]] w fun e w' => ∃ v0_ : Value, e = .returned (.tuple #[v0_, .int .i64 r2]) ∧ Kd.R k41 41 w' w.heap.size (fun _ => True) v0_ r1 ∧ Below w.heap.size w w' := by
 simp only [wool_Weights.f, Option.some.injEq, Prod.mk.injEq] at h; obtain ⟨rfl, rfl⟩ := h; have H := weights_ A0_0 c0_0 (toSt l0_0) A0_1 c0_1 (toWg l0_1) w hG (toSt_C hr0_0) (toSt_c hc0_0) (toWg_C hr0_1) (toWg_c hc0_1); rw [toSt_len, toWg_len] at H; refine H.mono ?_; rintro e w' ⟨v, he, h1, h2⟩; exact ⟨v, he, ofSp_R h1, h2⟩
def wool_Flocks.f (l0_0 : List (S41)) (l0_1 : List (S80)) : Option ((List (S41)) × Int) := some (ofSp (flocksL (toSt l0_0) (toWg l0_1)), ohE (toSt l0_0) (toWg l0_1))
theorem wool_Flocks.calls (A0_0 : Option Addr) (c0_0 : Nat) (l0_0 : List (S41)) (A0_1 : Option Addr) (c0_1 : Nat) (l0_1 : List (S80)) (r1 : List (S41)) (r2 : Int) (w : World) (hG : GL w) (hr0_0 : Kd.C k41 w A0_0 l0_0.length l0_0) (hc0_0 : l0_0.length ≤ c0_0) (hr0_1 : Kd.C k80 w A0_1 l0_1.length l0_1) (hc0_1 : l0_1.length ≤ c0_1) (h : wool_Flocks.f l0_0 l0_1 = some (r1, r2)) :
  Calls Tryd.prog 21 #[.agg #[.slice A0_0 l0_0.length c0_0, .slice A0_1 l0_1.length c0_1]] w fun e w' => ∃ v0_ : Value, e = .returned (.tuple #[v0_, .int .i64 r2]) ∧ Kd.R k41 41 w' w.heap.size (fun _ => True) v0_ r1 ∧ Below w.heap.size w w' := by
 simp only [wool_Flocks.f, Option.some.injEq, Prod.mk.injEq] at h; obtain ⟨rfl, rfl⟩ := h; have H := flocks_ A0_0 c0_0 (toSt l0_0) A0_1 c0_1 (toWg l0_1) w hG (toSt_C hr0_0) (toSt_c hc0_0) (toWg_C hr0_1) (toWg_c hc0_1); rw [toSt_len, toWg_len] at H; refine H.mono ?_; rintro e w' ⟨v, he, h1, h2⟩; exact ⟨v, he, ofSp_R h1, h2⟩
end Go.Proofs.YtemingmeidmjkaaDoor.Q
namespace Go.Proofs.YtemingmeidmjkaaDoor.Q
open Go.RowKit Go.Proofs.YtemingmeidmjkaaDoorW.PrintWords Go.Proofs.YtemingmeidmjkaaDoorW.PrintLast Go.Proofs.YtemingmeidmjkaaDoorW.PrintMore
attribute [local go_sem] max2_int min2_int max_two min_two max_three min_three max_four min_four   -- for this text's walks alone
set_option linter.unusedVariables false
set_option linter.unusedSimpArgs false
end Go.Proofs.YtemingmeidmjkaaDoor.Q
namespace Go.Proofs.YtemingmeidmjkaaDoor.Q
open Go.RowKit Go.Proofs.YtemingmeidmjkaaDoorW.PrintWords
set_option linter.unusedVariables false
set_option linter.unusedSimpArgs false
def enF (g : Nat → Bool) : Nat → Nat → Int × Int → Int × Int
 | 0, _, x => x
 | d + 1, i, x => enF g d (i + 1) (if g i then (if x.1 < 0 then ((i : Int), (i : Int)) else (x.1, (i : Int))) else x)
theorem enF_fst (g : Nat → Bool) : ∀ (d i : Nat) (x : Int × Int), ((enF g d i x).1 ≥ 0 ↔ x.1 ≥ 0 ∨ ∃ j, i ≤ j ∧ j < i + d ∧ g j = true)
 | 0, i, x => by
  unfold enF
  exact ⟨fun h => .inl h, fun h => h.elim id (fun ⟨j, h1, h2, _⟩ => by omega)⟩
 | d + 1, i, x => by
  rw [enF, enF_fst g d (i + 1)]
  cases hg : g i
  ·simp only [Bool.false_eq_true, if_false]
   constructor
   ·rintro (h | ⟨j, h1, h2, h3⟩)
    ·exact .inl h
    ·exact .inr ⟨j, by omega, by omega, h3⟩
   ·rintro (h | ⟨j, h1, h2, h3⟩)
    ·exact .inl h
    ·refine .inr ⟨j, ?_, by omega, h3⟩
     by_cases e : j = i
     ·rw [e, hg] at h3; cases h3
     ·omega
  ·simp only [if_true]
   constructor
   ·intro _
    exact .inr ⟨i, by omega, by omega, hg⟩
   ·intro _
    left
    by_cases hx : x.1 < 0
    ·rw [if_pos hx]; simp only; omega
    ·rw [if_neg hx]; simp only; omega
theorem Ends_l0 (g : Nat → Bool) : ∀ (d i : Nat) (a b : Int), i + d = 401 → Ev (fun k => rf_Ends.l0 k (T4 g) (i : Int) a b) (enF g d i (a, b))
 | 0, i, a, b, hd => by
  refine Ev.up ?_; simp only [rf_Ends.l0, T4_len, if_neg (show ¬ (i : Int) < ((401 : Nat) : Int) by omega)]; exact Ev.now _
 | d + 1, i, a, b, hd => by
  refine Ev.up ?_; simp only [rf_Ends.l0, T4_len, if_pos (show (i : Int) < ((401 : Nat) : Int) by omega), if_pos (show (0 : Int) ≤ (i : Int) by omega), T4_get g i (by omega)]; rw [enF]
  cases hg : g i
  ·simp only [Bool.false_eq_true, if_false]
   refine Ev.up ?_; simp only [rf_Ends.j1, Bool.false_eq_true, if_false, T4_len, if_pos (show (i : Int) < ((401 : Nat) : Int) by omega), if_pos (show (0 : Int) ≤ (i : Int) by omega), T4_get g i (show i ≤ 400 by omega), hg, wi i (by omega)]; exact Ends_l0 g d (i + 1) a b (by omega)
  ·simp only [if_true]
   refine Ev.up ?_
   by_cases ha : a < 0
   ·simp only [rf_Ends.j1, decide_eq_true ha, if_true, T4_len, if_pos (show (i : Int) < ((401 : Nat) : Int) by omega), if_pos (show (0 : Int) ≤ (i : Int) by omega), T4_get g i (show i ≤ 400 by omega), hg, wi i (by omega), if_pos ha]
    exact Ends_l0 g d (i + 1) _ _ (by omega)
   ·simp only [rf_Ends.j1, decide_eq_false ha, Bool.false_eq_true, if_false, if_true, T4_len, if_pos (show (i : Int) < ((401 : Nat) : Int) by omega), if_pos (show (0 : Int) ≤ (i : Int) by omega), T4_get g i (show i ≤ 400 by omega), hg, wi i (by omega), if_neg ha]
    exact Ends_l0 g d (i + 1) _ _ (by omega)
theorem Ends_f (g : Nat → Bool) : Ev (fun k => rf_Ends.f k (T4 g)) (enF g 401 0 (-1, -1)) := Ends_l0 g 401 0 (-1) (-1) (by omega)
theorem Is_f (n : Nat) (R : Nat → Nat → Bool) (hn : 0 < n) : Ev (fun k => rf_Is.f k (rowsL n R)) (decide (∃ w : Nat, w ≤ 400 ∧ R 0 w = true)) := by
 unfold rf_Is.f
 simp only [rowsL_len, if_pos (show (0 : Int) < (n : Int) by omega)]; have h0 := rowsL_get n R 0 hn; rw [show ((0 : Nat) : Int) = 0 from rfl] at h0; rw [h0]; refine Ev.bind (Ends_f (R 0)) ?_
 have e : decide ((enF (R 0) 401 0 (-1, -1)).1 ≥ 0) = decide (∃ w : Nat, w ≤ 400 ∧ R 0 w = true) := by
  rw [decide_eq_decide, enF_fst]
  constructor
  ·rintro (h | ⟨j, h1, h2, h3⟩)
   ·simp at h
   ·exact ⟨j, by omega, h3⟩
  ·rintro ⟨j, h1, h2⟩
   exact .inr ⟨j, by omega, by omega, h2⟩
 rw [← e]; exact Ev.now _
section
variable (st : List S41) (wg : List S80)
end
section
variable (st : List S41) (wg : List S80)
end
end Go.Proofs.YtemingmeidmjkaaDoor.Q
namespace Go.Proofs.YtemingmeidmjkaaDoor.Q
open Go.RowKit Go.Proofs.YtemingmeidmjkaaDoorW.PrintWords Go.Proofs.YtemingmeidmjkaaDoorW.PrintLast Go.Proofs.YtemingmeidmjkaaDoorW.PrintMore
attribute [local go_sem] max2_int min2_int max_two min_two max_three min_three max_four min_four   -- for this text's walks alone
set_option linter.unusedVariables false
set_option linter.unusedSimpArgs false
end Go.Proofs.YtemingmeidmjkaaDoor.Q
namespace Go.Proofs.YtemingmeidmjkaaDoor.Q
open Go.RowKit Go.Proofs.YtemingmeidmjkaaDoorW.PrintWords
set_option linter.unusedVariables false
set_option linter.unusedSimpArgs false
section
variable {st : List S41} {wg : List S80}
theorem dec_hon (hok : RdOk (toSt st) (toWg wg)) : decide (∃ w : Nat, w ≤ 400 ∧ fuB (toSt st) (toWg wg) (-1) (st.length - 0) 0 w = true) = honB (toSt st) (toWg wg) := by
 rw [Bool.eq_iff_iff, decide_eq_true_eq, hon_is hok, toSt_len, Nat.sub_zero]
theorem dec_th (hok : RdOk (toSt st) (toWg wg)) (s : Nat) (hs : s < st.length) : decide (∃ w : Nat, w ≤ 400 ∧ fuB (toSt st) (toWg wg) (s : Int) (st.length - 0) 0 w = true) = thOk (toSt st) (toWg wg) s := by
 rw [Bool.eq_iff_iff, decide_eq_true_eq, th_is hok (by rw [toSt_len]; exact hs), toSt_len, Nat.sub_zero]
theorem Where_l0 (hok : RdOk (toSt st) (toWg wg)) (h5 : st.length ≤ 500) (hl : wg.length ≤ 1000) : ∀ (d i : Nat), i + d = st.length → Ev (fun k => rf_Where.l0 k (whereN (toSt st) (toWg wg) i) (i : Int) st wg) (whereL (toSt st) (toWg wg))
 | 0, i, hd => by
  obtain rfl : i = st.length := by omega
  refine Ev.up ?_; simp only [rf_Where.l0, if_neg (Int.lt_irrefl _)]
  have e : whereN (toSt st) (toWg wg) st.length = whereL (toSt st) (toWg wg) := by rw [whereL, whereN, toSt_len]
  rw [e]; exact Ev.now _
 | d + 1, i, hd => by
  have ih := Where_l0 hok h5 hl d (i + 1) (by omega); rw [whereN_succ] at ih; have hb := whereN_len (toSt st) (toWg wg) i; refine Ev.up ?_; simp only [rf_Where.l0, if_pos (show (i : Int) < (st.length : Int) by omega)]; refine Ev.bind (Sets_f st wg (i : Int) hok hl h5) ?_; refine Ev.bind (Is_f (st.length + 1) _ (by omega)) ?_; simp only [dec_th hok i (by omega), wi i (by omega), if_pos (show (whereN (toSt st) (toWg wg) i).length < 17592186044416 by omega)]
  cases ht : thOk (toSt st) (toWg wg) i
  ·rw [ht] at ih
   simp only [Bool.false_eq_true, if_false, List.append_nil] at ih ⊢; exact ih
  ·rw [ht] at ih
   simp only [if_true] at ih ⊢; exact ih
theorem Where_f (hok : RdOk (toSt st) (toWg wg)) (h5 : st.length ≤ 500) (hl : wg.length ≤ 1000) : Ev (fun k => rf_Where.f k st wg) (whereL (toSt st) (toWg wg)) := Where_l0 hok h5 hl st.length 0 (by omega)
end
end Go.Proofs.YtemingmeidmjkaaDoor.Q
namespace Go.Proofs.YtemingmeidmjkaaDoor.Q
open Go.RowKit Go.Proofs.YtemingmeidmjkaaDoorW.PrintWords
set_option linter.unusedVariables false
set_option linter.unusedSimpArgs false
theorem Has_l0 (l : List Int) (a : Int) (hl : l.length ≤ 1000) : ∀ (d i : Nat), i + d = l.length → Ev (fun k => rf_Has.l0 k l a (i : Int)) (hasB a (l.drop i))
 | 0, i, hd => by
  refine Ev.up ?_; simp only [rf_Has.l0, if_neg (show ¬ (i : Int) < (l.length : Int) by omega)]; rw [List.drop_eq_nil_of_le (by omega)]; exact Ev.now _
 | d + 1, i, hd => by
  have hi : i < l.length := by omega
  have ih := Has_l0 l a hl d (i + 1) (by omega); refine Ev.up ?_; simp only [rf_Has.l0, if_pos (show (i : Int) < (l.length : Int) by omega), if_pos (show (0 : Int) ≤ (i : Int) by omega), rdI l i hi, wi i (by omega)]; rw [List.drop_eq_getElem_cons hi, hasB, List.any_cons]
  by_cases e : l[i] = a
  ·rw [decide_eq_true (show a = l[i] from e.symm)]
   simp only [if_pos e, Bool.true_or]; exact Ev.now _
  ·rw [decide_eq_false (fun h : a = l[i] => e h.symm)]
   simp only [if_neg e, Bool.false_or]; exact ih
theorem Has_f (l : List Int) (a : Int) (hl : l.length ≤ 1000) : Ev (fun k => rf_Has.f k l a) (hasB a l) := Has_l0 l a hl l.length 0 (by omega)
theorem rdD (l : List S25) (i : Nat) (h : i < l.length) : rd_T25 l (i : Int) = l[i] := by simp [rd_T25, h]
def smD (d : S25) : Prop := d.f0.length ≤ 10 ∧ d.f1.length ≤ 12
section
variable (l : List S25) (hs : ∀ d ∈ l, smD d) (hn : l.length ≤ 10)
theorem Days_l1 (hn : l.length ≤ 10) : ∀ (d i : Nat), i + d = l.length → Ev (fun k => rf_Days.l1 k l (i : Int)) (if (l.drop i).any (fun d => (d.f0.length : Int) != ((rd_T25 l 0).f0.length : Int)) then 3 else 0)
 | 0, i, hd => by
  refine Ev.up ?_; simp only [rf_Days.l1, if_neg (show ¬ (i : Int) < (l.length : Int) by omega)]; rw [List.drop_eq_nil_of_le (by omega)]; exact Ev.now _
 | d + 1, i, hd => by
  have hi : i < l.length := by omega
  have ih := Days_l1 hn d (i + 1) (by omega); refine Ev.up ?_; simp only [rf_Days.l1, if_pos (show (i : Int) < (l.length : Int) by omega), if_pos (show (0 : Int) ≤ (i : Int) by omega), if_pos (show (0 : Int) < (l.length : Int) by omega), rdD l i hi, wi i (by omega)]; rw [List.drop_eq_getElem_cons hi, List.any_cons]
  by_cases e : (l[i].f0.length : Int) = ((rd_T25 l 0).f0.length : Int)
  ·have e2 : ((l[i].f0.length : Int) != ((rd_T25 l 0).f0.length : Int)) = false := by simp [e]
   rw [e2, Bool.false_or]; simp only [if_pos e]; exact ih
  ·have e2 : ((l[i].f0.length : Int) != ((rd_T25 l 0).f0.length : Int)) = true := by simpa using e
   rw [e2, Bool.true_or]; simp only [if_neg e, if_true]; exact Ev.now _
theorem Days_l0 (hs : ∀ d ∈ l, smD d) (hn : l.length ≤ 10) : ∀ (d i : Nat), i + d = l.length → Ev (fun k => rf_Days.l0 k l (i : Int)) (if coCheck (l.drop i) = 0 then (if coLens l then 3 else 0) else coCheck (l.drop i))
 | 0, i, hd => by
  refine Ev.up ?_; simp only [rf_Days.l0, if_neg (show ¬ (i : Int) < (l.length : Int) by omega)]; rw [List.drop_eq_nil_of_le (by omega)]; simp only [coCheck, if_true]; exact Days_l1 l hn l.length 0 (by omega)
 | d + 1, i, hd => by
  have hi : i < l.length := by omega
  have ih := Days_l0 hs hn d (i + 1) (by omega); have hd2 := hs l[i] (List.getElem_mem hi)
  unfold smD at hd2
  refine Ev.up ?_; simp only [rf_Days.l0, if_pos (show (i : Int) < (l.length : Int) by omega), if_pos (show (0 : Int) ≤ (i : Int) by omega), rdD l i hi, wi i (by omega)]; refine Ev.bind (Check_f l[i].f0 l[i].f1 (by omega) (by omega)) ?_; rw [List.drop_eq_getElem_cons hi, coCheck]
  by_cases e : roadE (dSt l[i]) (dWg l[i]) = 0
  ·have e2 : roadE (toSt l[i].f0) (toWg l[i].f1) = 0 := e
   simp only [if_pos e, if_pos e2]; exact ih
  ·have e2 : ¬ roadE (toSt l[i].f0) (toWg l[i].f1) = 0 := e
   simp only [if_neg e, if_neg e2]; exact Ev.now _
theorem Days_f (hs : ∀ d ∈ l, smD d) (hn : l.length ≤ 10) : Ev (fun k => rf_Days.f k l) (if l.length > 5 then 8 else if coCheck l = 0 then (if coLens l then 3 else 0) else coCheck l) := by
 unfold rf_Days.f
 by_cases h : l.length > 5
 ·simp only [if_pos h, if_pos (show (l.length : Int) > 5 by omega)]
  exact Ev.now _
 ·simp only [if_neg h, if_neg (show ¬ (l.length : Int) > 5 by omega)]
  exact Days_l0 l hs hn l.length 0 (by omega)
theorem Common_l2 (x5 : List Int) (x8 : Int) (x9 : List Int) (r : List Int × Int) (h5 : x5.length ≤ 1000) (h9 : x9.length ≤ 1000)
  (h : Ev (fun k => rf_Common.l1 k l (x5.filter fun s => hasB s x9) true (wrap64 (x8 + 1))) r) : ∀ (d i : Nat), i + d = x5.length → Ev (fun k => rf_Common.l2 k l x5 true x8 x9 ((x5.take i).filter fun s => hasB s x9) (i : Int)) r
 | 0, i, hd => by
  refine Ev.up ?_; simp only [rf_Common.l2, if_neg (show ¬ (i : Int) < (x5.length : Int) by omega)]; rw [List.take_of_length_le (by omega)]; exact h
 | d + 1, i, hd => by
  have hi : i < x5.length := by omega
  have ih := Common_l2 x5 x8 x9 r h5 h9 h d (i + 1) (by omega); rw [List.take_succ_eq_append_getElem hi, List.filter_append] at ih
  have hb : ((x5.take i).filter fun s => hasB s x9).length < 17592186044416 := by
   have h1 := List.length_filter_le (fun s => hasB s x9) (x5.take i); have h2 := List.length_take_le i x5; omega
  refine Ev.up ?_; simp only [rf_Common.l2, if_pos (show (i : Int) < (x5.length : Int) by omega), if_pos (show (0 : Int) ≤ (i : Int) by omega), rdI x5 i hi, wi i (by omega)]; refine Ev.bind (Has_f x9 x5[i] h9) ?_; simp only [if_pos hb]
  cases e : hasB x5[i] x9
  ·simp only [List.filter_cons, e, Bool.false_eq_true, if_false, List.filter_nil, List.append_nil] at ih ⊢
   exact ih
  ·simp only [List.filter_cons, e, if_true, List.filter_nil] at ih ⊢
   exact ih
theorem whereL_self (st : List Sp) (wg : List Wg) : (whereL st wg).filter (fun s => hasB s (whereL st wg)) = whereL st wg := List.filter_eq_self.2 fun s h => (hasB_iff _ _).2 h
theorem whereL_has (st : List Sp) (wg : List Wg) (i : Nat) (hi : i < st.length) : hasB (i : Int) (whereL st wg) = thOk st wg i := by
 rw [Bool.eq_iff_iff, hasB_iff, whereL, List.mem_map]
 constructor
 ·rintro ⟨j, h1, h2⟩
  have h3 := List.mem_filter.1 h1; obtain rfl : j = i := Int.ofNat.inj h2; exact h3.2
 ·intro h
  exact ⟨i, List.mem_filter.2 ⟨List.mem_range.2 hi, h⟩, rfl⟩
theorem whereL_range (st : List Sp) (wg : List Wg) (n : Nat) (hn : n = st.length) : ((List.range n).map Int.ofNat).filter (fun s => hasB s (whereL st wg)) = whereL st wg := by
 subst hn; rw [List.filter_map]
 have e : (List.range st.length).filter ((fun s => hasB s (whereL st wg)) ∘ Int.ofNat) = (List.range st.length).filter fun i => thOk st wg i := List.filter_congr fun i hi => whereL_has st wg i (List.mem_range.1 hi)
 rw [e]; rfl
def coO (i : Nat) : List Int := if (coN l i).2 then (coN l i).1 else (List.range (rd_T25 l 0).f0.length).map Int.ofNat
def coF : List Int × Int := if (coN l l.length).2 then (if (coN l l.length).1 = [] then ([], 9) else ((coN l l.length).1, 0)) else ([], 6)
theorem owL_where (st : List Sp) (wg : List Wg) (h : roadE st wg = 0) (hh : honB st wg = false) : owL st wg = whereL st wg := by
 unfold owL owE
 rw [if_pos h, hh]; simp only [Bool.false_eq_true, if_false]
 by_cases e : whereL st wg = []
 ·simp [e]
 ·simp [e]
theorem Common_l1 (hs : ∀ d ∈ l, smD d) (hn : l.length ≤ 10) (hc : coCheck l = 0) (hl : coLens l = false) : ∀ (d i : Nat), i + d = l.length → (coO l i).length ≤ 10 → Ev (fun k => rf_Common.l1 k l (coO l i) (coN l i).2 (i : Int)) (coF l)
 | 0, i, hd, hb => by
  obtain rfl : i = l.length := by omega
  refine Ev.up ?_; simp only [rf_Common.l1, if_neg (Int.lt_irrefl _)]
  unfold coF coO
  cases e : (coN l l.length).2
  ·simp only [Bool.false_eq_true, if_false]
   exact Ev.now _
  ·simp only [if_true]
   by_cases e2 : (coN l l.length).1 = []
   ·rw [e2]
    simp only [if_true, List.length_nil, Int.natCast_zero]; exact Ev.now _
   ·have hp := List.length_pos_iff.2 e2
    simp only [if_neg e2, if_neg (show ¬ ((coN l l.length).1.length : Int) = 0 by omega)]; exact Ev.now _
 | d + 1, i, hd, hb => by
  have hi : i < l.length := by omega
  have hmem := List.getElem_mem hi; have hd2 := hs l[i] hmem
  unfold smD at hd2
  have he := coCheck_ok hc l[i] hmem; have hok : RdOk (toSt l[i].f0) (toWg l[i].f1) := (road_ok he).1
  have hst : l[i].f0.length = (rd_T25 l 0).f0.length := by
   have h1 := List.any_eq_false.1 hl l[i] hmem; have h2 : ¬ ((l[i].f0.length : Int) != ((rd_T25 l 0).f0.length : Int)) = true := h1; simp only [bne_iff_ne, ne_eq, Classical.not_not] at h2; omega
  have ih := Common_l1 hs hn hc hl d (i + 1) (by omega); have hsu := coN_succ l i hi; rw [rdD l i hi] at hsu; refine Ev.up ?_; simp only [rf_Common.l1, if_pos (show (i : Int) < (l.length : Int) by omega), if_pos (show (0 : Int) ≤ (i : Int) by omega), rdD l i hi]; refine Ev.bind (Sets_f l[i].f0 l[i].f1 (-1) hok (by omega) (by omega)) ?_; refine Ev.bind (Is_f (l[i].f0.length + 1) _ (by omega)) ?_; simp only [dec_hon hok]
  cases hh : honB (toSt l[i].f0) (toWg l[i].f1)
  ·simp only [Bool.false_eq_true, if_false]
   refine Ev.bind (Where_f hok (by omega) (by omega)) ?_
   have hne : ¬ owE (dSt l[i]) (dWg l[i]) = 6 := by
    have hh' : honB (dSt l[i]) (dWg l[i]) = false := hh
    unfold owE
    rw [if_pos he, hh']; simp only [Bool.false_eq_true, if_false]
    split <;> omega
   have how : owL (dSt l[i]) (dWg l[i]) = whereL (toSt l[i].f0) (toWg l[i].f1) := owL_where _ _ he hh; rw [coStep, if_neg hne, how] at hsu
   have hO : coO l (i + 1) = (coO l i).filter fun s => hasB s (whereL (toSt l[i].f0) (toWg l[i].f1)) := by
    unfold coO
    rw [hsu]; simp only [if_true]
    cases (coN l i).2
    ·simp only [Bool.false_eq_true, if_false]
     rw [whereL_range _ _ _ (by rw [toSt_len]; exact hst.symm)]; exact whereL_self _ _
    ·simp only [if_true]
   have hwl := whereL_len (toSt l[i].f0) (toWg l[i].f1); rw [toSt_len] at hwl; refine Common_l2 l (coO l i) (i : Int) _ (coF l) (by omega) (by omega) ?_ (coO l i).length 0 (by omega); rw [wi i (by omega)]; have ih2 := ih (by rw [hO]; exact Nat.le_trans (List.length_filter_le _ _) hb); rw [hO, hsu] at ih2; exact ih2
  ·simp only [if_true, wi i (by omega)]
   have h6 : owE (dSt l[i]) (dWg l[i]) = 6 := by
    have hh' : honB (dSt l[i]) (dWg l[i]) = true := hh
    unfold owE
    rw [if_pos he, hh']; rfl
   rw [coStep, if_pos h6] at hsu
   have hO : coO l (i + 1) = coO l i := by unfold coO; rw [hsu]
   have ih2 := ih (by rw [hO]; exact hb); rw [hO, hsu] at ih2; exact ih2
theorem Common_l0 (hs : ∀ d ∈ l, smD d) (hn : l.length ≤ 10) (hc : coCheck l = 0) (hl : coLens l = false) (hp : 0 < l.length) : ∀ (d i : Nat), i + d = (rd_T25 l 0).f0.length → Ev (fun k => rf_Common.l0 k l ((List.range i).map Int.ofNat) false (i : Int)) (coF l)
 | 0, i, hd => by
  have h0 := hs l[0] (List.getElem_mem hp)
  unfold smD at h0
  have e0 : rd_T25 l 0 = l[0] := rdD l 0 hp; refine Ev.up ?_; simp only [rf_Common.l0, if_pos (show (l.length : Int) > 0 by omega), if_pos (show (0 : Int) < (l.length : Int) by omega), if_neg (show ¬ (i : Int) < ((rd_T25 l 0).f0.length : Int) by omega)]; refine Ev.up ?_; simp only [rf_Common.j1]; have h := Common_l1 l hs hn hc hl l.length 0 (by omega)
  have e1 : coN l 0 = ([], false) := by simp [coN]
  have e2 : coO l 0 = (List.range i).map Int.ofNat := by
   unfold coO
   rw [e1, show i = (rd_T25 l 0).f0.length by omega]; rfl
  rw [e2, e1] at h; exact h (by simp; rw [e0] at hd; omega)
 | d + 1, i, hd => by
  have h0 := hs l[0] (List.getElem_mem hp)
  unfold smD at h0
  have e0 : rd_T25 l 0 = l[0] := rdD l 0 hp; have hd' := hd; rw [e0] at hd'; have ih := Common_l0 hs hn hc hl hp d (i + 1) (by omega); refine Ev.up ?_; simp only [rf_Common.l0, if_pos (show (l.length : Int) > 0 by omega), if_pos (show (0 : Int) < (l.length : Int) by omega), if_pos (show (i : Int) < ((rd_T25 l 0).f0.length : Int) by omega), wi i (by omega), List.length_map, List.length_range, if_pos (show i < 17592186044416 by omega)]; rw [List.range_succ, List.map_append] at ih; exact ih
theorem Common_f (hs : ∀ d ∈ l, smD d) (hn : l.length ≤ 10) : Ev (fun k => rf_Common.f k l) (coR l, coE l) := by
 unfold rf_Common.f
 refine Ev.bind (Days_f l hs hn) ?_
 by_cases h5 : l.length > 5
 ·have e1 : coE l = 8 := by rw [coE, if_pos h5]
  have e2 : coR l = [] := by rw [coR, e1]; rfl
  rw [e1, e2]; simp only [if_pos h5]; exact Ev.now _
 ·by_cases hc : coCheck l = 0
  ·cases hl : coLens l
   ·have key : (coR l, coE l) = coF l := by
     unfold coR coE coF
     rw [if_neg h5, if_pos hc, hl]; simp only [Bool.false_eq_true, if_false]
     cases (coN l l.length).2
     ·rfl
     ·simp only [if_true]
      by_cases e : (coN l l.length).1 = []
      ·simp [e]
      ·simp [e]
    rw [key]; simp only [if_neg h5, if_pos hc, Bool.false_eq_true, if_false, if_true]
    by_cases hp : 0 < l.length
    ·exact Common_l0 l hs hn hc hl hp (rd_T25 l 0).f0.length 0 (by omega)
    ·obtain rfl : l = [] := List.length_eq_zero_iff.1 (by omega)
     refine Ev.up ?_; simp only [rf_Common.l0, List.length_nil, Int.natCast_zero, gt_iff_lt, Int.lt_irrefl, if_false]; refine Ev.up ?_; simp only [rf_Common.j1]; exact Common_l1 [] hs hn hc hl 0 0 rfl (by simp [coO, coN, rd_T25, z25])
   ·have e1 : coE l = 3 := by rw [coE, if_neg h5, if_pos hc, hl]; rfl
    have e2 : coR l = [] := by rw [coR, e1]; rfl
    rw [e1, e2]; simp only [if_neg h5, if_pos hc, if_true]; exact Ev.now _
  ·have e1 : coE l = coCheck l := by rw [coE, if_neg h5, if_neg hc]
   have e2 : coR l = [] := by rw [coR, e1, if_neg hc]
   rw [e1, e2]; simp only [if_neg h5, if_neg hc]; exact Ev.now _
theorem coR_len (hs : ∀ d ∈ l, smD d) : (coR l).length ≤ 1000 := by
 have key : ∀ i, i ≤ l.length → (coN l i).1.length ≤ 10 := by
  intro i
  induction i with
  | zero => intro _; simp [coN]
  | succ i ih =>
   intro hi
   have hlt : i < l.length := by omega
   have hd2 := hs l[i] (List.getElem_mem hlt)
   unfold smD at hd2
   rw [coN_succ l i hlt, rdD l i hlt, coStep]
   split
   ·exact ih (by omega)
   ·refine Nat.le_trans (List.length_filter_le _ _) ?_
    split
    ·exact ih (by omega)
    ·have := whereL_len (dSt l[i]) (dWg l[i])
     unfold dSt at this
     rw [toSt_len] at this
     unfold dSt
     omega
 unfold coR
 split
 ·have := key l.length (Nat.le_refl _); omega
 ·simp
theorem Commons_l1 (hs : ∀ d ∈ l, smD d) (hn : l.length ≤ 10) : ∀ (d i : Nat), i + d = l.length → Ev (fun k => lw_WoolCommons.l1 k l l (coR l) (coE l) (i : Int)) true
 | 0, i, hd => by
  refine Ev.up ?_; simp only [lw_WoolCommons.l1, if_neg (show ¬ (i : Int) < (l.length : Int) by omega)]; refine Ev.bind (Common_f l hs hn) ?_
  by_cases he : coE l = 0
  ·simp only [if_pos he]
   refine Ev.bind (Ints_f _ _ (coR_len l hs)) ?_; simp only [decide_true, if_true, known_f, Option.bind_some]; exact Ev.now _
  ·have e2 : coR l = [] := by rw [coR, if_neg he]
   simp only [if_neg he, if_true, e2, List.length_nil, Int.natCast_zero, known_f, Option.bind_some]; exact Ev.now _
 | d + 1, i, hd => by
  have hi : i < l.length := by omega
  have hd2 := hs l[i] (List.getElem_mem hi)
  unfold smD at hd2
  have ih := Commons_l1 hs hn d (i + 1) (by omega); refine Ev.up ?_; simp only [lw_WoolCommons.l1, if_pos (show (i : Int) < (l.length : Int) by omega), if_pos (show (0 : Int) ≤ (i : Int) by omega), rdD l i hi, wi i (by omega)]; refine Ev.bind (Same_f l[i].f0 l[i].f1 (by omega) (by omega)) ?_; simp only [if_true]; exact ih
theorem Commons_l0 (hn : l.length ≤ 10) : ∀ (d i : Nat), i + d = l.length → (∀ d ∈ l.take i, smD d) → Ev (fun k => lw_WoolCommons.l0 k l (l.take i) (i : Int)) true
 | 0, i, hd, hs => by
  rw [List.take_of_length_le (by omega)] at hs ⊢; refine Ev.up ?_; simp only [lw_WoolCommons.l0, if_neg (show ¬ (i : Int) < (l.length : Int) by omega), wool_Common.f, Option.bind_some]; exact Commons_l1 l hs hn l.length 0 (by omega)
 | d + 1, i, hd, hs => by
  have hi : i < l.length := by omega
  refine Ev.up ?_; simp only [lw_WoolCommons.l0, if_pos (show (i : Int) < (l.length : Int) by omega), if_pos (show (0 : Int) ≤ (i : Int) by omega), rdD l i hi, long_f, Option.bind_some, wi i (by omega)]
  by_cases hlong : (l[i].f0.length : Int) > 10 ∨ (l[i].f1.length : Int) > 12
  ·simp only [hlong, decide_true, if_true, known_f, Option.bind_some]
   exact Ev.now _
  ·have hsm : smD l[i] := by unfold smD; omega
   simp only [hlong, decide_false, Bool.false_eq_true, if_false, Copy_f l[i].f0 l[i].f1 (by omega) (by omega), Option.bind_some, List.length_take, if_pos (show min i l.length < 2932031007402 by omega)]
   have ih := Commons_l0 hn d (i + 1) (by omega) (by
    intro x hx; rw [List.take_succ_eq_append_getElem hi, List.mem_append] at hx
    rcases hx with hx | hx
    ·exact hs x hx
    ·rw [List.mem_singleton.1 hx]; exact hsm)
   rw [List.take_succ_eq_append_getElem hi] at ih; exact ih
end
theorem WoolCommons_ev (l : List S25) : Ev (fun k => lw_WoolCommons.f k l) true := by
 unfold lw_WoolCommons.f
 by_cases h : (l.length : Int) > 10
 ·simp only [if_pos h, known_f, Option.bind_some]
  exact Ev.now _
 ·simp only [if_neg h]
  exact Commons_l0 l (by omega) l.length 0 (by omega) (fun d hd => by simp at hd)
theorem WoolCommons_pure (l0 : List (S25)) : ∃ k, lw_WoolCommons.f k l0 = some true := (WoolCommons_ev l0).rounds
end Go.Proofs.YtemingmeidmjkaaDoor.Q
namespace Go.Proofs.YtemingmeidmjkaaDoor
open Go.RowKit Go.ChangeShapes Go.Shelf Go.Proofs.YtemingmeidmjkaaDoorW.PrintWords
set_option linter.unusedVariables false
set_option maxRecDepth 100000
theorem glNamed : Tryd.prog.globalNamed "walkmill/wool.all" = some 0 := by kernel_rfl
theorem glType : (Tryd.prog.globals[0]?).map (·.type) = some 100 := by kernel_rfl
theorem cells3 : Tryd.prog.cellsOf 3 = 1 := by kernel_rfl
theorem cellsSome : Tryd.prog.cellsOf 100 = 2 := by kernel_rfl
theorem gl_of_laid {W : World} (h : laidMetH Tryd.prog [("walkmill/wool.all", Rows.laid_walkmill_wool_all)] W) : GL W := by
 have h' : laidMet Tryd.prog [("walkmill/wool.all", Rows.laid_walkmill_wool_all)] W := h; clear h; have h := h'; obtain ⟨ps, ⟨g, t, cs, fuel, p, q, e1, e2, e3, e4, _, _⟩, _⟩ := h; obtain rfl := Option.some.inj (glNamed.symm.trans e1); obtain rfl := Option.some.inj (glType.symm.trans e2); obtain ⟨xs, n, _, hx, hl, hlen, hf⟩ := DataW.trod_struct Tryd.underlying100 e4
 have hcell := fun i => World.var?_cell glNamed e3 i
 have hl2 : cs.toList.length = 2 := by rw [hl]; exact cellsSome
 match xs, hlen with
 | [y0, y1], _ =>
  have f0 := hf 0 _ rfl; have f1 := hf 1 _ rfl; simp only [List.getElem?_cons_zero, List.getElem?_cons_succ] at f0 f1; obtain ⟨a, ha, rfl, _⟩ := DataW.trod_int Tryd.underlying3 f0; obtain ⟨b, hb, rfl, _⟩ := DataW.trod_int Tryd.underlying3 f1; simp only [List.map_cons, List.map_nil, Rows.laid_walkmill_wool_all, Prod.mk.injEq, DataW.agg.injEq, List.cons.injEq, DataW.lit.injEq, Lit.int.injEq, true_and, and_true] at hx; obtain ⟨⟨rfl, rfl⟩, _⟩ := hx
  have hcs : cs = #[.int .i64 0, .int .i64 400] := by
   apply Array.toList_inj.1
   match hc : cs.toList, hl2 with
   | [u, v], _ =>
    rw [hc] at ha hb
    simp [cells3] at ha hb
    rw [ha, hb]
  refine ⟨rfl, by decide, fun _ => ⟨_, rfl, fun j x hj => ?_⟩⟩
  match j, hj with
  | 0, hj =>
   simp only [List.getElem?_cons_zero, Option.some.injEq] at hj; subst hj; refine ⟨[.int .i64 0, .int .i64 400], rfl, kSp_mk _ ⟨0, 400⟩, fun i u hi => ?_⟩; have h9 := hcell i; rw [hcs] at h9; rw [add_plain]; simp only [Nat.zero_mul, Nat.zero_add] at *; rw [h9]
   simpa using hi
def lay0 (w : World) : World := { w with heap := w.heap.modify 0 fun o => match o with
  | .cells _ t frozen => .cells #[.int .i64 0, .int .i64 400] t frozen
  | o => o }
theorem lay0_met (os : Os) (args : Array Value) : laidMetH Tryd.prog [("walkmill/wool.all", Rows.laid_walkmill_wool_all)] ((lay0 (World.holding Tryd.prog os ⟨#[], #[], []⟩)).forCall (fun _ _ => 0) ⟨#[], args, []⟩).memory := by
 show laidMet Tryd.prog [("walkmill/wool.all", Rows.laid_walkmill_wool_all)] _
 exact laidMet_of_run' 8 sqF sqF
end Go.Proofs.YtemingmeidmjkaaDoor
