/- Functions printed by the kit's printer over these walks, and the plain law. No condition. -/
import Derived.Test.YtemingmeidmjkaaDoorX0
import Derived.Test.YtemingmeidmjkaaDoorGWoolMisses0
set_option linter.unusedVariables false
set_option linter.unusedSimpArgs false
namespace Go.Proofs.YtemingmeidmjkaaDoor.Q
open Go.RowKit Go.Proofs.YtemingmeidmjkaaDoorW.PrintWords Go.Proofs.YtemingmeidmjkaaDoorW.PrintLast Go.Proofs.YtemingmeidmjkaaDoorW.PrintMore
attribute [local go_sem] max2_int min2_int max_two min_two max_three min_three max_four min_four   -- for this text's walks alone
set_option linter.unusedVariables false
set_option linter.unusedSimpArgs false
mutual
def rf_Totals.l0 : Nat → Bool → List Int → Int → List (S41) → List (S80) → Option (List Int)
 | 0, _, _, _, _, _ => none
 | k + 1, x1, x5, x6, x309000, x309001 => if x6 ≥ 0 then (if 401 ≤ 35184372088832 then (rf_Totals.l1 k x1 x5 x6 (List.replicate 401 0) 0 x309000 x309001) else (none)) else (some x5)
def rf_Totals.l1 : Nat → Bool → List Int → Int → List Int → Int → List (S41) → List (S80) → Option (List Int)
 | 0, _, _, _, _, _, _, _ => none
 | k + 1, x1, x5, x6, x7, x8, x309000, x309001 => if x8 ≤ 400 then (if 0 ≤ x8 then (if x8 < (x7.length : Int) then ((some (x7.set (x8 : Int).toNat (-1) : List Int)).bind fun y315 => ((rf_Fits.f k x309000 x309001 x6 x8).bind fun t316 => (if t316 = true then (if x6 = (x309000.length : Int) then (rf_Totals.l1 k x1 x5 x6 (y315.set (x8 : Int).toNat 0) (wrap64 (x8 + 1)) x309000 x309001) else (rf_Totals.l2 k x1 x5 x6 y315 x8 0 x309000 x309001)) else (rf_Totals.l1 k x1 x5 x6 y315 (wrap64 (x8 + 1)) x309000 x309001)))) else (none)) else (none)) else (rf_Totals.l0 k x1 x7 (wrap64 (x6 - 1)) x309000 x309001)
def rf_Totals.l2 : Nat → Bool → List Int → Int → List Int → Int → Int → List (S41) → List (S80) → Option (List Int)
 | 0, _, _, _, _, _, _, _, _ => none
 | k + 1, x1, x5, x6, x7, x8, x9, x309000, x309001 => if 0 ≤ x6 then (if x6 < (x309000.length : Int) then ((rf_Greatest.f ((rd_T41 x309000 x6).f0) ((rd_T41 x309000 x6).f1) x8).bind fun t319 => (if x9 ≤ t319 then (if 0 ≤ x9 then (if x9 < (x5.length : Int) then (if (rd x5 x9) < 0 then (rf_Totals.l2 k x1 x5 x6 x7 x8 (wrap64 (x9 + 1)) x309000 x309001) else ((rf_Greatest.f ((rd_T41 x309000 x6).f0) ((rd_T41 x309000 x6).f1) x8).bind fun t323 => (if x1 = true then (if 0 ≤ x8 then (if x8 < (x7.length : Int) then (rf_Totals.j3 k x1 x5 x6 x7 x8 x9 (wrap64 ((wrap64 ((rd x5 x9) + t323)) - x9)) (decide ((wrap64 ((wrap64 ((rd x5 x9) + t323)) - x9)) > (rd x7 x8))) x309000 x309001) else (none)) else (none)) else (rf_Totals.j3 k x1 x5 x6 x7 x8 x9 (wrap64 ((wrap64 ((rd x5 x9) + t323)) - x9)) false x309000 x309001)))) else (none)) else (none)) else (rf_Totals.l1 k x1 x5 x6 x7 (wrap64 (x8 + 1)) x309000 x309001))) else (none)) else (none)
def rf_Totals.j3 : Nat → Bool → List Int → Int → List Int → Int → Int → Int → Bool → List (S41) → List (S80) → Option (List Int)
 | 0, _, _, _, _, _, _, _, _, _, _ => none
 | k + 1, x1, x5, x6, x7, x8, x9, x10, x79, x309000, x309001 => if x79 = true then (if 0 ≤ x8 then (if x8 < (x7.length : Int) then ((some (x7.set (x8 : Int).toNat x10 : List Int)).bind fun y325 => (if 0 ≤ x9 then (if x9 < (x5.length : Int) then (if 0 ≤ x6 then (if x6 < (x309000.length : Int) then ((rf_Least.f ((rd_T41 x309000 x6).f0) ((rd_T41 x309000 x6).f1) x8).bind fun t328 => (if x1 = true then (rf_Totals.l2 k x1 x5 x6 y325 x8 (wrap64 (x9 + 1)) x309000 x309001) else (if (rd y325 x8) < 0 then (rf_Totals.l2 k x1 x5 x6 (y325.set (x8 : Int).toNat (wrap64 ((rd x5 x9) + (mx 0 (wrap64 (t328 - x9)))))) x8 (wrap64 (x9 + 1)) x309000 x309001) else (if (wrap64 ((rd x5 x9) + (mx 0 (wrap64 (t328 - x9))))) < (rd y325 x8) then (rf_Totals.l2 k x1 x5 x6 (y325.set (x8 : Int).toNat (wrap64 ((rd x5 x9) + (mx 0 (wrap64 (t328 - x9)))))) x8 (wrap64 (x9 + 1)) x309000 x309001) else (rf_Totals.l2 k x1 x5 x6 y325 x8 (wrap64 (x9 + 1)) x309000 x309001))))) else (none)) else (none)) else (none)) else (none))) else (none)) else (none)) else (if 0 ≤ x9 then (if x9 < (x5.length : Int) then (if 0 ≤ x6 then (if x6 < (x309000.length : Int) then ((rf_Least.f ((rd_T41 x309000 x6).f0) ((rd_T41 x309000 x6).f1) x8).bind fun t335 => (if x1 = true then (rf_Totals.l2 k x1 x5 x6 x7 x8 (wrap64 (x9 + 1)) x309000 x309001) else (if 0 ≤ x8 then (if x8 < (x7.length : Int) then (if (rd x7 x8) < 0 then (rf_Totals.l2 k x1 x5 x6 (x7.set (x8 : Int).toNat (wrap64 ((rd x5 x9) + (mx 0 (wrap64 (t335 - x9)))))) x8 (wrap64 (x9 + 1)) x309000 x309001) else (if (wrap64 ((rd x5 x9) + (mx 0 (wrap64 (t335 - x9))))) < (rd x7 x8) then (rf_Totals.l2 k x1 x5 x6 (x7.set (x8 : Int).toNat (wrap64 ((rd x5 x9) + (mx 0 (wrap64 (t335 - x9)))))) x8 (wrap64 (x9 + 1)) x309000 x309001) else (rf_Totals.l2 k x1 x5 x6 x7 x8 (wrap64 (x9 + 1)) x309000 x309001))) else (none)) else (none)))) else (none)) else (none)) else (none)) else (none))
end
def rf_Totals.f (k : Nat) (l0_0 : List (S41)) (l0_1 : List (S80)) (a1 : Bool) : Option (List Int) := rf_Totals.l0 k a1 (([] : List Int)) (l0_0.length : Int) l0_0 l0_1
def rf_Totals.T17 : Bool × List (List Nat × List Nat) := (true, [([], []), ([], []), ([0, 1], [0, 1]), ([2], [2]), ([], []), ([4], [4]), ([], []), ([5, 6], [5, 6]), ([7], [7]), ([], []), ([8, 9], [8, 9]), ([3, 10], [3, 10]), ([], []), ([11, 12], [11, 12]), ([13, 10, 0, 1, 2, 3, 4, 5, 6, 7, 8, 9, 10, 11, 12, 13], [13])])
def rf_Totals.B17 : List Nat := [0, 0, 3, 7, 0, 16, 0, 112, 240, 0, 1008, 2047, 0, 8191, 16383]
theorem rf_Totals.tab17 : rtab .any (opsOf Tryd.f70 17) = rf_Totals.T17 := by kernel_rfl
theorem rf_Totals.bits17 : waitsOk rf_Totals.T17.2 rf_Totals.B17 = true := by kernel_rfl
def rf_Totals.T20 : Bool × List (List Nat × List Nat) := (true, [([], []), ([], []), ([0, 1], [0, 1]), ([2], [2]), ([], []), ([4], [4]), ([], []), ([5, 6], [5, 6]), ([7], [7]), ([], []), ([8, 9], [8, 9]), ([], []), ([10, 11], [10, 11]), ([12], [12]), ([3, 13], [3, 13]), ([14, 10, 0, 1, 2, 3, 4, 5, 6, 7, 8, 9, 10, 11, 12, 13, 14], [14])])
def rf_Totals.B20 : List Nat := [0, 0, 3, 7, 0, 16, 0, 112, 240, 0, 1008, 0, 4080, 8176, 16383, 32767]
theorem rf_Totals.tab20 : rtab .any (opsOf Tryd.f70 20) = rf_Totals.T20 := by kernel_rfl
theorem rf_Totals.bits20 : waitsOk rf_Totals.T20.2 rf_Totals.B20 = true := by kernel_rfl
set_option maxHeartbeats 8000000 in
set_option maxRecDepth 100000 in
theorem rf_Totals.calls (k : Nat) (A0_0 : Option Addr) (c0_0 : Nat) (l0_0 : List (S41)) (A0_1 : Option Addr) (c0_1 : Nat) (l0_1 : List (S80)) (a1 : Bool) (r : List Int) (w : World) (hr0_0 : Kd.C k41 w A0_0 l0_0.length l0_0) (hc0_0 : l0_0.length ≤ c0_0) (hr0_1 : Kd.C k80 w A0_1 l0_1.length l0_1) (hc0_1 : l0_1.length ≤ c0_1) (h : rf_Totals.f k l0_0 l0_1 a1 = some r) :
  Calls Tryd.prog 70 #[.agg #[.slice A0_0 l0_0.length c0_0, .slice A0_1 l0_1.length c0_1], .bool a1] w fun e w' => ∃ v0_ : Value, e = .returned (v0_) ∧ Kd.R (Kd.int .i64) 3 w' w.heap.size (fun _ => True) v0_ r ∧ Below w.heap.size w w' := by
 have hu25 := Tryd.underlying25; have hu41 := Tryd.underlying41; have HR0_0 := Aside0.mk hr0_0; have HC0_0 := Aside0.mk hc0_0; clear hr0_0 hc0_0; have HR0_1 := Aside0.mk hr0_1; have HC0_1 := Aside0.mk hc0_1; clear hr0_1 hc0_1; have HB := Aside0.mk (Below.refl w.heap.size w); have H : (rf_Totals.l0 k a1 (([] : List Int)) (l0_0.length : Int) l0_0 l0_1) = some r := h; clear h; replace H : ∃ y_ : List Int, y_ = (([] : List Int)) ∧ (rf_Totals.l0 k a1 y_ (l0_0.length : Int) l0_0 l0_1) = some r := ⟨_, rfl, sqJ H⟩; obtain ⟨y309, hy309, H⟩ := H; have Ny309 := Aside0.mk hy309; clear hy309; have H' := Aside0.mk H; clear H; go_enter Tryd.func70, Tryd.ntmps70
 go_wp2_with (first | ((with_reducible refine gate_dst (N := 2) rfl ?_); refine box_event ?hg (N := 2) ?hd (cs := #[.slice A0_0 l0_0.length c0_0, .slice A0_1 l0_1.length c0_1]) (t := 25) ?hr ?_; (case hd => rfl); (case hg => rfl); (case hr => first | (go_simp; done) | (go_simp; rfl)); intro gb308 hg w3 hbox hb; have BK308 := Aside0.mk (hbox); have GW308 := Aside0.mk (sqZ hg HB); have GE308 := Aside0.mk (sqZ hg HB); replace HB := sqb hb HB; clear hb hbox hg) | ((with_reducible refine gate_dst (N := 12) rfl ?_); refine Kd.R_lit (Kd.int .i64) _ 3 ?hg (N := 12) ?hd (xs := ([] : List Int)) (inner := []) (ok := fun _ => True) (okp := fun _ => True) ?hr ?hp (fun _ hk => hk) trivial (Below.refl _ _) (Nat.le_refl _) (by simp) ?_; (case hd => rfl); (case hg => rfl); (case hr => first | (go_simp; done) | (go_simp; rfl)); (case hp => exact (Reps.none _ _)); intro v310 w4 ho5 hb hg_ hnew_; clear hg_ hnew_; (first | rw [← Ny309.out] at ho5 | (simp only [Int.reduceToNat] at ho5; rw [← Ny309.out] at ho5)); have HO311 := Aside0.mk (Kd.R_lower ho5 (below_size (sqB HB))); replace BK308 := sqk BK308 hb; replace HB := sqb hb HB; clear hb ho5; have hcz6_0 := sqc0 BK308; have hcz6_1 := sqc1 BK308; have hfz6_0 := blk_frozen BK308.out 0; have hfz6_1 := blk_frozen BK308.out 1))
 go_loopg [5, 6] k (fun kq v5 v6 w' => ∃ (x5_1 : List Int) (x6_1 : Int), v6 = .int .i64 x6_1 ∧ Aside0 (rf_Totals.l0 kq a1 x5_1 x6_1 l0_0 l0_1 = some r) ∧ Aside0 (kq ≤ k) ∧ Aside0 (Kd.R (Kd.int .i64) 3 w' w.heap.size (fun _ => True) v5 x5_1) ∧ Aside0 (w'.heap[gb308]? = some (.cells #[(.slice A0_0 l0_0.length c0_0), (.slice A0_1 l0_1.length c0_1)] 25 (0, 0))) ∧ Aside0 (Below w.heap.size w w'))
 case atStart => exact ⟨(y309), ((l0_0.length : Int)), sqE, H', ⟨Nat.le_refl _⟩, ⟨sqR HO311⟩, ⟨sqK BK308⟩, ⟨sqB HB⟩⟩
 case round =>
  clear H'; try clear hcz6_0
  (try clear hcz6_1); (try clear hfz6_0); (try clear hfz6_1); obtain ⟨x5_1, x6_1, rfl, HA, HK1, HO_5, BK308, HB⟩ := hrel
  cases gk with
  | zero => exact absurd HA.out (by simp [rf_Totals.l0])
  | succ k1 =>
   have H := HA.out; clear HA; simp only [rf_Totals.l0] at H
   by_cases c7 : x6_1 ≥ 0
   ·rw [if_pos c7] at H
    have c7b0 : decide (0 ≤ x6_1) = true := decide_eq_true c7; clear c7
    by_cases c8 : 401 ≤ 35184372088832
    ·rw [if_pos c8] at H
     have c8b0 := eq_true c8; have c8b1 : decide (401 ≤ 35184372088832) = true := decide_eq_true c8; clear c8; replace H : ∃ y_ : List Int, y_ = (List.replicate 401 0) ∧ (rf_Totals.l1 k1 a1 x5_1 x6_1 y_ 0 l0_0 l0_1) = some r := ⟨_, rfl, sqJ H⟩; obtain ⟨y312, hy312, H⟩ := H; have Ny312 := Aside0.mk hy312; clear hy312; have H' := Aside0.mk H; clear H; go_wp2_with (first | ((with_reducible refine gate_dst (N := 20) rfl ?_); refine Kd.R_make (Kd.int .i64) _ 3 rfl (N := 20) rfl 45 _ _ rfl 401 rfl rfl Tryd.underlying45 (.int .i64 0) 8 info3 rfl (by decide) (by omega) 0 (ok := fun _ => True) (okp := fun _ => True) rfl (fun _ hk => hk) trivial (by omega) (by omega) (Below.refl _ _) (Nat.le_refl _) ?_; intro v313 w9 ho10 hb hg_ hnew_; clear hg_ hnew_; (first | rw [← Ny312.out] at ho10 | (simp only [Int.reduceToNat] at ho10; rw [← Ny312.out] at ho10)); have HO314 := Aside0.mk (Kd.R_lower (Kd.R_new' ho10 (Kd.R_lt (sqR HO_5))) (below_size (sqB HB))); replace HO_5 := Aside0.mk (Kd.R_elder' (sqR HO_5) (Kd.R_base ho10) hb); replace BK308 := sqk BK308 hb; replace HB := sqb hb HB; clear hb ho10))
     go_loopg [8] k1 (fun kq v8 w' => ∃ (x7_2 : List Int) (x8_2 : Int), v8 = .int .i64 x8_2 ∧ Aside0 (rf_Totals.l1 kq a1 x5_1 x6_1 x7_2 x8_2 l0_0 l0_1 = some r) ∧ Aside0 (kq ≤ k1) ∧ Aside0 (Kd.R (Kd.int .i64) 3 w' w.heap.size (fun k_ => some k_ ≠ (v313 : Value).ownBlock) u5 x5_1) ∧ Aside0 (Kd.R (Kd.int .i64) 3 w' w.heap.size (fun k_ => some k_ ≠ (u5 : Value).ownBlock) v313 x7_2) ∧ Aside0 (w'.heap[gb308]? = some (.cells #[(.slice A0_0 l0_0.length c0_0), (.slice A0_1 l0_1.length c0_1)] 25 (0, 0))) ∧ Aside0 (Below w.heap.size w w'))
     case atStart => exact ⟨(y312), (0), sqE, H', ⟨Nat.le_refl _⟩, ⟨by (with_reducible repeat (first | apply Kd.R_alloc | apply Kd.R_drewN | apply Kd.R_drew)); exact Kd.R_mono HO_5.out (fun _ hk => hk.2)⟩, ⟨by (with_reducible repeat (first | apply Kd.R_alloc | apply Kd.R_drewN | apply Kd.R_drew)); exact Kd.R_mono HO314.out (fun _ hk => hk.2)⟩, ⟨sqK BK308⟩, ⟨sqB HB⟩⟩
     case round =>
      clear H'; try clear c7b0
      (try clear c8b0); (try clear c8b1); obtain ⟨x7_2, x8_2, rfl, HA, HK2, HO_5, HO_7, BK308, HB⟩ := hrel
      cases gk with
      | zero => exact absurd HA.out (by simp [rf_Totals.l1])
      | succ k2 =>
       have H := HA.out; clear HA; simp only [rf_Totals.l1] at H
       by_cases c11 : x8_2 ≤ 400
       ·rw [if_pos c11] at H
        have c11b0 : decide (x8_2 ≤ 400) = true := decide_eq_true c11; clear c11
        by_cases c12 : 0 ≤ x8_2
        ·rw [if_pos c12] at H
         have c12b0 : decide (0 ≤ x8_2) = true := decide_eq_true c12; clear c12
         by_cases c13 : x8_2 < (x7_2.length : Int)
         ·rw [if_pos c13] at H
          have c13b0 : decide (x8_2 < (x7_2.length : Int)) = true := decide_eq_true c13; clear c13; replace H : ∃ y_ : List Int, y_ = (x7_2.set (x8_2 : Int).toNat (-1)) ∧ ((rf_Fits.f k2 l0_0 l0_1 x6_1 x8_2).bind fun t316 => (if t316 = true then (if x6_1 = (l0_0.length : Int) then (rf_Totals.l1 k2 a1 x5_1 x6_1 (y_.set (x8_2 : Int).toNat 0) (wrap64 (x8_2 + 1)) l0_0 l0_1) else (rf_Totals.l2 k2 a1 x5_1 x6_1 y_ x8_2 0 l0_0 l0_1)) else (rf_Totals.l1 k2 a1 x5_1 x6_1 y_ (wrap64 (x8_2 + 1)) l0_0 l0_1))) = some r := ⟨_, rfl, sqJ H⟩; obtain ⟨y315, hy315, H⟩ := H; have Ny315 := Aside0.mk hy315; clear hy315; obtain ⟨t316, A150, H⟩ := Option.bind_eq_some_iff.mp H; have A15 := Aside0.mk A150; clear A150
          by_cases c16 : t316 = true
          ·subst c16
           rw [if_pos rfl] at H
           by_cases c17 : x6_1 = (l0_0.length : Int)
           ·rw [if_pos c17] at H
            have c17b0 : (x6_1 == (l0_0.length : Int)) = true := beq_iff_eq.mpr c17; have c17b1 : (x6_1 != (l0_0.length : Int)) = false := bne_eq_false_iff_eq.mpr c17; clear c17; replace H : ∃ y_ : List Int, y_ = (y315.set (x8_2 : Int).toNat 0) ∧ (rf_Totals.l1 k2 a1 x5_1 x6_1 y_ (wrap64 (x8_2 + 1)) l0_0 l0_1) = some r := ⟨_, rfl, sqJ H⟩; obtain ⟨y317, hy317, H⟩ := H; have Ny317 := Aside0.mk hy317; clear hy317; have H' := Aside0.mk H; clear H; have p14 : 0 ≤ (x8_2 : Int) := sqD; have q14 : (x8_2 : Int) < ((x7_2.length : Int) : Int) := sqD; obtain ⟨go14, co14, eo14, gb14, gl14, cl14, HG14⟩ := Kd.R_form HO_7.out (by omega)
            (first | cases eo14 | (injection eo14 with ea_ en_ ec_; (first | subst ea_ | (injection ea_ with ea_; subst ea_)); subst ec_; clear en_))
            have GB14 := Aside0.mk gb14; have GG14 := Aside0.mk HG14; clear gb14 gl14 HG14; obtain ⟨hx14_0, hf14_0⟩ := Kd.R_celln 0 HO_7.out (x8_2 : Int) p14 q14; replace p14 := eq_true p14; replace q14 := eq_true q14; have HP19 := Kd.R_putg HO_7.out (x8_2 : Int) (-1)
            go_wp2_with (first | ((with_reducible refine gate_store (t := 3) (p := 27) rfl ?_); refine store_event (t := 3) (p := 27) (v := ?vo_w20) (w1 := (wr.setCell ⟨go14, (x8_2 : Int).toNat, none⟩ (.int .i64 (-1)))) ?hg ?ho ?hn ?hr ?_; (case ho => rfl); (case hg => rfl); (case hn => rfl); (case hr => first | (go_simp; done) | (go_simp; rfl)); intro w20 hw; have hg : wr.grownBy w20 (some go14) := (by rw [hw]; exact HP19.2); have hp_ : Kd.R (Kd.int .i64) 3 w20 w.heap.size (fun k_ => some k_ ≠ (u5 : Value).ownBlock) (.slice (some ⟨go14, 0, none⟩) x7_2.length co14) y315 := (by rw [hw, Ny315.out]; exact HP19.1); clear HP19; replace HO_5 := Aside0.mk (Kd.R_after (v := (.slice (some ⟨go14, 0, none⟩) x7_2.length co14)) (v1 := (.slice (some ⟨go14, 0, none⟩) x7_2.length co14)) (ok := (fun _ => True)) (by (with_reducible repeat (first | apply Kd.R_alloc | apply Kd.R_drewN | apply Kd.R_drew)); exact Kd.R_mono HO_5.out (fun _ hk => ⟨trivial, hk⟩)) hg (.inl rfl)); replace BK308 := Aside0.mk (blk_grown (g := gb308) (o := .cells #[.slice A0_0 l0_0.length c0_0, .slice A0_1 l0_1.length c0_1] 25 (0, 0)) (sqK BK308) hg (Kd.R_ne HO_7.out BK308.out (by decide))); replace HO_7 := Aside0.mk (hp_); replace HB := Aside0.mk (by rw [hw]; exact below_set (HB.out) GB14.out : Below w.heap.size w w20); clear hg hw hp_; have hcz21_0 := sqc0 BK308; have hcz21_1 := sqc1 BK308; have hfz21_0 := blk_frozen BK308.out 0; have hfz21_1 := blk_frozen BK308.out 1) | ((with_reducible refine gate_callee (f := 64) rfl ?_); refine goesL_ (some 31) rfl rfl Tryd.func64 sqF rfl #[.agg #[.slice A0_0 l0_0.length c0_0, .slice A0_1 l0_1.length c0_1], .int .i64 x6_1, .int .i64 x8_2] rfl sqM ?_; (with_reducible refine (rf_Fits.calls k2 _ _ l0_0 _ _ l0_1 x6_1 x8_2 true _ ?side1 ?side2 ?side3 ?side4 A15.out).mono ?_); (case side1 => exact sqQ HR0_0 HB); (case side2 => exact HC0_0.out); (case side3 => exact sqQ HR0_1 HB); (case side4 => exact HC0_1.out); rintro e w22 ⟨rfl, hb⟩; refine ⟨_, rfl, ?_⟩; replace HO_5 := Aside0.mk (Kd.R_below (sqR HO_5) hb); replace HO_7 := Aside0.mk (Kd.R_below (sqR HO_7) hb); replace BK308 := sqk BK308 hb; replace HB := sqb hb HB; (try clear hb); (try clear hb2); (try clear hk); (try clear hi); have hcz23_0 := sqc0 BK308; have hcz23_1 := sqc1 BK308; have hfz23_0 := blk_frozen BK308.out 0; have hfz23_1 := blk_frozen BK308.out 1; have p18 : 0 ≤ (x8_2 : Int) := sqD; have q18 : (x8_2 : Int) < ((x7_2.length : Int) : Int) := sqD; obtain ⟨hx18_0, hf18_0⟩ := Kd.R_celln 0 HO_7.out (x8_2 : Int) p18 q18; replace p18 := eq_true p18; replace q18 := eq_true q18; obtain ⟨hy24_, hz24_⟩ := Kd.R_celln 0 HO_7.out (x8_2 : Int) (sqD) (sqD); have HP24 := Kd.R_putg HO_7.out (x8_2 : Int) 0) | ((with_reducible refine gate_store (t := 3) (p := 40) rfl ?_); refine store_event (t := 3) (p := 40) (v := ?vo_w25) (w1 := (w22.setCell ⟨go14, (x8_2 : Int).toNat, none⟩ (.int .i64 0))) ?hg ?ho ?hn ?hr ?_; (case ho => rfl); (case hg => rfl); (case hn => rfl); (case hr => first | (go_simp; done) | (go_simp; rfl)); intro w25 hw; have hg : w22.grownBy w25 (some go14) := (by rw [hw]; exact HP24.2); have hp_ : Kd.R (Kd.int .i64) 3 w25 w.heap.size (fun k_ => some k_ ≠ (u5 : Value).ownBlock) (.slice (some ⟨go14, 0, none⟩) x7_2.length co14) y317 := (by rw [hw, Ny317.out]; exact HP24.1); clear HP24; replace HO_5 := Aside0.mk (Kd.R_after (v := (.slice (some ⟨go14, 0, none⟩) x7_2.length co14)) (v1 := (.slice (some ⟨go14, 0, none⟩) x7_2.length co14)) (ok := (fun _ => True)) (sqR HO_5) hg (.inl rfl)); replace BK308 := Aside0.mk (blk_grown (g := gb308) (o := .cells #[.slice A0_0 l0_0.length c0_0, .slice A0_1 l0_1.length c0_1] 25 (0, 0)) (sqK BK308) hg (Kd.R_ne HO_7.out BK308.out (by decide))); replace HO_7 := Aside0.mk (hp_); replace HB := Aside0.mk (by rw [hw]; exact below_set (HB.out) GB14.out : Below w.heap.size w w25); clear hg hw hp_))
            go_roundg k2
            case measure => have := HK1.out; have := HK2.out; omega
            case rel => exact ⟨(y317), (wrap64 (x8_2 + 1)), sqE, H', ⟨by have := HK1.out; have := HK2.out; omega⟩, ⟨by (with_reducible repeat (first | apply Kd.R_alloc | apply Kd.R_drewN | apply Kd.R_drew)); exact Kd.R_mono HO_5.out (fun _ hk => hk.2)⟩, ⟨sqR HO_7⟩, ⟨sqK BK308⟩, ⟨sqB HB⟩⟩
           ·rw [if_neg c17] at H
            have c17b0 : (x6_1 == (l0_0.length : Int)) = false := beq_eq_false_iff_ne.mpr c17; have c17b1 : (x6_1 != (l0_0.length : Int)) = true := bne_iff_ne.mpr c17; have H' := Aside0.mk H; clear H; have p14 : 0 ≤ (x8_2 : Int) := sqD; have q14 : (x8_2 : Int) < ((x7_2.length : Int) : Int) := sqD; obtain ⟨go14, co14, eo14, gb14, gl14, cl14, HG14⟩ := Kd.R_form HO_7.out (by omega)
            (first | cases eo14 | (injection eo14 with ea_ en_ ec_; (first | subst ea_ | (injection ea_ with ea_; subst ea_)); subst ec_; clear en_))
            have GB14 := Aside0.mk gb14; have GG14 := Aside0.mk HG14; clear gb14 gl14 HG14; obtain ⟨hx14_0, hf14_0⟩ := Kd.R_celln 0 HO_7.out (x8_2 : Int) p14 q14; replace p14 := eq_true p14; replace q14 := eq_true q14; have HP26 := Kd.R_putg HO_7.out (x8_2 : Int) (-1)
            go_wp2_with (first | ((with_reducible refine gate_store (t := 3) (p := 27) rfl ?_); refine store_event (t := 3) (p := 27) (v := ?vo_w27) (w1 := (wr.setCell ⟨go14, (x8_2 : Int).toNat, none⟩ (.int .i64 (-1)))) ?hg ?ho ?hn ?hr ?_; (case ho => rfl); (case hg => rfl); (case hn => rfl); (case hr => first | (go_simp; done) | (go_simp; rfl)); intro w27 hw; have hg : wr.grownBy w27 (some go14) := (by rw [hw]; exact HP26.2); have hp_ : Kd.R (Kd.int .i64) 3 w27 w.heap.size (fun k_ => some k_ ≠ (u5 : Value).ownBlock) (.slice (some ⟨go14, 0, none⟩) x7_2.length co14) y315 := (by rw [hw, Ny315.out]; exact HP26.1); clear HP26; replace HO_5 := Aside0.mk (Kd.R_after (v := (.slice (some ⟨go14, 0, none⟩) x7_2.length co14)) (v1 := (.slice (some ⟨go14, 0, none⟩) x7_2.length co14)) (ok := (fun _ => True)) (by (with_reducible repeat (first | apply Kd.R_alloc | apply Kd.R_drewN | apply Kd.R_drew)); exact Kd.R_mono HO_5.out (fun _ hk => ⟨trivial, hk⟩)) hg (.inl rfl)); replace BK308 := Aside0.mk (blk_grown (g := gb308) (o := .cells #[.slice A0_0 l0_0.length c0_0, .slice A0_1 l0_1.length c0_1] 25 (0, 0)) (sqK BK308) hg (Kd.R_ne HO_7.out BK308.out (by decide))); replace HO_7 := Aside0.mk (hp_); replace HB := Aside0.mk (by rw [hw]; exact below_set (HB.out) GB14.out : Below w.heap.size w w27); clear hg hw hp_; have hcz28_0 := sqc0 BK308; have hcz28_1 := sqc1 BK308; have hfz28_0 := blk_frozen BK308.out 0; have hfz28_1 := blk_frozen BK308.out 1) | ((with_reducible refine gate_callee (f := 64) rfl ?_); refine goesL_ (some 31) rfl rfl Tryd.func64 sqF rfl #[.agg #[.slice A0_0 l0_0.length c0_0, .slice A0_1 l0_1.length c0_1], .int .i64 x6_1, .int .i64 x8_2] rfl sqM ?_; (with_reducible refine (rf_Fits.calls k2 _ _ l0_0 _ _ l0_1 x6_1 x8_2 true _ ?side1 ?side2 ?side3 ?side4 A15.out).mono ?_); (case side1 => exact sqQ HR0_0 HB); (case side2 => exact HC0_0.out); (case side3 => exact sqQ HR0_1 HB); (case side4 => exact HC0_1.out); rintro e w29 ⟨rfl, hb⟩; refine ⟨_, rfl, ?_⟩; replace HO_5 := Aside0.mk (Kd.R_below (sqR HO_5) hb); replace HO_7 := Aside0.mk (Kd.R_below (sqR HO_7) hb); replace BK308 := sqk BK308 hb; replace HB := sqb hb HB; (try clear hb); (try clear hb2); (try clear hk); (try clear hi); have hcz30_0 := sqc0 BK308; have hcz30_1 := sqc1 BK308; have hfz30_0 := blk_frozen BK308.out 0; have hfz30_1 := blk_frozen BK308.out 1))
            go_loopg [9] k2 (fun kq v9 w' => ∃ (x7_3 : List Int) (x9_3 : Int), v9 = .int .i64 x9_3 ∧ Aside0 (rf_Totals.l2 kq a1 x5_1 x6_1 x7_3 x8_2 x9_3 l0_0 l0_1 = some r) ∧ Aside0 (kq ≤ k2) ∧ Aside0 (Kd.R (Kd.int .i64) 3 w' w.heap.size (fun k_ => some k_ ≠ ((.slice (some ⟨go14, 0, none⟩) x7_2.length co14) : Value).ownBlock) u5 x5_1) ∧ Aside0 (Kd.R (Kd.int .i64) 3 w' w.heap.size (fun k_ => some k_ ≠ (u5 : Value).ownBlock) (.slice (some ⟨go14, 0, none⟩) x7_2.length co14) x7_3) ∧ Aside0 (w'.heap[gb308]? = some (.cells #[(.slice A0_0 l0_0.length c0_0), (.slice A0_1 l0_1.length c0_1)] 25 (0, 0))) ∧ Aside0 (Below w.heap.size w w'))
            case atStart => exact ⟨(y315), (0), sqE, H', ⟨Nat.le_refl _⟩, ⟨by (with_reducible repeat (first | apply Kd.R_alloc | apply Kd.R_drewN | apply Kd.R_drew)); exact Kd.R_mono HO_5.out (fun _ hk => hk.2)⟩, ⟨sqR HO_7⟩, ⟨sqK BK308⟩, ⟨sqB HB⟩⟩
            case round =>
             clear H'; try clear c11b0
             (try clear c12b0); (try clear c13b0); (try clear p14); (try clear q14); (try clear c16); (try clear c17); (try clear c17b0); (try clear c17b1); (try clear hcz28_0); (try clear hcz28_1); (try clear hcz30_0); (try clear hcz30_1); (try clear hfz28_0); (try clear hfz28_1); (try clear hfz30_0); (try clear hfz30_1); (try clear hx14_0); obtain ⟨x7_3, x9_3, rfl, HA, HK3, HO_5, HO_7, BK308, HB⟩ := hrel; have hl7_3 := (Kd.R_reads' HO_7.out).1; rw [hl7_3] at HO_7
             (try simp only [hl7_3])
             (try simp only [hl7_3] at BK308)
             (try simp only [hl7_3] at HO_5)
             cases gk with
             | zero => exact absurd HA.out (by simp [rf_Totals.l2])
             | succ k3 =>
              have H := HA.out; clear HA; simp only [rf_Totals.l2] at H
              by_cases c31 : 0 ≤ x6_1
              ·rw [if_pos c31] at H
               have c31b0 : decide (0 ≤ x6_1) = true := decide_eq_true c31; clear c31
               by_cases c32 : x6_1 < (l0_0.length : Int)
               ·rw [if_pos c32] at H
                have c32b0 : decide (x6_1 < (l0_0.length : Int)) = true := decide_eq_true c32; clear c32; obtain ⟨t319, A330, H⟩ := Option.bind_eq_some_iff.mp H; have A33 := Aside0.mk A330; clear A330
                by_cases c34 : x9_3 ≤ t319
                ·rw [if_pos c34] at H
                 have c34b0 : decide (x9_3 ≤ t319) = true := decide_eq_true c34; clear c34
                 by_cases c35 : 0 ≤ x9_3
                 ·rw [if_pos c35] at H
                  have c35b0 : decide (0 ≤ x9_3) = true := decide_eq_true c35; clear c35
                  by_cases c36 : x9_3 < (x5_1.length : Int)
                  ·rw [if_pos c36] at H
                   have c36b0 : decide (x9_3 < (x5_1.length : Int)) = true := decide_eq_true c36; clear c36
                   by_cases c37 : (rd x5_1 x9_3) < 0
                   ·rw [if_pos c37] at H
                    have c37b0 : decide ((rd x5_1 x9_3) < 0) = true := decide_eq_true c37; clear c37; have H' := Aside0.mk H; clear H; have hcz38_0 := sqc0 BK308; have hcz38_1 := sqc1 BK308; have hfz38_0 := blk_frozen BK308.out 0; have hfz38_1 := blk_frozen BK308.out 1; have p318 : 0 ≤ (x6_1 : Int) := sqD; have q318 : x6_1 < (l0_0.length : Int) := sqD; obtain ⟨ad318, e318, hx318_0, hx318_1⟩ := at_T41 HR0_0.out x6_1 p318 q318
                    cases e318
                    replace hx318_0 := (HB.out.cell (World.block_lt_of_cell? w _ hx318_0)).trans hx318_0; replace hx318_1 := (HB.out.cell (World.block_lt_of_cell? w _ hx318_1)).trans hx318_1; replace p318 := eq_true p318; replace q318 := eq_true q318
                    go_wp2_with (first | ((with_reducible refine gate_callee (f := 75) rfl ?_); refine goesL_ (some 48) rfl rfl Tryd.func75 sqF rfl #[.agg #[.int .i64 ((rd_T41 l0_0 x6_1).f0), .int .i64 ((rd_T41 l0_0 x6_1).f1)], .int .i64 x8_2] rfl sqM ?_; (with_reducible refine (rf_Greatest.calls ((rd_T41 l0_0 x6_1).f0) ((rd_T41 l0_0 x6_1).f1) x8_2 t319 _ A33.out).mono ?_); rintro e w39 ⟨rfl, hb⟩; refine ⟨_, rfl, ?_⟩; replace HO_5 := Aside0.mk (Kd.R_below (sqR HO_5) hb); replace HO_7 := Aside0.mk (Kd.R_below (sqR HO_7) hb); replace BK308 := sqk BK308 hb; replace HB := sqb hb HB; (try clear hb); (try clear hb2); (try clear hk); (try clear hi); obtain ⟨Ao40, co40, eo40⟩ := Kd.R_slice HO_5.out; subst eo40; have p320 : 0 ≤ (x9_3 : Int) := sqD; have q320 : x9_3 < (x5_1.length : Int) := sqD; obtain ⟨ad320, e320, hx320_0⟩ := Kd.at_int (Kd.R_reads' HO_5.out).2.2 x9_3 p320 q320; cases e320; replace p320 := eq_true p320; replace q320 := eq_true q320))
                    (try simp only [← hl7_3])
                    go_roundg k3
                    case measure => have := HK1.out; have := HK2.out; have := HK3.out; omega
                    case rel => exact ⟨(x7_3), (wrap64 (x9_3 + 1)), sqE, H', ⟨by have := HK1.out; have := HK2.out; have := HK3.out; omega⟩, ⟨by (try simp only [hl7_3]); (with_reducible repeat (first | apply Kd.R_alloc | apply Kd.R_drewN | apply Kd.R_drew)); exact HO_5.out⟩, ⟨by (try simp only [hl7_3]); (with_reducible repeat (first | apply Kd.R_alloc | apply Kd.R_drewN | apply Kd.R_drew)); exact HO_7.out⟩, ⟨by (try simp only [hl7_3]); (with_reducible repeat (first | refine blk_drewN ?_ _ | refine blk_drew ?_ | refine blk_alloc ?_ _)); exact BK308.out⟩, ⟨sqB HB⟩⟩
                   ·rw [if_neg c37] at H
                    have c37b0 : decide ((rd x5_1 x9_3) < 0) = false := decide_eq_false c37; clear c37; obtain ⟨t323, A410, H⟩ := Option.bind_eq_some_iff.mp H; have A41 := Aside0.mk A410; clear A410; have HC42 := Aside0.mk H; clear H; have hcz43_0 := sqc0 BK308; have hcz43_1 := sqc1 BK308; have hfz43_0 := blk_frozen BK308.out 0; have hfz43_1 := blk_frozen BK308.out 1; have p318 : 0 ≤ (x6_1 : Int) := sqD; have q318 : x6_1 < (l0_0.length : Int) := sqD; obtain ⟨ad318, e318, hx318_0, hx318_1⟩ := at_T41 HR0_0.out x6_1 p318 q318
                    cases e318
                    replace hx318_0 := (HB.out.cell (World.block_lt_of_cell? w _ hx318_0)).trans hx318_0; replace hx318_1 := (HB.out.cell (World.block_lt_of_cell? w _ hx318_1)).trans hx318_1; replace p318 := eq_true p318; replace q318 := eq_true q318
                    try go_wp2_with (first | ((with_reducible refine gate_callee (f := 75) rfl ?_); refine goesL_ (some 48) rfl rfl Tryd.func75 sqF rfl #[.agg #[.int .i64 ((rd_T41 l0_0 x6_1).f0), .int .i64 ((rd_T41 l0_0 x6_1).f1)], .int .i64 x8_2] rfl sqM ?_; (with_reducible refine (rf_Greatest.calls ((rd_T41 l0_0 x6_1).f0) ((rd_T41 l0_0 x6_1).f1) x8_2 t319 _ A33.out).mono ?_); rintro e w44 ⟨rfl, hb⟩; refine ⟨_, rfl, ?_⟩; replace HO_5 := Aside0.mk (Kd.R_below (sqR HO_5) hb); replace HO_7 := Aside0.mk (Kd.R_below (sqR HO_7) hb); replace BK308 := sqk BK308 hb; replace HB := sqb hb HB; (try clear hb); (try clear hb2); (try clear hk); (try clear hi); obtain ⟨Ao45, co45, eo45⟩ := Kd.R_slice HO_5.out; subst eo45; have p320 : 0 ≤ (x9_3 : Int) := sqD; have q320 : x9_3 < (x5_1.length : Int) := sqD; obtain ⟨ad320, e320, hx320_0⟩ := Kd.at_int (Kd.R_reads' HO_5.out).2.2 x9_3 p320 q320; cases e320; replace p320 := eq_true p320; replace q320 := eq_true q320))
                    have n0_ := Aside0.mk (Kd.R_drew HO_5.out); have n1_ := Aside0.mk (Kd.R_drew HO_7.out); have n2_ := Aside0.mk (blk_drew BK308.out); have n3_ := Aside0.mk (below_drew1 HB.out); clear HO_5 HO_7 BK308 HB; have HO_5 := n0_; have HO_7 := n1_; have BK308 := n2_; have HB := n3_; clear n0_ n1_ n2_ n3_; have p321 : 0 ≤ (x9_3 : Int) := sqD; have q321 : x9_3 < (x5_1.length : Int) := sqD; obtain ⟨ad321, e321, hx321_0⟩ := Kd.at_int (Kd.R_reads' HO_5.out).2.2 x9_3 p321 q321; obtain rfl : ad320 = ad321 := (by injection e321); replace p321 := eq_true p321; replace q321 := eq_true q321; have p322 : 0 ≤ (x6_1 : Int) := sqD; have q322 : x6_1 < (l0_0.length : Int) := sqD; obtain ⟨ad322, e322, hx322_0, hx322_1⟩ := at_T41 HR0_0.out x6_1 p322 q322; have hw322_1 := hx322_1; have hw322_0 := hx322_0; obtain rfl : ad318 = ad322 := (by injection e322); replace hx322_0 := (HB.out.cell (World.block_lt_of_cell? w _ hx322_0)).trans hx322_0; replace hx322_1 := (HB.out.cell (World.block_lt_of_cell? w _ hx322_1)).trans hx322_1; replace p322 := eq_true p322; replace q322 := eq_true q322; refine start_ (n := 15) (S := fun w' => w'.cell? ⟨gb308, 0, none⟩ = some (.slice (some ad318) l0_0.length c0_0) ∧ w'.cell? ⟨gb308, 1, none⟩ = some (.slice A0_1 l0_1.length c0_1) ∧ w'.cell? (ad320.add (x9_3).toNat) = some (.int .i64 (rd x5_1 x9_3)) ∧ w'.cell? (ad318.add ((x6_1).toNat * 2)) = some (.int .i64 ((rd_T41 l0_0 x6_1).f0)) ∧ w'.cell? ⟨(ad318.add ((x6_1).toNat * 2)).block, (ad318.add ((x6_1).toNat * 2)).off + 1, none⟩ = some (.int .i64 ((rd_T41 l0_0 x6_1).f1))) (ds := []) (bm 15 0) sqF rfl rfl ⟨(blk_cell BK308.out 0).trans rfl, (blk_cell BK308.out 1).trans rfl, hx321_0, ((HB.out.cell (World.block_lt_of_cell? w _ hw322_0)).trans hw322_0), ((HB.out.cell (World.block_lt_of_cell? w _ hw322_1)).trans hw322_1)⟩ (fun hHeld => ?_); refine with_tabW rf_Totals.tab17 rf_Totals.bits17 (fun HT_ HW_ => ?_)
                    generalize w44.drew = w46 at HO_5 HO_7 BK308 HB hx321_0 hx322_0 hx322_1 hHeld ⊢
                    refine pure_ (i := 0) (N := some 57) (v := ?_) (a' := ?_) (bm 15 1) rfl rfl (any_of HT_.out sqF) (fun _ _ _ h => h) (Or.inl ⟨by rfl, ?_⟩) ?_ ?_
                    rotate_left
                    ·intro w'
                     go_simp; with_reducible rfl
                    rotate_left
                    ·simp only [Act.put, sqA, i64_w, i32_w]; rfl
                    refine pure_ (i := 1) (N := some 58) (v := ?_) (a' := ?_) (bm 15 3) rfl rfl (any_of HT_.out sqF) (fun _ _ _ h => h) (Or.inl ⟨by rfl, ?_⟩) ?_ ?_
                    rotate_left
                    ·intro w'
                     go_simp; with_reducible rfl
                    rotate_left
                    ·simp only [Act.put, sqA, i64_w, i32_w]; rfl
                    refine pure_ (i := 2) (N := some 59) (v := ?_) (a' := ?_) (bm 15 7) rfl rfl (any_of HT_.out sqF) (fun _ _ _ h => h) (Or.inl ⟨by rfl, ?_⟩) ?_ ?_
                    rotate_left
                    ·intro w'
                     go_simp; with_reducible rfl
                    rotate_left
                    ·simp only [Act.put, sqA, i64_w, i32_w]; rfl
                    refine pure_ (i := 4) (N := some 61) (v := ?_) (a' := ?_) (bm 15 23) rfl rfl (any_of HT_.out sqF) (fun _ _ _ h => h) (Or.inl ⟨by rfl, ?_⟩) ?_ ?_
                    rotate_left
                    ·intro w'
                     go_simp; with_reducible rfl
                    rotate_left
                    ·simp only [Act.put, sqA, i64_w, i32_w]; rfl
                    refine pure_ (i := 6) (N := some 63) (v := ?_) (a' := ?_) (bm 15 87) rfl rfl (any_of HT_.out sqF) (fun _ _ _ h => h) (Or.inl ⟨by rfl, ?_⟩) ?_ ?_
                    rotate_left
                    ·intro w'
                     go_simp; with_reducible rfl
                    rotate_left
                    ·simp only [Act.put, sqA, i64_w, i32_w]; rfl
                    refine pure_ (i := 9) (N := some 66) (v := ?_) (a' := ?_) (bm 15 599) rfl rfl (any_of HT_.out sqF) (fun _ _ _ h => h) (Or.inl ⟨by rfl, ?_⟩) ?_ ?_
                    rotate_left
                    ·intro w'
                     go_simp; with_reducible rfl
                    rotate_left
                    ·simp only [Act.put, sqA, i64_w, i32_w]; rfl
                    refine pure_ (i := 12) (N := some 69) (v := ?_) (a' := ?_) (bm 15 4695) rfl rfl (any_of HT_.out sqF) (fun _ _ _ h => h) (Or.inl ⟨by rfl, ?_⟩) ?_ ?_
                    rotate_left
                    ·intro w'
                     go_simp; with_reducible rfl
                    rotate_left
                    ·simp only [Act.put, sqA, i64_w, i32_w]; rfl
                    refine take_ (i := 3) (N := some 60) (v := ?_) (a' := ?_) (bm 15 4703) rfl rfl (take_ofW HT_.out HW_.out sqF) (fun _ _ _ h => h) (Or.inl ⟨by rfl, ?_⟩) hHeld ?_ ?_
                    rotate_left
                    ·rintro w' ⟨s0, s1, s2, s3, s4⟩
                     go_simp; with_reducible rfl
                    rotate_left
                    ·simp only [Act.put, sqA, i64_w, i32_w]; rfl
                    refine take_ (i := 5) (N := some 62) (v := ?_) (a' := ?_) (bm 15 4735) rfl rfl (take_ofW HT_.out HW_.out sqF) (fun _ _ _ h => h) (Or.inl ⟨by rfl, ?_⟩) hHeld ?_ ?_
                    rotate_left
                    ·rintro w' ⟨s0, s1, s2, s3, s4⟩
                     go_simp; with_reducible rfl
                    rotate_left
                    ·simp only [Act.put, sqA, i64_w, i32_w]; rfl
                    refine pure_ (i := 7) (N := some 64) (v := ?_) (a' := ?_) (bm 15 4863) rfl rfl (any_of HT_.out sqF) (fun _ _ _ h => h) (Or.inl ⟨by rfl, ?_⟩) ?_ ?_
                    rotate_left
                    ·intro w'
                     go_simp; with_reducible rfl
                    rotate_left
                    ·simp only [Act.put, sqA, i64_w, i32_w]; rfl
                    refine take_ (i := 8) (N := some 65) (v := ?_) (a' := ?_) (bm 15 5119) rfl rfl (take_ofW HT_.out HW_.out sqF) (fun _ _ _ h => h) (Or.inl ⟨by rfl, ?_⟩) hHeld ?_ ?_
                    rotate_left
                    ·rintro w' ⟨s0, s1, s2, s3, s4⟩
                     go_simp; with_reducible rfl
                    rotate_left
                    ·simp only [Act.put, sqA, i64_w, i32_w]; rfl
                    refine one_ (i := 10) (N := some 67) (bm 15 6143) rfl rfl (one_of HT_.out sqF) (by decide) (fun K hK => ?_); refine goes_ Tryd.func75 sqF rfl #[.agg #[.int .i64 ((rd_T41 l0_0 x6_1).f0), .int .i64 ((rd_T41 l0_0 x6_1).f1)], .int .i64 x8_2] (by rfl) rfl rfl sqM ?_
                    with_reducible refine (rf_Greatest.calls ((rd_T41 l0_0 x6_1).f0) ((rd_T41 l0_0 x6_1).f1) x8_2 t323 _ A41.out).mono ?_
                    rintro e w47 ⟨rfl, hb⟩; have HS2_ := (hb.cell (World.block_lt_of_cell? _ _ (hHeld.2.2.1))).trans (hHeld.2.2.1); refine ⟨_, rfl, ?_⟩; have n0_ := Aside0.mk (Kd.R_below (sqR HO_5) hb); have n1_ := Aside0.mk (Kd.R_below (sqR HO_7) hb); have n2_ := Aside0.mk (blk_below (g := gb308) (o := .cells #[.slice (some ad318) l0_0.length c0_0, .slice A0_1 l0_1.length c0_1] 25 (0, 0)) (sqK BK308) hb); have n3_ := Aside0.mk (below_step (sqB HB) hb); clear HO_5 HO_7 BK308 HB; have HO_5 := n0_; have HO_7 := n1_; have BK308 := n2_; have HB := n3_; clear n0_ n1_ n2_ n3_; (try clear hb); (try clear hb2); (try clear hk); (try clear hi); refine hK.out _ _ ⟨(blk_cell BK308.out 0).trans rfl, (blk_cell BK308.out 1).trans rfl, HS2_, ((HB.out.cell (World.block_lt_of_cell? w _ hw322_0)).trans hw322_0), ((HB.out.cell (World.block_lt_of_cell? w _ hw322_1)).trans hw322_1)⟩ (fun hHeld => ?_); clear hK K; refine norm_ (a' := ?_) ?_ ?_
                    rotate_left
                    ·show Act.put _ (some 67) _ = _
                     simp only [Act.put, sqA, i64_w, i32_w]; rfl
                    refine pure_ (i := 11) (N := some 68) (v := ?_) (a' := ?_) (bm 15 8191) rfl rfl (any_of HT_.out sqF) (fun _ _ _ h => h) (Or.inl ⟨by rfl, ?_⟩) ?_ ?_
                    rotate_left
                    ·intro w'
                     go_simp; with_reducible rfl
                    rotate_left
                    ·simp only [Act.put, sqA, i64_w, i32_w]; rfl
                    refine pure_ (i := 13) (N := some 70) (v := ?_) (a' := ?_) (bm 15 16383) rfl rfl (any_of HT_.out sqF) (fun _ _ _ h => h) (Or.inl ⟨by rfl, ?_⟩) ?_ ?_
                    rotate_left
                    ·intro w'
                     go_simp; with_reducible rfl
                    rotate_left
                    ·simp only [Act.put, sqA, i64_w, i32_w]; rfl
                    refine pure_ (i := 14) (N := some 10) (v := ?_) (a' := ?_) (bm 15 32767) rfl rfl (any_of HT_.out sqF) (fun _ _ _ h => h) (Or.inl ⟨by rfl, ?_⟩) ?_ ?_
                    rotate_left
                    ·intro w'
                     go_simp; with_reducible rfl
                    rotate_left
                    ·simp only [Act.put, sqA, i64_w, i32_w]; rfl
                    refine done_ (done_of HT_.out sqF) ?_
                    go_upto_region 18 with (fail)
                    go_cut [79] (fun v79 wc => ∃ (kq : Nat) (x79_41 : Bool), v79 = .bool x79_41 ∧ Aside0 (rf_Totals.j3 kq a1 x5_1 x6_1 x7_3 x8_2 x9_3 (wrap64 ((wrap64 ((rd x5_1 x9_3) + t323)) - x9_3)) x79_41 l0_0 l0_1 = some r) ∧ Aside0 (kq ≤ k3) ∧ Aside0 (Kd.R (Kd.int .i64) 3 wc w.heap.size (fun k_ => some k_ ≠ ((.slice (some ⟨go14, 0, none⟩) x7_3.length co14) : Value).ownBlock) (.slice (some ad320) x5_1.length co45) x5_1) ∧ Aside0 (Kd.R (Kd.int .i64) 3 wc w.heap.size (fun k_ => some k_ ≠ ((.slice (some ad320) x5_1.length co45) : Value).ownBlock) (.slice (some ⟨go14, 0, none⟩) x7_3.length co14) x7_3) ∧ Aside0 (wc.heap[gb308]? = some (.cells #[(.slice (some ad318) l0_0.length c0_0), (.slice A0_1 l0_1.length c0_1)] 25 (0, 0))) ∧ Aside0 (Below w.heap.size w wc))
                    case first =>
                     have H := HC42.out; clear HC42
                     by_cases c48 : a1 = true
                     ·subst c48
                      rw [if_pos rfl] at H
                      by_cases c49 : 0 ≤ x8_2
                      ·rw [if_pos c49] at H
                       have c49b0 : decide (0 ≤ x8_2) = true := decide_eq_true c49; clear c49
                       (first | rw [c49b0] | (simp only [i64_w, i32_w]; rw [c49b0]) | skip)
                       by_cases c50 : x8_2 < (x7_3.length : Int)
                       ·rw [if_pos c50] at H
                        have c50b0 : decide (x8_2 < (x7_3.length : Int)) = true := decide_eq_true c50; clear c50; have H' := Aside0.mk H; clear H; have p324 : 0 ≤ (x8_2 : Int) := sqD; have q324 : x8_2 < (x7_3.length : Int) := sqD; obtain ⟨ad324, e324, hx324_0⟩ := Kd.at_int (Kd.R_reads' HO_7.out).2.2 x8_2 p324 q324; obtain rfl : (⟨go14, 0, none⟩ : Addr) = ad324 := (by injection e324)
                        (first | simp only [add_plain] at hx324_0 | simp only [add_at] at hx324_0 | simp only [Addr.add, Nat.zero_add] at hx324_0 | skip)
                        replace p324 := eq_true p324; replace q324 := eq_true q324
                        go_wp2
                        go_meet
                        case rel => exact ⟨_, (decide ((wrap64 ((wrap64 ((rd x5_1 x9_3) + t323)) - x9_3)) > (rd x7_3 x8_2))), sqE, H', ⟨by have := HK1.out; have := HK2.out; have := HK3.out; first | omega | exact Nat.le_refl _⟩, ⟨by (try simp only [hl7_3]); (with_reducible repeat (first | apply Kd.R_alloc | apply Kd.R_drewN | apply Kd.R_drew)); exact HO_5.out⟩, ⟨by (try simp only [hl7_3]); (with_reducible repeat (first | apply Kd.R_alloc | apply Kd.R_drewN | apply Kd.R_drew)); exact HO_7.out⟩, ⟨by (try simp only [hl7_3]); (with_reducible repeat (first | refine blk_drewN ?_ _ | refine blk_drew ?_ | refine blk_alloc ?_ _)); exact BK308.out⟩, ⟨sqB HB⟩⟩
                       ·rw [if_neg c50] at H
                        exact absurd H (by simp)
                      ·rw [if_neg c49] at H
                       exact absurd H (by simp)
                     ·replace c48 := Bool.eq_false_iff.mpr c48
                      subst c48; rw [if_neg Bool.false_ne_true] at H; have H' := Aside0.mk H; clear H; go_wp2
                      go_meet
                      case rel => exact ⟨_, (false), sqE, H', ⟨by have := HK1.out; have := HK2.out; have := HK3.out; first | omega | exact Nat.le_refl _⟩, ⟨by (try simp only [hl7_3]); (with_reducible repeat (first | apply Kd.R_alloc | apply Kd.R_drewN | apply Kd.R_drew)); exact HO_5.out⟩, ⟨by (try simp only [hl7_3]); (with_reducible repeat (first | apply Kd.R_alloc | apply Kd.R_drewN | apply Kd.R_drew)); exact HO_7.out⟩, ⟨by (try simp only [hl7_3]); (with_reducible repeat (first | refine blk_drewN ?_ _ | refine blk_drew ?_ | refine blk_alloc ?_ _)); exact BK308.out⟩, ⟨sqB HB⟩⟩
                    case rest =>
                     clear HC42; try clear c31b0
                     (try clear c32b0); (try clear c34b0); (try clear c35b0); (try clear c36b0); (try clear c37b0); (try clear hcz43_0); (try clear hcz43_1); (try clear hfz43_0); (try clear hfz43_1); (try clear hx318_0); (try clear hx318_1); (try clear hx320_0); (try clear hx321_0); (try clear hx322_0); (try clear hx322_1); (try clear p318); (try clear p320); (try clear p321); (try clear p322); (try clear q318); (try clear q320); (try clear q321); (try clear q322); obtain ⟨kq, x79_41, rfl, HA, HJ41, HO_5, HO_7, BK308, HB⟩ := hcut
                     cases kq with
                     | zero => exact absurd HA.out (by simp [rf_Totals.j3])
                     | succ kj41 =>
                      have H := HA.out; clear HA; simp only [rf_Totals.j3] at H
                      by_cases c51 : x79_41 = true
                      ·subst c51
                       rw [if_pos rfl] at H
                       by_cases c52 : 0 ≤ x8_2
                       ·rw [if_pos c52] at H
                        have c52b0 : decide (0 ≤ x8_2) = true := decide_eq_true c52; clear c52
                        by_cases c53 : x8_2 < (x7_3.length : Int)
                        ·rw [if_pos c53] at H
                         have c53b0 : decide (x8_2 < (x7_3.length : Int)) = true := decide_eq_true c53; clear c53; replace H : ∃ y_ : List Int, y_ = (x7_3.set (x8_2 : Int).toNat (wrap64 ((wrap64 ((rd x5_1 x9_3) + t323)) - x9_3))) ∧ (if 0 ≤ x9_3 then (if x9_3 < (x5_1.length : Int) then (if 0 ≤ x6_1 then (if x6_1 < (l0_0.length : Int) then ((rf_Least.f ((rd_T41 l0_0 x6_1).f0) ((rd_T41 l0_0 x6_1).f1) x8_2).bind fun t328 => (if a1 = true then (rf_Totals.l2 kj41 a1 x5_1 x6_1 y_ x8_2 (wrap64 (x9_3 + 1)) l0_0 l0_1) else (if (rd y_ x8_2) < 0 then (rf_Totals.l2 kj41 a1 x5_1 x6_1 (y_.set (x8_2 : Int).toNat (wrap64 ((rd x5_1 x9_3) + (mx 0 (wrap64 (t328 - x9_3)))))) x8_2 (wrap64 (x9_3 + 1)) l0_0 l0_1) else (if (wrap64 ((rd x5_1 x9_3) + (mx 0 (wrap64 (t328 - x9_3))))) < (rd y_ x8_2) then (rf_Totals.l2 kj41 a1 x5_1 x6_1 (y_.set (x8_2 : Int).toNat (wrap64 ((rd x5_1 x9_3) + (mx 0 (wrap64 (t328 - x9_3)))))) x8_2 (wrap64 (x9_3 + 1)) l0_0 l0_1) else (rf_Totals.l2 kj41 a1 x5_1 x6_1 y_ x8_2 (wrap64 (x9_3 + 1)) l0_0 l0_1))))) else (none)) else (none)) else (none)) else (none)) = some r := ⟨_, rfl, sqJ H⟩; obtain ⟨y325, hy325, H⟩ := H; have Ny325 := Aside0.mk hy325; clear hy325
                         by_cases c55 : 0 ≤ x9_3
                         ·rw [if_pos c55] at H
                          have c55b0 : decide (0 ≤ x9_3) = true := decide_eq_true c55; clear c55
                          by_cases c56 : x9_3 < (x5_1.length : Int)
                          ·rw [if_pos c56] at H
                           have c56b0 : decide (x9_3 < (x5_1.length : Int)) = true := decide_eq_true c56; clear c56
                           by_cases c57 : 0 ≤ x6_1
                           ·rw [if_pos c57] at H
                            have c57b0 : decide (0 ≤ x6_1) = true := decide_eq_true c57; clear c57
                            by_cases c58 : x6_1 < (l0_0.length : Int)
                            ·rw [if_pos c58] at H
                             have c58b0 : decide (x6_1 < (l0_0.length : Int)) = true := decide_eq_true c58; clear c58; obtain ⟨t328, A590, H⟩ := Option.bind_eq_some_iff.mp H; have A59 := Aside0.mk A590; clear A590; obtain ⟨ji60, hji60⟩ : ∃ j_ : Int, (mx 0 (wrap64 (t328 - x9_3))) = j_ := ⟨_, rfl⟩
                             replace H : (if a1 = true then (rf_Totals.l2 kj41 a1 x5_1 x6_1 y325 x8_2 (wrap64 (x9_3 + 1)) l0_0 l0_1) else (if (rd y325 x8_2) < 0 then (rf_Totals.l2 kj41 a1 x5_1 x6_1 (y325.set (x8_2 : Int).toNat (wrap64 ((rd x5_1 x9_3) + (ji60)))) x8_2 (wrap64 (x9_3 + 1)) l0_0 l0_1) else (if (wrap64 ((rd x5_1 x9_3) + (ji60))) < (rd y325 x8_2) then (rf_Totals.l2 kj41 a1 x5_1 x6_1 (y325.set (x8_2 : Int).toNat (wrap64 ((rd x5_1 x9_3) + (ji60)))) x8_2 (wrap64 (x9_3 + 1)) l0_0 l0_1) else (rf_Totals.l2 kj41 a1 x5_1 x6_1 y325 x8_2 (wrap64 (x9_3 + 1)) l0_0 l0_1)))) = some r := by first | (rw [hji60] at H; exact H) | (simp only [hji60] at H ⊢; exact H)
                             (try rw [hji60] at A59)
                             have hji60_ : (if 0 < (wrap64 (t328 - x9_3)) then (wrap64 (t328 - x9_3)) else 0) = ji60 := hji60
                             by_cases c61 : a1 = true
                             ·subst c61
                              rw [if_pos rfl] at H; have H' := Aside0.mk H; clear H; have p54 : 0 ≤ (x8_2 : Int) := sqD; have q54 : (x8_2 : Int) < ((x7_3.length : Int) : Int) := sqD; obtain ⟨hx54_0, hf54_0⟩ := Kd.R_celln 0 HO_7.out (x8_2 : Int) p54 q54; replace p54 := eq_true p54; replace q54 := eq_true q54; have HP62 := Kd.R_putg HO_7.out (x8_2 : Int) (wrap64 ((wrap64 ((rd x5_1 x9_3) + t323)) - x9_3))
                              try go_wp2_with (first | ((with_reducible refine gate_store (t := 3) (p := 83) rfl ?_); refine store_event (t := 3) (p := 83) (v := ?vo_w63) (w1 := (wc.setCell ⟨go14, (x8_2 : Int).toNat, none⟩ (.int .i64 (wrap64 ((wrap64 ((rd x5_1 x9_3) + t323)) - x9_3))))) ?hg ?ho ?hn ?hr ?_; (case ho => rfl); (case hg => rfl); (case hn => rfl); (case hr => first | (go_simp; done) | (go_simp; rfl)); intro w63 hw; have hg : wc.grownBy w63 (some go14) := (by rw [hw]; exact HP62.2); have hp_ : Kd.R (Kd.int .i64) 3 w63 w.heap.size (fun k_ => some k_ ≠ (.slice (some ad320) x5_1.length co45 : Value).ownBlock) (.slice (some ⟨go14, 0, none⟩) x7_3.length co14) y325 := (by rw [hw, Ny325.out]; exact HP62.1); clear HP62; replace HO_5 := Aside0.mk (Kd.R_after (v := (.slice (some ⟨go14, 0, none⟩) x7_3.length co14)) (v1 := (.slice (some ⟨go14, 0, none⟩) x7_3.length co14)) (ok := (fun _ => True)) (by (with_reducible repeat (first | apply Kd.R_alloc | apply Kd.R_drewN | apply Kd.R_drew)); exact Kd.R_mono HO_5.out (fun _ hk => ⟨trivial, hk⟩)) hg (.inl rfl)); replace BK308 := Aside0.mk (blk_grown (g := gb308) (o := .cells #[.slice (some ad318) l0_0.length c0_0, .slice A0_1 l0_1.length c0_1] 25 (0, 0)) (sqK BK308) hg (Kd.R_ne HO_7.out BK308.out (by decide))); replace HO_7 := Aside0.mk (hp_); replace HB := Aside0.mk (by rw [hw]; exact below_set (HB.out) GB14.out : Below w.heap.size w w63); clear hg hw hp_))
                              have n0_ := Aside0.mk (Kd.R_drew HO_5.out); have n1_ := Aside0.mk (Kd.R_drew HO_7.out); have n2_ := Aside0.mk (blk_drew BK308.out); have n3_ := Aside0.mk (below_drew1 HB.out); clear HO_5 HO_7 BK308 HB; have HO_5 := n0_; have HO_7 := n1_; have BK308 := n2_; have HB := n3_; clear n0_ n1_ n2_ n3_; have p326 : 0 ≤ (x9_3 : Int) := sqD; have q326 : x9_3 < (x5_1.length : Int) := sqD; obtain ⟨ad326, e326, hx326_0⟩ := Kd.at_int (Kd.R_reads' HO_5.out).2.2 x9_3 p326 q326; obtain rfl : ad320 = ad326 := (by injection e326); replace p326 := eq_true p326; replace q326 := eq_true q326; have p327 : 0 ≤ (x6_1 : Int) := sqD; have q327 : x6_1 < (l0_0.length : Int) := sqD; obtain ⟨ad327, e327, hx327_0, hx327_1⟩ := at_T41 HR0_0.out x6_1 p327 q327; have hw327_1 := hx327_1; have hw327_0 := hx327_0; obtain rfl : ad318 = ad327 := (by injection e327); replace hx327_0 := (HB.out.cell (World.block_lt_of_cell? w _ hx327_0)).trans hx327_0; replace hx327_1 := (HB.out.cell (World.block_lt_of_cell? w _ hx327_1)).trans hx327_1; replace p327 := eq_true p327; replace q327 := eq_true q327; refine start_ (n := 16) (S := fun w' => w'.cell? ⟨gb308, 0, none⟩ = some (.slice (some ad318) l0_0.length c0_0) ∧ w'.cell? ⟨gb308, 1, none⟩ = some (.slice A0_1 l0_1.length c0_1) ∧ w'.cell? (ad320.add (x9_3).toNat) = some (.int .i64 (rd x5_1 x9_3)) ∧ w'.cell? (ad318.add ((x6_1).toNat * 2)) = some (.int .i64 ((rd_T41 l0_0 x6_1).f0)) ∧ w'.cell? ⟨(ad318.add ((x6_1).toNat * 2)).block, (ad318.add ((x6_1).toNat * 2)).off + 1, none⟩ = some (.int .i64 ((rd_T41 l0_0 x6_1).f1))) (ds := []) (bm 16 0) sqF rfl rfl ⟨(blk_cell BK308.out 0).trans rfl, (blk_cell BK308.out 1).trans rfl, hx326_0, ((HB.out.cell (World.block_lt_of_cell? w _ hw327_0)).trans hw327_0), ((HB.out.cell (World.block_lt_of_cell? w _ hw327_1)).trans hw327_1)⟩ (fun hHeld => ?_); refine with_tabW rf_Totals.tab20 rf_Totals.bits20 (fun HT_ HW_ => ?_)
                              generalize w63.drew = w64 at HO_5 HO_7 BK308 HB hx326_0 hx327_0 hx327_1 hHeld ⊢
                              refine pure_ (i := 0) (N := some 84) (v := ?_) (a' := ?_) (bm 16 1) rfl rfl (any_of HT_.out sqF) (fun _ _ _ h => h) (Or.inl ⟨by rfl, ?_⟩) ?_ ?_
                              rotate_left
                              ·intro w'
                               go_simp; with_reducible rfl
                              rotate_left
                              ·simp only [Act.put, sqA, i64_w, i32_w]; rfl
                              refine pure_ (i := 1) (N := some 85) (v := ?_) (a' := ?_) (bm 16 3) rfl rfl (any_of HT_.out sqF) (fun _ _ _ h => h) (Or.inl ⟨by rfl, ?_⟩) ?_ ?_
                              rotate_left
                              ·intro w'
                               go_simp; with_reducible rfl
                              rotate_left
                              ·simp only [Act.put, sqA, i64_w, i32_w]; rfl
                              refine pure_ (i := 2) (N := some 86) (v := ?_) (a' := ?_) (bm 16 7) rfl rfl (any_of HT_.out sqF) (fun _ _ _ h => h) (Or.inl ⟨by rfl, ?_⟩) ?_ ?_
                              rotate_left
                              ·intro w'
                               go_simp; with_reducible rfl
                              rotate_left
                              ·simp only [Act.put, sqA, i64_w, i32_w]; rfl
                              refine pure_ (i := 4) (N := some 88) (v := ?_) (a' := ?_) (bm 16 23) rfl rfl (any_of HT_.out sqF) (fun _ _ _ h => h) (Or.inl ⟨by rfl, ?_⟩) ?_ ?_
                              rotate_left
                              ·intro w'
                               go_simp; with_reducible rfl
                              rotate_left
                              ·simp only [Act.put, sqA, i64_w, i32_w]; rfl
                              refine pure_ (i := 6) (N := some 90) (v := ?_) (a' := ?_) (bm 16 87) rfl rfl (any_of HT_.out sqF) (fun _ _ _ h => h) (Or.inl ⟨by rfl, ?_⟩) ?_ ?_
                              rotate_left
                              ·intro w'
                               go_simp; with_reducible rfl
                              rotate_left
                              ·simp only [Act.put, sqA, i64_w, i32_w]; rfl
                              refine pure_ (i := 9) (N := some 93) (v := ?_) (a' := ?_) (bm 16 599) rfl rfl (any_of HT_.out sqF) (fun _ _ _ h => h) (Or.inl ⟨by rfl, ?_⟩) ?_ ?_
                              rotate_left
                              ·intro w'
                               go_simp; with_reducible rfl
                              rotate_left
                              ·simp only [Act.put, sqA, i64_w, i32_w]; rfl
                              refine pure_ (i := 11) (N := some 95) (v := ?_) (a' := ?_) (bm 16 2647) rfl rfl (any_of HT_.out sqF) (fun _ _ _ h => h) (Or.inl ⟨by rfl, ?_⟩) ?_ ?_
                              rotate_left
                              ·intro w'
                               go_simp; with_reducible rfl
                              rotate_left
                              ·simp only [Act.put, sqA, i64_w, i32_w]; rfl
                              refine take_ (i := 3) (N := some 87) (v := ?_) (a' := ?_) (bm 16 2655) rfl rfl (take_ofW HT_.out HW_.out sqF) (fun _ _ _ h => h) (Or.inl ⟨by rfl, ?_⟩) hHeld ?_ ?_
                              rotate_left
                              ·rintro w' ⟨s0, s1, s2, s3, s4⟩
                               go_simp; with_reducible rfl
                              rotate_left
                              ·simp only [Act.put, sqA, i64_w, i32_w]; rfl
                              refine take_ (i := 5) (N := some 89) (v := ?_) (a' := ?_) (bm 16 2687) rfl rfl (take_ofW HT_.out HW_.out sqF) (fun _ _ _ h => h) (Or.inl ⟨by rfl, ?_⟩) hHeld ?_ ?_
                              rotate_left
                              ·rintro w' ⟨s0, s1, s2, s3, s4⟩
                               go_simp; with_reducible rfl
                              rotate_left
                              ·simp only [Act.put, sqA, i64_w, i32_w]; rfl
                              refine pure_ (i := 7) (N := some 91) (v := ?_) (a' := ?_) (bm 16 2815) rfl rfl (any_of HT_.out sqF) (fun _ _ _ h => h) (Or.inl ⟨by rfl, ?_⟩) ?_ ?_
                              rotate_left
                              ·intro w'
                               go_simp; with_reducible rfl
                              rotate_left
                              ·simp only [Act.put, sqA, i64_w, i32_w]; rfl
                              refine take_ (i := 8) (N := some 92) (v := ?_) (a' := ?_) (bm 16 3071) rfl rfl (take_ofW HT_.out HW_.out sqF) (fun _ _ _ h => h) (Or.inl ⟨by rfl, ?_⟩) hHeld ?_ ?_
                              rotate_left
                              ·rintro w' ⟨s0, s1, s2, s3, s4⟩
                               go_simp; with_reducible rfl
                              rotate_left
                              ·simp only [Act.put, sqA, i64_w, i32_w]; rfl
                              refine one_ (i := 10) (N := some 94) (bm 16 4095) rfl rfl (one_of HT_.out sqF) (by decide) (fun K hK => ?_); refine goes_ Tryd.func74 sqF rfl #[.agg #[.int .i64 ((rd_T41 l0_0 x6_1).f0), .int .i64 ((rd_T41 l0_0 x6_1).f1)], .int .i64 x8_2] (by rfl) rfl rfl sqM ?_
                              with_reducible refine (rf_Least.calls ((rd_T41 l0_0 x6_1).f0) ((rd_T41 l0_0 x6_1).f1) x8_2 t328 _ A59.out).mono ?_
                              rintro e w65 ⟨rfl, hb⟩; have HS2_ := (hb.cell (World.block_lt_of_cell? _ _ (hHeld.2.2.1))).trans (hHeld.2.2.1); refine ⟨_, rfl, ?_⟩; have n0_ := Aside0.mk (Kd.R_below (sqR HO_5) hb); have n1_ := Aside0.mk (Kd.R_below (sqR HO_7) hb); have n2_ := Aside0.mk (blk_below (g := gb308) (o := .cells #[.slice (some ad318) l0_0.length c0_0, .slice A0_1 l0_1.length c0_1] 25 (0, 0)) (sqK BK308) hb); have n3_ := Aside0.mk (below_step (sqB HB) hb); clear HO_5 HO_7 BK308 HB; have HO_5 := n0_; have HO_7 := n1_; have BK308 := n2_; have HB := n3_; clear n0_ n1_ n2_ n3_; (try clear hb); (try clear hb2); (try clear hk); (try clear hi); refine hK.out _ _ ⟨(blk_cell BK308.out 0).trans rfl, (blk_cell BK308.out 1).trans rfl, HS2_, ((HB.out.cell (World.block_lt_of_cell? w _ hw327_0)).trans hw327_0), ((HB.out.cell (World.block_lt_of_cell? w _ hw327_1)).trans hw327_1)⟩ (fun hHeld => ?_); clear hK K; refine norm_ (a' := ?_) ?_ ?_
                              rotate_left
                              ·show Act.put _ (some 94) _ = _
                               simp only [Act.put, sqA, i64_w, i32_w]; rfl
                              refine pure_ (i := 12) (N := some 96) (v := ?_) (a' := ?_) (bm 16 8191) rfl rfl (any_of HT_.out sqF) (fun _ _ _ h => h) (Or.inl ⟨by rfl, ?_⟩) ?_ ?_
                              rotate_left
                              ·intro w'
                               go_simp; with_reducible rfl
                              rotate_left
                              ·simp only [Act.put, sqA, i64_w, i32_w]; rfl
                              refine pure_ (i := 13) (N := some 97) (v := ?_) (a' := ?_) (bm 16 16383) rfl rfl (any_of HT_.out sqF) (fun _ _ _ h => h) (Or.inl ⟨by rfl, ?_⟩) ?_ ?_
                              rotate_left
                              ·intro w'
                               go_simp; with_reducible rfl
                              rotate_left
                              ·simp only [Act.put, sqA, i64_w, i32_w]; rfl
                              refine pure_ (i := 14) (N := some 98) (v := ?_) (a' := ?_) (bm 16 32767) rfl rfl (any_of HT_.out sqF) (fun _ _ _ h => h) (Or.inl ⟨by rfl, ?_⟩) ?_ ?_
                              rotate_left
                              ·intro w'
                               go_simp; with_reducible rfl
                              rotate_left
                              ·simp only [Act.put, sqA, i64_w, i32_w]; rfl
                              refine pure_ (i := 15) (N := some 11) (v := ?_) (a' := ?_) (bm 16 65535) rfl rfl (any_of HT_.out sqF) (fun _ _ _ h => h) (Or.inl ⟨by rfl, ?_⟩) ?_ ?_
                              rotate_left
                              ·intro w'
                               go_simp; with_reducible rfl
                              rotate_left
                              ·simp only [Act.put, sqA, i64_w, i32_w]; rfl
                              refine done_ (done_of HT_.out sqF) ?_
                              try go_wp2
                              (try simp only [← hl7_3])
                              go_roundg kj41
                              case measure => have := HK1.out; have := HK2.out; have := HK3.out; have := HJ41.out; omega
                              case rel => exact ⟨(y325), (wrap64 (x9_3 + 1)), sqE, H', ⟨by have := HK1.out; have := HK2.out; have := HK3.out; have := HJ41.out; omega⟩, ⟨by (try simp only [hl7_3]); (with_reducible repeat (first | apply Kd.R_alloc | apply Kd.R_drewN | apply Kd.R_drew)); exact Kd.R_mono HO_5.out (fun _ hk => hk.2)⟩, ⟨by (try simp only [hl7_3]); (with_reducible repeat (first | apply Kd.R_alloc | apply Kd.R_drewN | apply Kd.R_drew)); exact HO_7.out⟩, ⟨by (try simp only [hl7_3]); (with_reducible repeat (first | refine blk_drewN ?_ _ | refine blk_drew ?_ | refine blk_alloc ?_ _)); exact BK308.out⟩, ⟨sqB HB⟩⟩
                             ·replace c61 := Bool.eq_false_iff.mpr c61
                              subst c61; rw [if_neg Bool.false_ne_true] at H
                              by_cases c66 : (rd y325 x8_2) < 0
                              ·rw [if_pos c66] at H
                               have c66b0 : decide ((rd y325 x8_2) < 0) = true := decide_eq_true c66; clear c66; replace H : ∃ y_ : List Int, y_ = (y325.set (x8_2 : Int).toNat (wrap64 ((rd x5_1 x9_3) + (ji60)))) ∧ (rf_Totals.l2 kj41 false x5_1 x6_1 y_ x8_2 (wrap64 (x9_3 + 1)) l0_0 l0_1) = some r := ⟨_, rfl, sqJ H⟩; obtain ⟨y330, hy330, H⟩ := H; have Ny330 := Aside0.mk hy330; clear hy330; have H' := Aside0.mk H; clear H; have p54 : 0 ≤ (x8_2 : Int) := sqD; have q54 : (x8_2 : Int) < ((x7_3.length : Int) : Int) := sqD; obtain ⟨hx54_0, hf54_0⟩ := Kd.R_celln 0 HO_7.out (x8_2 : Int) p54 q54; replace p54 := eq_true p54; replace q54 := eq_true q54; have HP68 := Kd.R_putg HO_7.out (x8_2 : Int) (wrap64 ((wrap64 ((rd x5_1 x9_3) + t323)) - x9_3))
                               try go_wp2_with (first | ((with_reducible refine gate_store (t := 3) (p := 83) rfl ?_); refine store_event (t := 3) (p := 83) (v := ?vo_w69) (w1 := (wc.setCell ⟨go14, (x8_2 : Int).toNat, none⟩ (.int .i64 (wrap64 ((wrap64 ((rd x5_1 x9_3) + t323)) - x9_3))))) ?hg ?ho ?hn ?hr ?_; (case ho => rfl); (case hg => rfl); (case hn => rfl); (case hr => first | (go_simp; done) | (go_simp; rfl)); intro w69 hw; have hg : wc.grownBy w69 (some go14) := (by rw [hw]; exact HP68.2); have hp_ : Kd.R (Kd.int .i64) 3 w69 w.heap.size (fun k_ => some k_ ≠ (.slice (some ad320) x5_1.length co45 : Value).ownBlock) (.slice (some ⟨go14, 0, none⟩) x7_3.length co14) y325 := (by rw [hw, Ny325.out]; exact HP68.1); clear HP68; replace HO_5 := Aside0.mk (Kd.R_after (v := (.slice (some ⟨go14, 0, none⟩) x7_3.length co14)) (v1 := (.slice (some ⟨go14, 0, none⟩) x7_3.length co14)) (ok := (fun _ => True)) (by (with_reducible repeat (first | apply Kd.R_alloc | apply Kd.R_drewN | apply Kd.R_drew)); exact Kd.R_mono HO_5.out (fun _ hk => ⟨trivial, hk⟩)) hg (.inl rfl)); replace BK308 := Aside0.mk (blk_grown (g := gb308) (o := .cells #[.slice (some ad318) l0_0.length c0_0, .slice A0_1 l0_1.length c0_1] 25 (0, 0)) (sqK BK308) hg (Kd.R_ne HO_7.out BK308.out (by decide))); replace HO_7 := Aside0.mk (hp_); replace HB := Aside0.mk (by rw [hw]; exact below_set (HB.out) GB14.out : Below w.heap.size w w69); clear hg hw hp_))
                               have n0_ := Aside0.mk (Kd.R_drew HO_5.out); have n1_ := Aside0.mk (Kd.R_drew HO_7.out); have n2_ := Aside0.mk (blk_drew BK308.out); have n3_ := Aside0.mk (below_drew1 HB.out); clear HO_5 HO_7 BK308 HB; have HO_5 := n0_; have HO_7 := n1_; have BK308 := n2_; have HB := n3_; clear n0_ n1_ n2_ n3_; have p326 : 0 ≤ (x9_3 : Int) := sqD; have q326 : x9_3 < (x5_1.length : Int) := sqD; obtain ⟨ad326, e326, hx326_0⟩ := Kd.at_int (Kd.R_reads' HO_5.out).2.2 x9_3 p326 q326; obtain rfl : ad320 = ad326 := (by injection e326); replace p326 := eq_true p326; replace q326 := eq_true q326; have p327 : 0 ≤ (x6_1 : Int) := sqD; have q327 : x6_1 < (l0_0.length : Int) := sqD; obtain ⟨ad327, e327, hx327_0, hx327_1⟩ := at_T41 HR0_0.out x6_1 p327 q327; have hw327_1 := hx327_1; have hw327_0 := hx327_0; obtain rfl : ad318 = ad327 := (by injection e327); replace hx327_0 := (HB.out.cell (World.block_lt_of_cell? w _ hx327_0)).trans hx327_0; replace hx327_1 := (HB.out.cell (World.block_lt_of_cell? w _ hx327_1)).trans hx327_1; replace p327 := eq_true p327; replace q327 := eq_true q327; refine start_ (n := 16) (S := fun w' => w'.cell? ⟨gb308, 0, none⟩ = some (.slice (some ad318) l0_0.length c0_0) ∧ w'.cell? ⟨gb308, 1, none⟩ = some (.slice A0_1 l0_1.length c0_1) ∧ w'.cell? (ad320.add (x9_3).toNat) = some (.int .i64 (rd x5_1 x9_3)) ∧ w'.cell? (ad318.add ((x6_1).toNat * 2)) = some (.int .i64 ((rd_T41 l0_0 x6_1).f0)) ∧ w'.cell? ⟨(ad318.add ((x6_1).toNat * 2)).block, (ad318.add ((x6_1).toNat * 2)).off + 1, none⟩ = some (.int .i64 ((rd_T41 l0_0 x6_1).f1))) (ds := []) (bm 16 0) sqF rfl rfl ⟨(blk_cell BK308.out 0).trans rfl, (blk_cell BK308.out 1).trans rfl, hx326_0, ((HB.out.cell (World.block_lt_of_cell? w _ hw327_0)).trans hw327_0), ((HB.out.cell (World.block_lt_of_cell? w _ hw327_1)).trans hw327_1)⟩ (fun hHeld => ?_); refine with_tabW rf_Totals.tab20 rf_Totals.bits20 (fun HT_ HW_ => ?_)
                               generalize w69.drew = w70 at HO_5 HO_7 BK308 HB hx326_0 hx327_0 hx327_1 hHeld ⊢
                               refine pure_ (i := 0) (N := some 84) (v := ?_) (a' := ?_) (bm 16 1) rfl rfl (any_of HT_.out sqF) (fun _ _ _ h => h) (Or.inl ⟨by rfl, ?_⟩) ?_ ?_
                               rotate_left
                               ·intro w'
                                go_simp; with_reducible rfl
                               rotate_left
                               ·simp only [Act.put, sqA, i64_w, i32_w]; rfl
                               refine pure_ (i := 1) (N := some 85) (v := ?_) (a' := ?_) (bm 16 3) rfl rfl (any_of HT_.out sqF) (fun _ _ _ h => h) (Or.inl ⟨by rfl, ?_⟩) ?_ ?_
                               rotate_left
                               ·intro w'
                                go_simp; with_reducible rfl
                               rotate_left
                               ·simp only [Act.put, sqA, i64_w, i32_w]; rfl
                               refine pure_ (i := 2) (N := some 86) (v := ?_) (a' := ?_) (bm 16 7) rfl rfl (any_of HT_.out sqF) (fun _ _ _ h => h) (Or.inl ⟨by rfl, ?_⟩) ?_ ?_
                               rotate_left
                               ·intro w'
                                go_simp; with_reducible rfl
                               rotate_left
                               ·simp only [Act.put, sqA, i64_w, i32_w]; rfl
                               refine pure_ (i := 4) (N := some 88) (v := ?_) (a' := ?_) (bm 16 23) rfl rfl (any_of HT_.out sqF) (fun _ _ _ h => h) (Or.inl ⟨by rfl, ?_⟩) ?_ ?_
                               rotate_left
                               ·intro w'
                                go_simp; with_reducible rfl
                               rotate_left
                               ·simp only [Act.put, sqA, i64_w, i32_w]; rfl
                               refine pure_ (i := 6) (N := some 90) (v := ?_) (a' := ?_) (bm 16 87) rfl rfl (any_of HT_.out sqF) (fun _ _ _ h => h) (Or.inl ⟨by rfl, ?_⟩) ?_ ?_
                               rotate_left
                               ·intro w'
                                go_simp; with_reducible rfl
                               rotate_left
                               ·simp only [Act.put, sqA, i64_w, i32_w]; rfl
                               refine pure_ (i := 9) (N := some 93) (v := ?_) (a' := ?_) (bm 16 599) rfl rfl (any_of HT_.out sqF) (fun _ _ _ h => h) (Or.inl ⟨by rfl, ?_⟩) ?_ ?_
                               rotate_left
                               ·intro w'
                                go_simp; with_reducible rfl
                               rotate_left
                               ·simp only [Act.put, sqA, i64_w, i32_w]; rfl
                               refine pure_ (i := 11) (N := some 95) (v := ?_) (a' := ?_) (bm 16 2647) rfl rfl (any_of HT_.out sqF) (fun _ _ _ h => h) (Or.inl ⟨by rfl, ?_⟩) ?_ ?_
                               rotate_left
                               ·intro w'
                                go_simp; with_reducible rfl
                               rotate_left
                               ·simp only [Act.put, sqA, i64_w, i32_w]; rfl
                               refine take_ (i := 3) (N := some 87) (v := ?_) (a' := ?_) (bm 16 2655) rfl rfl (take_ofW HT_.out HW_.out sqF) (fun _ _ _ h => h) (Or.inl ⟨by rfl, ?_⟩) hHeld ?_ ?_
                               rotate_left
                               ·rintro w' ⟨s0, s1, s2, s3, s4⟩
                                go_simp; with_reducible rfl
                               rotate_left
                               ·simp only [Act.put, sqA, i64_w, i32_w]; rfl
                               refine take_ (i := 5) (N := some 89) (v := ?_) (a' := ?_) (bm 16 2687) rfl rfl (take_ofW HT_.out HW_.out sqF) (fun _ _ _ h => h) (Or.inl ⟨by rfl, ?_⟩) hHeld ?_ ?_
                               rotate_left
                               ·rintro w' ⟨s0, s1, s2, s3, s4⟩
                                go_simp; with_reducible rfl
                               rotate_left
                               ·simp only [Act.put, sqA, i64_w, i32_w]; rfl
                               refine pure_ (i := 7) (N := some 91) (v := ?_) (a' := ?_) (bm 16 2815) rfl rfl (any_of HT_.out sqF) (fun _ _ _ h => h) (Or.inl ⟨by rfl, ?_⟩) ?_ ?_
                               rotate_left
                               ·intro w'
                                go_simp; with_reducible rfl
                               rotate_left
                               ·simp only [Act.put, sqA, i64_w, i32_w]; rfl
                               refine take_ (i := 8) (N := some 92) (v := ?_) (a' := ?_) (bm 16 3071) rfl rfl (take_ofW HT_.out HW_.out sqF) (fun _ _ _ h => h) (Or.inl ⟨by rfl, ?_⟩) hHeld ?_ ?_
                               rotate_left
                               ·rintro w' ⟨s0, s1, s2, s3, s4⟩
                                go_simp; with_reducible rfl
                               rotate_left
                               ·simp only [Act.put, sqA, i64_w, i32_w]; rfl
                               refine one_ (i := 10) (N := some 94) (bm 16 4095) rfl rfl (one_of HT_.out sqF) (by decide) (fun K hK => ?_); refine goes_ Tryd.func74 sqF rfl #[.agg #[.int .i64 ((rd_T41 l0_0 x6_1).f0), .int .i64 ((rd_T41 l0_0 x6_1).f1)], .int .i64 x8_2] (by rfl) rfl rfl sqM ?_
                               with_reducible refine (rf_Least.calls ((rd_T41 l0_0 x6_1).f0) ((rd_T41 l0_0 x6_1).f1) x8_2 t328 _ A59.out).mono ?_
                               rintro e w71 ⟨rfl, hb⟩; have HS2_ := (hb.cell (World.block_lt_of_cell? _ _ (hHeld.2.2.1))).trans (hHeld.2.2.1); refine ⟨_, rfl, ?_⟩; have n0_ := Aside0.mk (Kd.R_below (sqR HO_5) hb); have n1_ := Aside0.mk (Kd.R_below (sqR HO_7) hb); have n2_ := Aside0.mk (blk_below (g := gb308) (o := .cells #[.slice (some ad318) l0_0.length c0_0, .slice A0_1 l0_1.length c0_1] 25 (0, 0)) (sqK BK308) hb); have n3_ := Aside0.mk (below_step (sqB HB) hb); clear HO_5 HO_7 BK308 HB; have HO_5 := n0_; have HO_7 := n1_; have BK308 := n2_; have HB := n3_; clear n0_ n1_ n2_ n3_; (try clear hb); (try clear hb2); (try clear hk); (try clear hi); refine hK.out _ _ ⟨(blk_cell BK308.out 0).trans rfl, (blk_cell BK308.out 1).trans rfl, HS2_, ((HB.out.cell (World.block_lt_of_cell? w _ hw327_0)).trans hw327_0), ((HB.out.cell (World.block_lt_of_cell? w _ hw327_1)).trans hw327_1)⟩ (fun hHeld => ?_); clear hK K; refine norm_ (a' := ?_) ?_ ?_
                               rotate_left
                               ·show Act.put _ (some 94) _ = _
                                simp only [Act.put, sqA, i64_w, i32_w]; rfl
                               refine pure_ (i := 12) (N := some 96) (v := ?_) (a' := ?_) (bm 16 8191) rfl rfl (any_of HT_.out sqF) (fun _ _ _ h => h) (Or.inl ⟨by rfl, ?_⟩) ?_ ?_
                               rotate_left
                               ·intro w'
                                go_simp; with_reducible rfl
                               rotate_left
                               ·simp only [Act.put, sqA, i64_w, i32_w]; rfl
                               refine pure_ (i := 13) (N := some 97) (v := ?_) (a' := ?_) (bm 16 16383) rfl rfl (any_of HT_.out sqF) (fun _ _ _ h => h) (Or.inl ⟨by rfl, ?_⟩) ?_ ?_
                               rotate_left
                               ·intro w'
                                go_simp; with_reducible rfl
                               rotate_left
                               ·simp only [Act.put, sqA, i64_w, i32_w]; rfl
                               refine pure_ (i := 14) (N := some 98) (v := ?_) (a' := ?_) (bm 16 32767) rfl rfl (any_of HT_.out sqF) (fun _ _ _ h => h) (Or.inl ⟨by rfl, ?_⟩) ?_ ?_
                               rotate_left
                               ·intro w'
                                go_simp; with_reducible rfl
                               rotate_left
                               ·simp only [Act.put, sqA, i64_w, i32_w]; rfl
                               refine pure_ (i := 15) (N := some 11) (v := ?_) (a' := ?_) (bm 16 65535) rfl rfl (any_of HT_.out sqF) (fun _ _ _ h => h) (Or.inl ⟨by rfl, ?_⟩) ?_ ?_
                               rotate_left
                               ·intro w'
                                go_simp; with_reducible rfl
                               rotate_left
                               ·simp only [Act.put, sqA, i64_w, i32_w]; rfl
                               refine done_ (done_of HT_.out sqF) ?_; have p329 : 0 ≤ (x8_2 : Int) := sqD; have q329 : x8_2 < (y325.length : Int) := (by have h_ : (x8_2 : Int) < ((x7_3.length : Int) : Int) := sqD; first | (have e_ := (Kd.R_reads' HO_7.out).1; omega) | simpa only [Ny325.out, List.length_set] using h_); have ql329 : ((x8_2 : Int) < ((x7_3.length : Int) : Int)) = True := eq_true (sqD); obtain ⟨ad329, e329, hx329_0⟩ := Kd.at_int (Kd.R_reads' HO_7.out).2.2 x8_2 p329 q329; obtain rfl : (⟨go14, 0, none⟩ : Addr) = ad329 := (by injection e329)
                               (first | simp only [add_plain] at hx329_0 | simp only [add_at] at hx329_0 | simp only [Addr.add, Nat.zero_add] at hx329_0 | skip)
                               replace p329 := eq_true p329; replace q329 := eq_true q329; have p67 : 0 ≤ (x8_2 : Int) := sqD; have q67 : (x8_2 : Int) < ((x7_3.length : Int) : Int) := sqD; obtain ⟨hx67_0, hf67_0⟩ := Kd.R_celln 0 HO_7.out (x8_2 : Int) p67 q67; replace p67 := eq_true p67; replace q67 := eq_true q67; obtain ⟨hy72_, hz72_⟩ := Kd.R_celln 0 HO_7.out (x8_2 : Int) (sqD) (sqD); have HP72 := Kd.R_putg HO_7.out (x8_2 : Int) (wrap64 ((rd x5_1 x9_3) + (ji60)))
                               try go_wp2_with (first | ((with_reducible refine gate_store (t := 3) (p := 119) rfl ?_); refine store_event (t := 3) (p := 119) (v := ?vo_w73) (w1 := (w71.setCell ⟨go14, (x8_2 : Int).toNat, none⟩ (.int .i64 (wrap64 ((rd x5_1 x9_3) + (ji60)))))) ?hg ?ho ?hn ?hr ?_; (case ho => rfl); (case hg => rfl); (case hn => rfl); (case hr => first | (go_simp; done) | (go_simp; rfl)); intro w73 hw; have hg : w71.grownBy w73 (some go14) := (by rw [hw]; exact HP72.2); have hp_ : Kd.R (Kd.int .i64) 3 w73 w.heap.size (fun k_ => some k_ ≠ (.slice (some ad320) x5_1.length co45 : Value).ownBlock) (.slice (some ⟨go14, 0, none⟩) x7_3.length co14) y330 := (by rw [hw, Ny330.out]; exact HP72.1); clear HP72; replace HO_5 := Aside0.mk (Kd.R_after (v := (.slice (some ⟨go14, 0, none⟩) x7_3.length co14)) (v1 := (.slice (some ⟨go14, 0, none⟩) x7_3.length co14)) (ok := (fun _ => True)) (sqR HO_5) hg (.inl rfl)); replace BK308 := Aside0.mk (blk_grown (g := gb308) (o := .cells #[.slice (some ad318) l0_0.length c0_0, .slice A0_1 l0_1.length c0_1] 25 (0, 0)) (sqK BK308) hg (Kd.R_ne HO_7.out BK308.out (by decide))); replace HO_7 := Aside0.mk (hp_); replace HB := Aside0.mk (by rw [hw]; exact below_set (HB.out) GB14.out : Below w.heap.size w w73); clear hg hw hp_))
                               (try simp only [← hl7_3])
                               go_roundg kj41
                               case measure => have := HK1.out; have := HK2.out; have := HK3.out; have := HJ41.out; omega
                               case rel => exact ⟨(y330), (wrap64 (x9_3 + 1)), sqE, H', ⟨by have := HK1.out; have := HK2.out; have := HK3.out; have := HJ41.out; omega⟩, ⟨by (try simp only [hl7_3]); (with_reducible repeat (first | apply Kd.R_alloc | apply Kd.R_drewN | apply Kd.R_drew)); exact Kd.R_mono HO_5.out (fun _ hk => hk.2)⟩, ⟨by (try simp only [hl7_3]); (with_reducible repeat (first | apply Kd.R_alloc | apply Kd.R_drewN | apply Kd.R_drew)); exact HO_7.out⟩, ⟨by (try simp only [hl7_3]); (with_reducible repeat (first | refine blk_drewN ?_ _ | refine blk_drew ?_ | refine blk_alloc ?_ _)); exact BK308.out⟩, ⟨sqB HB⟩⟩
                              ·rw [if_neg c66] at H
                               have c66b0 : decide ((rd y325 x8_2) < 0) = false := decide_eq_false c66; clear c66
                               by_cases c74 : (wrap64 ((rd x5_1 x9_3) + (ji60))) < (rd y325 x8_2)
                               ·rw [if_pos c74] at H
                                have c74b0 : decide ((wrap64 ((rd x5_1 x9_3) + (ji60))) < (rd y325 x8_2)) = true := decide_eq_true c74; clear c74; replace H : ∃ y_ : List Int, y_ = (y325.set (x8_2 : Int).toNat (wrap64 ((rd x5_1 x9_3) + (ji60)))) ∧ (rf_Totals.l2 kj41 false x5_1 x6_1 y_ x8_2 (wrap64 (x9_3 + 1)) l0_0 l0_1) = some r := ⟨_, rfl, sqJ H⟩; obtain ⟨y332, hy332, H⟩ := H; have Ny332 := Aside0.mk hy332; clear hy332; have H' := Aside0.mk H; clear H; have p54 : 0 ≤ (x8_2 : Int) := sqD; have q54 : (x8_2 : Int) < ((x7_3.length : Int) : Int) := sqD; obtain ⟨hx54_0, hf54_0⟩ := Kd.R_celln 0 HO_7.out (x8_2 : Int) p54 q54; replace p54 := eq_true p54; replace q54 := eq_true q54; have HP76 := Kd.R_putg HO_7.out (x8_2 : Int) (wrap64 ((wrap64 ((rd x5_1 x9_3) + t323)) - x9_3))
                                try go_wp2_with (first | ((with_reducible refine gate_store (t := 3) (p := 83) rfl ?_); refine store_event (t := 3) (p := 83) (v := ?vo_w77) (w1 := (wc.setCell ⟨go14, (x8_2 : Int).toNat, none⟩ (.int .i64 (wrap64 ((wrap64 ((rd x5_1 x9_3) + t323)) - x9_3))))) ?hg ?ho ?hn ?hr ?_; (case ho => rfl); (case hg => rfl); (case hn => rfl); (case hr => first | (go_simp; done) | (go_simp; rfl)); intro w77 hw; have hg : wc.grownBy w77 (some go14) := (by rw [hw]; exact HP76.2); have hp_ : Kd.R (Kd.int .i64) 3 w77 w.heap.size (fun k_ => some k_ ≠ (.slice (some ad320) x5_1.length co45 : Value).ownBlock) (.slice (some ⟨go14, 0, none⟩) x7_3.length co14) y325 := (by rw [hw, Ny325.out]; exact HP76.1); clear HP76; replace HO_5 := Aside0.mk (Kd.R_after (v := (.slice (some ⟨go14, 0, none⟩) x7_3.length co14)) (v1 := (.slice (some ⟨go14, 0, none⟩) x7_3.length co14)) (ok := (fun _ => True)) (by (with_reducible repeat (first | apply Kd.R_alloc | apply Kd.R_drewN | apply Kd.R_drew)); exact Kd.R_mono HO_5.out (fun _ hk => ⟨trivial, hk⟩)) hg (.inl rfl)); replace BK308 := Aside0.mk (blk_grown (g := gb308) (o := .cells #[.slice (some ad318) l0_0.length c0_0, .slice A0_1 l0_1.length c0_1] 25 (0, 0)) (sqK BK308) hg (Kd.R_ne HO_7.out BK308.out (by decide))); replace HO_7 := Aside0.mk (hp_); replace HB := Aside0.mk (by rw [hw]; exact below_set (HB.out) GB14.out : Below w.heap.size w w77); clear hg hw hp_))
                                have n0_ := Aside0.mk (Kd.R_drew HO_5.out); have n1_ := Aside0.mk (Kd.R_drew HO_7.out); have n2_ := Aside0.mk (blk_drew BK308.out); have n3_ := Aside0.mk (below_drew1 HB.out); clear HO_5 HO_7 BK308 HB; have HO_5 := n0_; have HO_7 := n1_; have BK308 := n2_; have HB := n3_; clear n0_ n1_ n2_ n3_; have p326 : 0 ≤ (x9_3 : Int) := sqD; have q326 : x9_3 < (x5_1.length : Int) := sqD; obtain ⟨ad326, e326, hx326_0⟩ := Kd.at_int (Kd.R_reads' HO_5.out).2.2 x9_3 p326 q326; obtain rfl : ad320 = ad326 := (by injection e326); replace p326 := eq_true p326; replace q326 := eq_true q326; have p327 : 0 ≤ (x6_1 : Int) := sqD; have q327 : x6_1 < (l0_0.length : Int) := sqD; obtain ⟨ad327, e327, hx327_0, hx327_1⟩ := at_T41 HR0_0.out x6_1 p327 q327; have hw327_1 := hx327_1; have hw327_0 := hx327_0; obtain rfl : ad318 = ad327 := (by injection e327); replace hx327_0 := (HB.out.cell (World.block_lt_of_cell? w _ hx327_0)).trans hx327_0; replace hx327_1 := (HB.out.cell (World.block_lt_of_cell? w _ hx327_1)).trans hx327_1; replace p327 := eq_true p327; replace q327 := eq_true q327; refine start_ (n := 16) (S := fun w' => w'.cell? ⟨gb308, 0, none⟩ = some (.slice (some ad318) l0_0.length c0_0) ∧ w'.cell? ⟨gb308, 1, none⟩ = some (.slice A0_1 l0_1.length c0_1) ∧ w'.cell? (ad320.add (x9_3).toNat) = some (.int .i64 (rd x5_1 x9_3)) ∧ w'.cell? (ad318.add ((x6_1).toNat * 2)) = some (.int .i64 ((rd_T41 l0_0 x6_1).f0)) ∧ w'.cell? ⟨(ad318.add ((x6_1).toNat * 2)).block, (ad318.add ((x6_1).toNat * 2)).off + 1, none⟩ = some (.int .i64 ((rd_T41 l0_0 x6_1).f1))) (ds := []) (bm 16 0) sqF rfl rfl ⟨(blk_cell BK308.out 0).trans rfl, (blk_cell BK308.out 1).trans rfl, hx326_0, ((HB.out.cell (World.block_lt_of_cell? w _ hw327_0)).trans hw327_0), ((HB.out.cell (World.block_lt_of_cell? w _ hw327_1)).trans hw327_1)⟩ (fun hHeld => ?_); refine with_tabW rf_Totals.tab20 rf_Totals.bits20 (fun HT_ HW_ => ?_)
                                generalize w77.drew = w78 at HO_5 HO_7 BK308 HB hx326_0 hx327_0 hx327_1 hHeld ⊢
                                refine pure_ (i := 0) (N := some 84) (v := ?_) (a' := ?_) (bm 16 1) rfl rfl (any_of HT_.out sqF) (fun _ _ _ h => h) (Or.inl ⟨by rfl, ?_⟩) ?_ ?_
                                rotate_left
                                ·intro w'
                                 go_simp; with_reducible rfl
                                rotate_left
                                ·simp only [Act.put, sqA, i64_w, i32_w]; rfl
                                refine pure_ (i := 1) (N := some 85) (v := ?_) (a' := ?_) (bm 16 3) rfl rfl (any_of HT_.out sqF) (fun _ _ _ h => h) (Or.inl ⟨by rfl, ?_⟩) ?_ ?_
                                rotate_left
                                ·intro w'
                                 go_simp; with_reducible rfl
                                rotate_left
                                ·simp only [Act.put, sqA, i64_w, i32_w]; rfl
                                refine pure_ (i := 2) (N := some 86) (v := ?_) (a' := ?_) (bm 16 7) rfl rfl (any_of HT_.out sqF) (fun _ _ _ h => h) (Or.inl ⟨by rfl, ?_⟩) ?_ ?_
                                rotate_left
                                ·intro w'
                                 go_simp; with_reducible rfl
                                rotate_left
                                ·simp only [Act.put, sqA, i64_w, i32_w]; rfl
                                refine pure_ (i := 4) (N := some 88) (v := ?_) (a' := ?_) (bm 16 23) rfl rfl (any_of HT_.out sqF) (fun _ _ _ h => h) (Or.inl ⟨by rfl, ?_⟩) ?_ ?_
                                rotate_left
                                ·intro w'
                                 go_simp; with_reducible rfl
                                rotate_left
                                ·simp only [Act.put, sqA, i64_w, i32_w]; rfl
                                refine pure_ (i := 6) (N := some 90) (v := ?_) (a' := ?_) (bm 16 87) rfl rfl (any_of HT_.out sqF) (fun _ _ _ h => h) (Or.inl ⟨by rfl, ?_⟩) ?_ ?_
                                rotate_left
                                ·intro w'
                                 go_simp; with_reducible rfl
                                rotate_left
                                ·simp only [Act.put, sqA, i64_w, i32_w]; rfl
                                refine pure_ (i := 9) (N := some 93) (v := ?_) (a' := ?_) (bm 16 599) rfl rfl (any_of HT_.out sqF) (fun _ _ _ h => h) (Or.inl ⟨by rfl, ?_⟩) ?_ ?_
                                rotate_left
                                ·intro w'
                                 go_simp; with_reducible rfl
                                rotate_left
                                ·simp only [Act.put, sqA, i64_w, i32_w]; rfl
                                refine pure_ (i := 11) (N := some 95) (v := ?_) (a' := ?_) (bm 16 2647) rfl rfl (any_of HT_.out sqF) (fun _ _ _ h => h) (Or.inl ⟨by rfl, ?_⟩) ?_ ?_
                                rotate_left
                                ·intro w'
                                 go_simp; with_reducible rfl
                                rotate_left
                                ·simp only [Act.put, sqA, i64_w, i32_w]; rfl
                                refine take_ (i := 3) (N := some 87) (v := ?_) (a' := ?_) (bm 16 2655) rfl rfl (take_ofW HT_.out HW_.out sqF) (fun _ _ _ h => h) (Or.inl ⟨by rfl, ?_⟩) hHeld ?_ ?_
                                rotate_left
                                ·rintro w' ⟨s0, s1, s2, s3, s4⟩
                                 go_simp; with_reducible rfl
                                rotate_left
                                ·simp only [Act.put, sqA, i64_w, i32_w]; rfl
                                refine take_ (i := 5) (N := some 89) (v := ?_) (a' := ?_) (bm 16 2687) rfl rfl (take_ofW HT_.out HW_.out sqF) (fun _ _ _ h => h) (Or.inl ⟨by rfl, ?_⟩) hHeld ?_ ?_
                                rotate_left
                                ·rintro w' ⟨s0, s1, s2, s3, s4⟩
                                 go_simp; with_reducible rfl
                                rotate_left
                                ·simp only [Act.put, sqA, i64_w, i32_w]; rfl
                                refine pure_ (i := 7) (N := some 91) (v := ?_) (a' := ?_) (bm 16 2815) rfl rfl (any_of HT_.out sqF) (fun _ _ _ h => h) (Or.inl ⟨by rfl, ?_⟩) ?_ ?_
                                rotate_left
                                ·intro w'
                                 go_simp; with_reducible rfl
                                rotate_left
                                ·simp only [Act.put, sqA, i64_w, i32_w]; rfl
                                refine take_ (i := 8) (N := some 92) (v := ?_) (a' := ?_) (bm 16 3071) rfl rfl (take_ofW HT_.out HW_.out sqF) (fun _ _ _ h => h) (Or.inl ⟨by rfl, ?_⟩) hHeld ?_ ?_
                                rotate_left
                                ·rintro w' ⟨s0, s1, s2, s3, s4⟩
                                 go_simp; with_reducible rfl
                                rotate_left
                                ·simp only [Act.put, sqA, i64_w, i32_w]; rfl
                                refine one_ (i := 10) (N := some 94) (bm 16 4095) rfl rfl (one_of HT_.out sqF) (by decide) (fun K hK => ?_); refine goes_ Tryd.func74 sqF rfl #[.agg #[.int .i64 ((rd_T41 l0_0 x6_1).f0), .int .i64 ((rd_T41 l0_0 x6_1).f1)], .int .i64 x8_2] (by rfl) rfl rfl sqM ?_
                                with_reducible refine (rf_Least.calls ((rd_T41 l0_0 x6_1).f0) ((rd_T41 l0_0 x6_1).f1) x8_2 t328 _ A59.out).mono ?_
                                rintro e w79 ⟨rfl, hb⟩; have HS2_ := (hb.cell (World.block_lt_of_cell? _ _ (hHeld.2.2.1))).trans (hHeld.2.2.1); refine ⟨_, rfl, ?_⟩; have n0_ := Aside0.mk (Kd.R_below (sqR HO_5) hb); have n1_ := Aside0.mk (Kd.R_below (sqR HO_7) hb); have n2_ := Aside0.mk (blk_below (g := gb308) (o := .cells #[.slice (some ad318) l0_0.length c0_0, .slice A0_1 l0_1.length c0_1] 25 (0, 0)) (sqK BK308) hb); have n3_ := Aside0.mk (below_step (sqB HB) hb); clear HO_5 HO_7 BK308 HB; have HO_5 := n0_; have HO_7 := n1_; have BK308 := n2_; have HB := n3_; clear n0_ n1_ n2_ n3_; (try clear hb); (try clear hb2); (try clear hk); (try clear hi); refine hK.out _ _ ⟨(blk_cell BK308.out 0).trans rfl, (blk_cell BK308.out 1).trans rfl, HS2_, ((HB.out.cell (World.block_lt_of_cell? w _ hw327_0)).trans hw327_0), ((HB.out.cell (World.block_lt_of_cell? w _ hw327_1)).trans hw327_1)⟩ (fun hHeld => ?_); clear hK K; refine norm_ (a' := ?_) ?_ ?_
                                rotate_left
                                ·show Act.put _ (some 94) _ = _
                                 simp only [Act.put, sqA, i64_w, i32_w]; rfl
                                refine pure_ (i := 12) (N := some 96) (v := ?_) (a' := ?_) (bm 16 8191) rfl rfl (any_of HT_.out sqF) (fun _ _ _ h => h) (Or.inl ⟨by rfl, ?_⟩) ?_ ?_
                                rotate_left
                                ·intro w'
                                 go_simp; with_reducible rfl
                                rotate_left
                                ·simp only [Act.put, sqA, i64_w, i32_w]; rfl
                                refine pure_ (i := 13) (N := some 97) (v := ?_) (a' := ?_) (bm 16 16383) rfl rfl (any_of HT_.out sqF) (fun _ _ _ h => h) (Or.inl ⟨by rfl, ?_⟩) ?_ ?_
                                rotate_left
                                ·intro w'
                                 go_simp; with_reducible rfl
                                rotate_left
                                ·simp only [Act.put, sqA, i64_w, i32_w]; rfl
                                refine pure_ (i := 14) (N := some 98) (v := ?_) (a' := ?_) (bm 16 32767) rfl rfl (any_of HT_.out sqF) (fun _ _ _ h => h) (Or.inl ⟨by rfl, ?_⟩) ?_ ?_
                                rotate_left
                                ·intro w'
                                 go_simp; with_reducible rfl
                                rotate_left
                                ·simp only [Act.put, sqA, i64_w, i32_w]; rfl
                                refine pure_ (i := 15) (N := some 11) (v := ?_) (a' := ?_) (bm 16 65535) rfl rfl (any_of HT_.out sqF) (fun _ _ _ h => h) (Or.inl ⟨by rfl, ?_⟩) ?_ ?_
                                rotate_left
                                ·intro w'
                                 go_simp; with_reducible rfl
                                rotate_left
                                ·simp only [Act.put, sqA, i64_w, i32_w]; rfl
                                refine done_ (done_of HT_.out sqF) ?_; have p329 : 0 ≤ (x8_2 : Int) := sqD; have q329 : x8_2 < (y325.length : Int) := (by have h_ : (x8_2 : Int) < ((x7_3.length : Int) : Int) := sqD; first | (have e_ := (Kd.R_reads' HO_7.out).1; omega) | simpa only [Ny325.out, List.length_set] using h_); have ql329 : ((x8_2 : Int) < ((x7_3.length : Int) : Int)) = True := eq_true (sqD); obtain ⟨ad329, e329, hx329_0⟩ := Kd.at_int (Kd.R_reads' HO_7.out).2.2 x8_2 p329 q329; obtain rfl : (⟨go14, 0, none⟩ : Addr) = ad329 := (by injection e329)
                                (first | simp only [add_plain] at hx329_0 | simp only [add_at] at hx329_0 | simp only [Addr.add, Nat.zero_add] at hx329_0 | skip)
                                replace p329 := eq_true p329; replace q329 := eq_true q329; have p331 : 0 ≤ (x8_2 : Int) := sqD; have q331 : x8_2 < (y325.length : Int) := (by have h_ : (x8_2 : Int) < ((x7_3.length : Int) : Int) := sqD; first | (have e_ := (Kd.R_reads' HO_7.out).1; omega) | simpa only [Ny325.out, List.length_set] using h_); have ql331 : ((x8_2 : Int) < ((x7_3.length : Int) : Int)) = True := eq_true (sqD); obtain ⟨ad331, e331, hx331_0⟩ := Kd.at_int (Kd.R_reads' HO_7.out).2.2 x8_2 p331 q331; obtain rfl : (⟨go14, 0, none⟩ : Addr) = ad331 := (by injection e331)
                                (first | simp only [add_plain] at hx331_0 | simp only [add_at] at hx331_0 | simp only [Addr.add, Nat.zero_add] at hx331_0 | skip)
                                replace p331 := eq_true p331; replace q331 := eq_true q331; have p75 : 0 ≤ (x8_2 : Int) := sqD; have q75 : (x8_2 : Int) < ((x7_3.length : Int) : Int) := sqD; obtain ⟨hx75_0, hf75_0⟩ := Kd.R_celln 0 HO_7.out (x8_2 : Int) p75 q75; replace p75 := eq_true p75; replace q75 := eq_true q75; obtain ⟨hy80_, hz80_⟩ := Kd.R_celln 0 HO_7.out (x8_2 : Int) (sqD) (sqD); have HP80 := Kd.R_putg HO_7.out (x8_2 : Int) (wrap64 ((rd x5_1 x9_3) + (ji60)))
                                try go_wp2_with (first | ((with_reducible refine gate_store (t := 3) (p := 119) rfl ?_); refine store_event (t := 3) (p := 119) (v := ?vo_w81) (w1 := (w79.setCell ⟨go14, (x8_2 : Int).toNat, none⟩ (.int .i64 (wrap64 ((rd x5_1 x9_3) + (ji60)))))) ?hg ?ho ?hn ?hr ?_; (case ho => rfl); (case hg => rfl); (case hn => rfl); (case hr => first | (go_simp; done) | (go_simp; rfl)); intro w81 hw; have hg : w79.grownBy w81 (some go14) := (by rw [hw]; exact HP80.2); have hp_ : Kd.R (Kd.int .i64) 3 w81 w.heap.size (fun k_ => some k_ ≠ (.slice (some ad320) x5_1.length co45 : Value).ownBlock) (.slice (some ⟨go14, 0, none⟩) x7_3.length co14) y332 := (by rw [hw, Ny332.out]; exact HP80.1); clear HP80; replace HO_5 := Aside0.mk (Kd.R_after (v := (.slice (some ⟨go14, 0, none⟩) x7_3.length co14)) (v1 := (.slice (some ⟨go14, 0, none⟩) x7_3.length co14)) (ok := (fun _ => True)) (sqR HO_5) hg (.inl rfl)); replace BK308 := Aside0.mk (blk_grown (g := gb308) (o := .cells #[.slice (some ad318) l0_0.length c0_0, .slice A0_1 l0_1.length c0_1] 25 (0, 0)) (sqK BK308) hg (Kd.R_ne HO_7.out BK308.out (by decide))); replace HO_7 := Aside0.mk (hp_); replace HB := Aside0.mk (by rw [hw]; exact below_set (HB.out) GB14.out : Below w.heap.size w w81); clear hg hw hp_))
                                (try simp only [← hl7_3])
                                go_roundg kj41
                                case measure => have := HK1.out; have := HK2.out; have := HK3.out; have := HJ41.out; omega
                                case rel => exact ⟨(y332), (wrap64 (x9_3 + 1)), sqE, H', ⟨by have := HK1.out; have := HK2.out; have := HK3.out; have := HJ41.out; omega⟩, ⟨by (try simp only [hl7_3]); (with_reducible repeat (first | apply Kd.R_alloc | apply Kd.R_drewN | apply Kd.R_drew)); exact Kd.R_mono HO_5.out (fun _ hk => hk.2)⟩, ⟨by (try simp only [hl7_3]); (with_reducible repeat (first | apply Kd.R_alloc | apply Kd.R_drewN | apply Kd.R_drew)); exact HO_7.out⟩, ⟨by (try simp only [hl7_3]); (with_reducible repeat (first | refine blk_drewN ?_ _ | refine blk_drew ?_ | refine blk_alloc ?_ _)); exact BK308.out⟩, ⟨sqB HB⟩⟩
                               ·rw [if_neg c74] at H
                                have c74b0 : decide ((wrap64 ((rd x5_1 x9_3) + (ji60))) < (rd y325 x8_2)) = false := decide_eq_false c74; clear c74; have H' := Aside0.mk H; clear H; have p54 : 0 ≤ (x8_2 : Int) := sqD; have q54 : (x8_2 : Int) < ((x7_3.length : Int) : Int) := sqD; obtain ⟨hx54_0, hf54_0⟩ := Kd.R_celln 0 HO_7.out (x8_2 : Int) p54 q54; replace p54 := eq_true p54; replace q54 := eq_true q54; have HP82 := Kd.R_putg HO_7.out (x8_2 : Int) (wrap64 ((wrap64 ((rd x5_1 x9_3) + t323)) - x9_3))
                                try go_wp2_with (first | ((with_reducible refine gate_store (t := 3) (p := 83) rfl ?_); refine store_event (t := 3) (p := 83) (v := ?vo_w83) (w1 := (wc.setCell ⟨go14, (x8_2 : Int).toNat, none⟩ (.int .i64 (wrap64 ((wrap64 ((rd x5_1 x9_3) + t323)) - x9_3))))) ?hg ?ho ?hn ?hr ?_; (case ho => rfl); (case hg => rfl); (case hn => rfl); (case hr => first | (go_simp; done) | (go_simp; rfl)); intro w83 hw; have hg : wc.grownBy w83 (some go14) := (by rw [hw]; exact HP82.2); have hp_ : Kd.R (Kd.int .i64) 3 w83 w.heap.size (fun k_ => some k_ ≠ (.slice (some ad320) x5_1.length co45 : Value).ownBlock) (.slice (some ⟨go14, 0, none⟩) x7_3.length co14) y325 := (by rw [hw, Ny325.out]; exact HP82.1); clear HP82; replace HO_5 := Aside0.mk (Kd.R_after (v := (.slice (some ⟨go14, 0, none⟩) x7_3.length co14)) (v1 := (.slice (some ⟨go14, 0, none⟩) x7_3.length co14)) (ok := (fun _ => True)) (by (with_reducible repeat (first | apply Kd.R_alloc | apply Kd.R_drewN | apply Kd.R_drew)); exact Kd.R_mono HO_5.out (fun _ hk => ⟨trivial, hk⟩)) hg (.inl rfl)); replace BK308 := Aside0.mk (blk_grown (g := gb308) (o := .cells #[.slice (some ad318) l0_0.length c0_0, .slice A0_1 l0_1.length c0_1] 25 (0, 0)) (sqK BK308) hg (Kd.R_ne HO_7.out BK308.out (by decide))); replace HO_7 := Aside0.mk (hp_); replace HB := Aside0.mk (by rw [hw]; exact below_set (HB.out) GB14.out : Below w.heap.size w w83); clear hg hw hp_))
                                have n0_ := Aside0.mk (Kd.R_drew HO_5.out); have n1_ := Aside0.mk (Kd.R_drew HO_7.out); have n2_ := Aside0.mk (blk_drew BK308.out); have n3_ := Aside0.mk (below_drew1 HB.out); clear HO_5 HO_7 BK308 HB; have HO_5 := n0_; have HO_7 := n1_; have BK308 := n2_; have HB := n3_; clear n0_ n1_ n2_ n3_; have p326 : 0 ≤ (x9_3 : Int) := sqD; have q326 : x9_3 < (x5_1.length : Int) := sqD; obtain ⟨ad326, e326, hx326_0⟩ := Kd.at_int (Kd.R_reads' HO_5.out).2.2 x9_3 p326 q326; obtain rfl : ad320 = ad326 := (by injection e326); replace p326 := eq_true p326; replace q326 := eq_true q326; have p327 : 0 ≤ (x6_1 : Int) := sqD; have q327 : x6_1 < (l0_0.length : Int) := sqD; obtain ⟨ad327, e327, hx327_0, hx327_1⟩ := at_T41 HR0_0.out x6_1 p327 q327; have hw327_1 := hx327_1; have hw327_0 := hx327_0; obtain rfl : ad318 = ad327 := (by injection e327); replace hx327_0 := (HB.out.cell (World.block_lt_of_cell? w _ hx327_0)).trans hx327_0; replace hx327_1 := (HB.out.cell (World.block_lt_of_cell? w _ hx327_1)).trans hx327_1; replace p327 := eq_true p327; replace q327 := eq_true q327; refine start_ (n := 16) (S := fun w' => w'.cell? ⟨gb308, 0, none⟩ = some (.slice (some ad318) l0_0.length c0_0) ∧ w'.cell? ⟨gb308, 1, none⟩ = some (.slice A0_1 l0_1.length c0_1) ∧ w'.cell? (ad320.add (x9_3).toNat) = some (.int .i64 (rd x5_1 x9_3)) ∧ w'.cell? (ad318.add ((x6_1).toNat * 2)) = some (.int .i64 ((rd_T41 l0_0 x6_1).f0)) ∧ w'.cell? ⟨(ad318.add ((x6_1).toNat * 2)).block, (ad318.add ((x6_1).toNat * 2)).off + 1, none⟩ = some (.int .i64 ((rd_T41 l0_0 x6_1).f1))) (ds := []) (bm 16 0) sqF rfl rfl ⟨(blk_cell BK308.out 0).trans rfl, (blk_cell BK308.out 1).trans rfl, hx326_0, ((HB.out.cell (World.block_lt_of_cell? w _ hw327_0)).trans hw327_0), ((HB.out.cell (World.block_lt_of_cell? w _ hw327_1)).trans hw327_1)⟩ (fun hHeld => ?_); refine with_tabW rf_Totals.tab20 rf_Totals.bits20 (fun HT_ HW_ => ?_)
                                generalize w83.drew = w84 at HO_5 HO_7 BK308 HB hx326_0 hx327_0 hx327_1 hHeld ⊢
                                refine pure_ (i := 0) (N := some 84) (v := ?_) (a' := ?_) (bm 16 1) rfl rfl (any_of HT_.out sqF) (fun _ _ _ h => h) (Or.inl ⟨by rfl, ?_⟩) ?_ ?_
                                rotate_left
                                ·intro w'
                                 go_simp; with_reducible rfl
                                rotate_left
                                ·simp only [Act.put, sqA, i64_w, i32_w]; rfl
                                refine pure_ (i := 1) (N := some 85) (v := ?_) (a' := ?_) (bm 16 3) rfl rfl (any_of HT_.out sqF) (fun _ _ _ h => h) (Or.inl ⟨by rfl, ?_⟩) ?_ ?_
                                rotate_left
                                ·intro w'
                                 go_simp; with_reducible rfl
                                rotate_left
                                ·simp only [Act.put, sqA, i64_w, i32_w]; rfl
                                refine pure_ (i := 2) (N := some 86) (v := ?_) (a' := ?_) (bm 16 7) rfl rfl (any_of HT_.out sqF) (fun _ _ _ h => h) (Or.inl ⟨by rfl, ?_⟩) ?_ ?_
                                rotate_left
                                ·intro w'
                                 go_simp; with_reducible rfl
                                rotate_left
                                ·simp only [Act.put, sqA, i64_w, i32_w]; rfl
                                refine pure_ (i := 4) (N := some 88) (v := ?_) (a' := ?_) (bm 16 23) rfl rfl (any_of HT_.out sqF) (fun _ _ _ h => h) (Or.inl ⟨by rfl, ?_⟩) ?_ ?_
                                rotate_left
                                ·intro w'
                                 go_simp; with_reducible rfl
                                rotate_left
                                ·simp only [Act.put, sqA, i64_w, i32_w]; rfl
                                refine pure_ (i := 6) (N := some 90) (v := ?_) (a' := ?_) (bm 16 87) rfl rfl (any_of HT_.out sqF) (fun _ _ _ h => h) (Or.inl ⟨by rfl, ?_⟩) ?_ ?_
                                rotate_left
                                ·intro w'
                                 go_simp; with_reducible rfl
                                rotate_left
                                ·simp only [Act.put, sqA, i64_w, i32_w]; rfl
                                refine pure_ (i := 9) (N := some 93) (v := ?_) (a' := ?_) (bm 16 599) rfl rfl (any_of HT_.out sqF) (fun _ _ _ h => h) (Or.inl ⟨by rfl, ?_⟩) ?_ ?_
                                rotate_left
                                ·intro w'
                                 go_simp; with_reducible rfl
                                rotate_left
                                ·simp only [Act.put, sqA, i64_w, i32_w]; rfl
                                refine pure_ (i := 11) (N := some 95) (v := ?_) (a' := ?_) (bm 16 2647) rfl rfl (any_of HT_.out sqF) (fun _ _ _ h => h) (Or.inl ⟨by rfl, ?_⟩) ?_ ?_
                                rotate_left
                                ·intro w'
                                 go_simp; with_reducible rfl
                                rotate_left
                                ·simp only [Act.put, sqA, i64_w, i32_w]; rfl
                                refine take_ (i := 3) (N := some 87) (v := ?_) (a' := ?_) (bm 16 2655) rfl rfl (take_ofW HT_.out HW_.out sqF) (fun _ _ _ h => h) (Or.inl ⟨by rfl, ?_⟩) hHeld ?_ ?_
                                rotate_left
                                ·rintro w' ⟨s0, s1, s2, s3, s4⟩
                                 go_simp; with_reducible rfl
                                rotate_left
                                ·simp only [Act.put, sqA, i64_w, i32_w]; rfl
                                refine take_ (i := 5) (N := some 89) (v := ?_) (a' := ?_) (bm 16 2687) rfl rfl (take_ofW HT_.out HW_.out sqF) (fun _ _ _ h => h) (Or.inl ⟨by rfl, ?_⟩) hHeld ?_ ?_
                                rotate_left
                                ·rintro w' ⟨s0, s1, s2, s3, s4⟩
                                 go_simp; with_reducible rfl
                                rotate_left
                                ·simp only [Act.put, sqA, i64_w, i32_w]; rfl
                                refine pure_ (i := 7) (N := some 91) (v := ?_) (a' := ?_) (bm 16 2815) rfl rfl (any_of HT_.out sqF) (fun _ _ _ h => h) (Or.inl ⟨by rfl, ?_⟩) ?_ ?_
                                rotate_left
                                ·intro w'
                                 go_simp; with_reducible rfl
                                rotate_left
                                ·simp only [Act.put, sqA, i64_w, i32_w]; rfl
                                refine take_ (i := 8) (N := some 92) (v := ?_) (a' := ?_) (bm 16 3071) rfl rfl (take_ofW HT_.out HW_.out sqF) (fun _ _ _ h => h) (Or.inl ⟨by rfl, ?_⟩) hHeld ?_ ?_
                                rotate_left
                                ·rintro w' ⟨s0, s1, s2, s3, s4⟩
                                 go_simp; with_reducible rfl
                                rotate_left
                                ·simp only [Act.put, sqA, i64_w, i32_w]; rfl
                                refine one_ (i := 10) (N := some 94) (bm 16 4095) rfl rfl (one_of HT_.out sqF) (by decide) (fun K hK => ?_); refine goes_ Tryd.func74 sqF rfl #[.agg #[.int .i64 ((rd_T41 l0_0 x6_1).f0), .int .i64 ((rd_T41 l0_0 x6_1).f1)], .int .i64 x8_2] (by rfl) rfl rfl sqM ?_
                                with_reducible refine (rf_Least.calls ((rd_T41 l0_0 x6_1).f0) ((rd_T41 l0_0 x6_1).f1) x8_2 t328 _ A59.out).mono ?_
                                rintro e w85 ⟨rfl, hb⟩; have HS2_ := (hb.cell (World.block_lt_of_cell? _ _ (hHeld.2.2.1))).trans (hHeld.2.2.1); refine ⟨_, rfl, ?_⟩; have n0_ := Aside0.mk (Kd.R_below (sqR HO_5) hb); have n1_ := Aside0.mk (Kd.R_below (sqR HO_7) hb); have n2_ := Aside0.mk (blk_below (g := gb308) (o := .cells #[.slice (some ad318) l0_0.length c0_0, .slice A0_1 l0_1.length c0_1] 25 (0, 0)) (sqK BK308) hb); have n3_ := Aside0.mk (below_step (sqB HB) hb); clear HO_5 HO_7 BK308 HB; have HO_5 := n0_; have HO_7 := n1_; have BK308 := n2_; have HB := n3_; clear n0_ n1_ n2_ n3_; (try clear hb); (try clear hb2); (try clear hk); (try clear hi); refine hK.out _ _ ⟨(blk_cell BK308.out 0).trans rfl, (blk_cell BK308.out 1).trans rfl, HS2_, ((HB.out.cell (World.block_lt_of_cell? w _ hw327_0)).trans hw327_0), ((HB.out.cell (World.block_lt_of_cell? w _ hw327_1)).trans hw327_1)⟩ (fun hHeld => ?_); clear hK K; refine norm_ (a' := ?_) ?_ ?_
                                rotate_left
                                ·show Act.put _ (some 94) _ = _
                                 simp only [Act.put, sqA, i64_w, i32_w]; rfl
                                refine pure_ (i := 12) (N := some 96) (v := ?_) (a' := ?_) (bm 16 8191) rfl rfl (any_of HT_.out sqF) (fun _ _ _ h => h) (Or.inl ⟨by rfl, ?_⟩) ?_ ?_
                                rotate_left
                                ·intro w'
                                 go_simp; with_reducible rfl
                                rotate_left
                                ·simp only [Act.put, sqA, i64_w, i32_w]; rfl
                                refine pure_ (i := 13) (N := some 97) (v := ?_) (a' := ?_) (bm 16 16383) rfl rfl (any_of HT_.out sqF) (fun _ _ _ h => h) (Or.inl ⟨by rfl, ?_⟩) ?_ ?_
                                rotate_left
                                ·intro w'
                                 go_simp; with_reducible rfl
                                rotate_left
                                ·simp only [Act.put, sqA, i64_w, i32_w]; rfl
                                refine pure_ (i := 14) (N := some 98) (v := ?_) (a' := ?_) (bm 16 32767) rfl rfl (any_of HT_.out sqF) (fun _ _ _ h => h) (Or.inl ⟨by rfl, ?_⟩) ?_ ?_
                                rotate_left
                                ·intro w'
                                 go_simp; with_reducible rfl
                                rotate_left
                                ·simp only [Act.put, sqA, i64_w, i32_w]; rfl
                                refine pure_ (i := 15) (N := some 11) (v := ?_) (a' := ?_) (bm 16 65535) rfl rfl (any_of HT_.out sqF) (fun _ _ _ h => h) (Or.inl ⟨by rfl, ?_⟩) ?_ ?_
                                rotate_left
                                ·intro w'
                                 go_simp; with_reducible rfl
                                rotate_left
                                ·simp only [Act.put, sqA, i64_w, i32_w]; rfl
                                refine done_ (done_of HT_.out sqF) ?_; have p329 : 0 ≤ (x8_2 : Int) := sqD; have q329 : x8_2 < (y325.length : Int) := (by have h_ : (x8_2 : Int) < ((x7_3.length : Int) : Int) := sqD; first | (have e_ := (Kd.R_reads' HO_7.out).1; omega) | simpa only [Ny325.out, List.length_set] using h_); have ql329 : ((x8_2 : Int) < ((x7_3.length : Int) : Int)) = True := eq_true (sqD); obtain ⟨ad329, e329, hx329_0⟩ := Kd.at_int (Kd.R_reads' HO_7.out).2.2 x8_2 p329 q329; obtain rfl : (⟨go14, 0, none⟩ : Addr) = ad329 := (by injection e329)
                                (first | simp only [add_plain] at hx329_0 | simp only [add_at] at hx329_0 | simp only [Addr.add, Nat.zero_add] at hx329_0 | skip)
                                replace p329 := eq_true p329; replace q329 := eq_true q329; have p331 : 0 ≤ (x8_2 : Int) := sqD; have q331 : x8_2 < (y325.length : Int) := (by have h_ : (x8_2 : Int) < ((x7_3.length : Int) : Int) := sqD; first | (have e_ := (Kd.R_reads' HO_7.out).1; omega) | simpa only [Ny325.out, List.length_set] using h_); have ql331 : ((x8_2 : Int) < ((x7_3.length : Int) : Int)) = True := eq_true (sqD); obtain ⟨ad331, e331, hx331_0⟩ := Kd.at_int (Kd.R_reads' HO_7.out).2.2 x8_2 p331 q331; obtain rfl : (⟨go14, 0, none⟩ : Addr) = ad331 := (by injection e331)
                                (first | simp only [add_plain] at hx331_0 | simp only [add_at] at hx331_0 | simp only [Addr.add, Nat.zero_add] at hx331_0 | skip)
                                replace p331 := eq_true p331; replace q331 := eq_true q331
                                try go_wp2
                                (try simp only [← hl7_3])
                                go_roundg kj41
                                case measure => have := HK1.out; have := HK2.out; have := HK3.out; have := HJ41.out; omega
                                case rel => exact ⟨(y325), (wrap64 (x9_3 + 1)), sqE, H', ⟨by have := HK1.out; have := HK2.out; have := HK3.out; have := HJ41.out; omega⟩, ⟨by (try simp only [hl7_3]); (with_reducible repeat (first | apply Kd.R_alloc | apply Kd.R_drewN | apply Kd.R_drew)); exact Kd.R_mono HO_5.out (fun _ hk => hk.2)⟩, ⟨by (try simp only [hl7_3]); (with_reducible repeat (first | apply Kd.R_alloc | apply Kd.R_drewN | apply Kd.R_drew)); exact HO_7.out⟩, ⟨by (try simp only [hl7_3]); (with_reducible repeat (first | refine blk_drewN ?_ _ | refine blk_drew ?_ | refine blk_alloc ?_ _)); exact BK308.out⟩, ⟨sqB HB⟩⟩
                            ·rw [if_neg c58] at H
                             exact absurd H (by simp)
                           ·rw [if_neg c57] at H
                            exact absurd H (by simp)
                          ·rw [if_neg c56] at H
                           exact absurd H (by simp)
                         ·rw [if_neg c55] at H
                          exact absurd H (by simp)
                        ·rw [if_neg c53] at H
                         exact absurd H (by simp)
                       ·rw [if_neg c52] at H
                        exact absurd H (by simp)
                      ·replace c51 := Bool.eq_false_iff.mpr c51
                       subst c51; rw [if_neg Bool.false_ne_true] at H
                       by_cases c86 : 0 ≤ x9_3
                       ·rw [if_pos c86] at H
                        have c86b0 : decide (0 ≤ x9_3) = true := decide_eq_true c86; clear c86
                        by_cases c87 : x9_3 < (x5_1.length : Int)
                        ·rw [if_pos c87] at H
                         have c87b0 : decide (x9_3 < (x5_1.length : Int)) = true := decide_eq_true c87; clear c87
                         by_cases c88 : 0 ≤ x6_1
                         ·rw [if_pos c88] at H
                          have c88b0 : decide (0 ≤ x6_1) = true := decide_eq_true c88; clear c88
                          by_cases c89 : x6_1 < (l0_0.length : Int)
                          ·rw [if_pos c89] at H
                           have c89b0 : decide (x6_1 < (l0_0.length : Int)) = true := decide_eq_true c89; clear c89; obtain ⟨t335, A900, H⟩ := Option.bind_eq_some_iff.mp H; have A90 := Aside0.mk A900; clear A900; obtain ⟨ji91, hji91⟩ : ∃ j_ : Int, (mx 0 (wrap64 (t335 - x9_3))) = j_ := ⟨_, rfl⟩
                           replace H : (if a1 = true then (rf_Totals.l2 kj41 a1 x5_1 x6_1 x7_3 x8_2 (wrap64 (x9_3 + 1)) l0_0 l0_1) else (if 0 ≤ x8_2 then (if x8_2 < (x7_3.length : Int) then (if (rd x7_3 x8_2) < 0 then (rf_Totals.l2 kj41 a1 x5_1 x6_1 (x7_3.set (x8_2 : Int).toNat (wrap64 ((rd x5_1 x9_3) + (ji91)))) x8_2 (wrap64 (x9_3 + 1)) l0_0 l0_1) else (if (wrap64 ((rd x5_1 x9_3) + (ji91))) < (rd x7_3 x8_2) then (rf_Totals.l2 kj41 a1 x5_1 x6_1 (x7_3.set (x8_2 : Int).toNat (wrap64 ((rd x5_1 x9_3) + (ji91)))) x8_2 (wrap64 (x9_3 + 1)) l0_0 l0_1) else (rf_Totals.l2 kj41 a1 x5_1 x6_1 x7_3 x8_2 (wrap64 (x9_3 + 1)) l0_0 l0_1))) else (none)) else (none))) = some r := by first | (rw [hji91] at H; exact H) | (simp only [hji91] at H ⊢; exact H)
                           (try rw [hji91] at A90)
                           have hji91_ : (if 0 < (wrap64 (t335 - x9_3)) then (wrap64 (t335 - x9_3)) else 0) = ji91 := hji91
                           by_cases c92 : a1 = true
                           ·subst c92
                            rw [if_pos rfl] at H; have H' := Aside0.mk H
                            clear H; try go_wp2
                            have n0_ := Aside0.mk (Kd.R_drew HO_5.out); have n1_ := Aside0.mk (Kd.R_drew HO_7.out); have n2_ := Aside0.mk (blk_drew BK308.out); have n3_ := Aside0.mk (below_drew1 HB.out); clear HO_5 HO_7 BK308 HB; have HO_5 := n0_; have HO_7 := n1_; have BK308 := n2_; have HB := n3_; clear n0_ n1_ n2_ n3_; have p333 : 0 ≤ (x9_3 : Int) := sqD; have q333 : x9_3 < (x5_1.length : Int) := sqD; obtain ⟨ad333, e333, hx333_0⟩ := Kd.at_int (Kd.R_reads' HO_5.out).2.2 x9_3 p333 q333; obtain rfl : ad320 = ad333 := (by injection e333); replace p333 := eq_true p333; replace q333 := eq_true q333; have p334 : 0 ≤ (x6_1 : Int) := sqD; have q334 : x6_1 < (l0_0.length : Int) := sqD; obtain ⟨ad334, e334, hx334_0, hx334_1⟩ := at_T41 HR0_0.out x6_1 p334 q334; have hw334_1 := hx334_1; have hw334_0 := hx334_0; obtain rfl : ad318 = ad334 := (by injection e334); replace hx334_0 := (HB.out.cell (World.block_lt_of_cell? w _ hx334_0)).trans hx334_0; replace hx334_1 := (HB.out.cell (World.block_lt_of_cell? w _ hx334_1)).trans hx334_1; replace p334 := eq_true p334; replace q334 := eq_true q334; refine start_ (n := 16) (S := fun w' => w'.cell? ⟨gb308, 0, none⟩ = some (.slice (some ad318) l0_0.length c0_0) ∧ w'.cell? ⟨gb308, 1, none⟩ = some (.slice A0_1 l0_1.length c0_1) ∧ w'.cell? (ad320.add (x9_3).toNat) = some (.int .i64 (rd x5_1 x9_3)) ∧ w'.cell? (ad318.add ((x6_1).toNat * 2)) = some (.int .i64 ((rd_T41 l0_0 x6_1).f0)) ∧ w'.cell? ⟨(ad318.add ((x6_1).toNat * 2)).block, (ad318.add ((x6_1).toNat * 2)).off + 1, none⟩ = some (.int .i64 ((rd_T41 l0_0 x6_1).f1))) (ds := []) (bm 16 0) sqF rfl rfl ⟨(blk_cell BK308.out 0).trans rfl, (blk_cell BK308.out 1).trans rfl, hx333_0, ((HB.out.cell (World.block_lt_of_cell? w _ hw334_0)).trans hw334_0), ((HB.out.cell (World.block_lt_of_cell? w _ hw334_1)).trans hw334_1)⟩ (fun hHeld => ?_); refine with_tabW rf_Totals.tab20 rf_Totals.bits20 (fun HT_ HW_ => ?_)
                            generalize wc.drew = w93 at HO_5 HO_7 BK308 HB hx333_0 hx334_0 hx334_1 hHeld ⊢
                            refine pure_ (i := 0) (N := some 84) (v := ?_) (a' := ?_) (bm 16 1) rfl rfl (any_of HT_.out sqF) (fun _ _ _ h => h) (Or.inl ⟨by rfl, ?_⟩) ?_ ?_
                            rotate_left
                            ·intro w'
                             go_simp; with_reducible rfl
                            rotate_left
                            ·simp only [Act.put, sqA, i64_w, i32_w]; rfl
                            refine pure_ (i := 1) (N := some 85) (v := ?_) (a' := ?_) (bm 16 3) rfl rfl (any_of HT_.out sqF) (fun _ _ _ h => h) (Or.inl ⟨by rfl, ?_⟩) ?_ ?_
                            rotate_left
                            ·intro w'
                             go_simp; with_reducible rfl
                            rotate_left
                            ·simp only [Act.put, sqA, i64_w, i32_w]; rfl
                            refine pure_ (i := 2) (N := some 86) (v := ?_) (a' := ?_) (bm 16 7) rfl rfl (any_of HT_.out sqF) (fun _ _ _ h => h) (Or.inl ⟨by rfl, ?_⟩) ?_ ?_
                            rotate_left
                            ·intro w'
                             go_simp; with_reducible rfl
                            rotate_left
                            ·simp only [Act.put, sqA, i64_w, i32_w]; rfl
                            refine pure_ (i := 4) (N := some 88) (v := ?_) (a' := ?_) (bm 16 23) rfl rfl (any_of HT_.out sqF) (fun _ _ _ h => h) (Or.inl ⟨by rfl, ?_⟩) ?_ ?_
                            rotate_left
                            ·intro w'
                             go_simp; with_reducible rfl
                            rotate_left
                            ·simp only [Act.put, sqA, i64_w, i32_w]; rfl
                            refine pure_ (i := 6) (N := some 90) (v := ?_) (a' := ?_) (bm 16 87) rfl rfl (any_of HT_.out sqF) (fun _ _ _ h => h) (Or.inl ⟨by rfl, ?_⟩) ?_ ?_
                            rotate_left
                            ·intro w'
                             go_simp; with_reducible rfl
                            rotate_left
                            ·simp only [Act.put, sqA, i64_w, i32_w]; rfl
                            refine pure_ (i := 9) (N := some 93) (v := ?_) (a' := ?_) (bm 16 599) rfl rfl (any_of HT_.out sqF) (fun _ _ _ h => h) (Or.inl ⟨by rfl, ?_⟩) ?_ ?_
                            rotate_left
                            ·intro w'
                             go_simp; with_reducible rfl
                            rotate_left
                            ·simp only [Act.put, sqA, i64_w, i32_w]; rfl
                            refine pure_ (i := 11) (N := some 95) (v := ?_) (a' := ?_) (bm 16 2647) rfl rfl (any_of HT_.out sqF) (fun _ _ _ h => h) (Or.inl ⟨by rfl, ?_⟩) ?_ ?_
                            rotate_left
                            ·intro w'
                             go_simp; with_reducible rfl
                            rotate_left
                            ·simp only [Act.put, sqA, i64_w, i32_w]; rfl
                            refine take_ (i := 3) (N := some 87) (v := ?_) (a' := ?_) (bm 16 2655) rfl rfl (take_ofW HT_.out HW_.out sqF) (fun _ _ _ h => h) (Or.inl ⟨by rfl, ?_⟩) hHeld ?_ ?_
                            rotate_left
                            ·rintro w' ⟨s0, s1, s2, s3, s4⟩
                             go_simp; with_reducible rfl
                            rotate_left
                            ·simp only [Act.put, sqA, i64_w, i32_w]; rfl
                            refine take_ (i := 5) (N := some 89) (v := ?_) (a' := ?_) (bm 16 2687) rfl rfl (take_ofW HT_.out HW_.out sqF) (fun _ _ _ h => h) (Or.inl ⟨by rfl, ?_⟩) hHeld ?_ ?_
                            rotate_left
                            ·rintro w' ⟨s0, s1, s2, s3, s4⟩
                             go_simp; with_reducible rfl
                            rotate_left
                            ·simp only [Act.put, sqA, i64_w, i32_w]; rfl
                            refine pure_ (i := 7) (N := some 91) (v := ?_) (a' := ?_) (bm 16 2815) rfl rfl (any_of HT_.out sqF) (fun _ _ _ h => h) (Or.inl ⟨by rfl, ?_⟩) ?_ ?_
                            rotate_left
                            ·intro w'
                             go_simp; with_reducible rfl
                            rotate_left
                            ·simp only [Act.put, sqA, i64_w, i32_w]; rfl
                            refine take_ (i := 8) (N := some 92) (v := ?_) (a' := ?_) (bm 16 3071) rfl rfl (take_ofW HT_.out HW_.out sqF) (fun _ _ _ h => h) (Or.inl ⟨by rfl, ?_⟩) hHeld ?_ ?_
                            rotate_left
                            ·rintro w' ⟨s0, s1, s2, s3, s4⟩
                             go_simp; with_reducible rfl
                            rotate_left
                            ·simp only [Act.put, sqA, i64_w, i32_w]; rfl
                            refine one_ (i := 10) (N := some 94) (bm 16 4095) rfl rfl (one_of HT_.out sqF) (by decide) (fun K hK => ?_); refine goes_ Tryd.func74 sqF rfl #[.agg #[.int .i64 ((rd_T41 l0_0 x6_1).f0), .int .i64 ((rd_T41 l0_0 x6_1).f1)], .int .i64 x8_2] (by rfl) rfl rfl sqM ?_
                            with_reducible refine (rf_Least.calls ((rd_T41 l0_0 x6_1).f0) ((rd_T41 l0_0 x6_1).f1) x8_2 t335 _ A90.out).mono ?_
                            rintro e w94 ⟨rfl, hb⟩; have HS2_ := (hb.cell (World.block_lt_of_cell? _ _ (hHeld.2.2.1))).trans (hHeld.2.2.1); refine ⟨_, rfl, ?_⟩; have n0_ := Aside0.mk (Kd.R_below (sqR HO_5) hb); have n1_ := Aside0.mk (Kd.R_below (sqR HO_7) hb); have n2_ := Aside0.mk (blk_below (g := gb308) (o := .cells #[.slice (some ad318) l0_0.length c0_0, .slice A0_1 l0_1.length c0_1] 25 (0, 0)) (sqK BK308) hb); have n3_ := Aside0.mk (below_step (sqB HB) hb); clear HO_5 HO_7 BK308 HB; have HO_5 := n0_; have HO_7 := n1_; have BK308 := n2_; have HB := n3_; clear n0_ n1_ n2_ n3_; (try clear hb); (try clear hb2); (try clear hk); (try clear hi); refine hK.out _ _ ⟨(blk_cell BK308.out 0).trans rfl, (blk_cell BK308.out 1).trans rfl, HS2_, ((HB.out.cell (World.block_lt_of_cell? w _ hw334_0)).trans hw334_0), ((HB.out.cell (World.block_lt_of_cell? w _ hw334_1)).trans hw334_1)⟩ (fun hHeld => ?_); clear hK K; refine norm_ (a' := ?_) ?_ ?_
                            rotate_left
                            ·show Act.put _ (some 94) _ = _
                             simp only [Act.put, sqA, i64_w, i32_w]; rfl
                            refine pure_ (i := 12) (N := some 96) (v := ?_) (a' := ?_) (bm 16 8191) rfl rfl (any_of HT_.out sqF) (fun _ _ _ h => h) (Or.inl ⟨by rfl, ?_⟩) ?_ ?_
                            rotate_left
                            ·intro w'
                             go_simp; with_reducible rfl
                            rotate_left
                            ·simp only [Act.put, sqA, i64_w, i32_w]; rfl
                            refine pure_ (i := 13) (N := some 97) (v := ?_) (a' := ?_) (bm 16 16383) rfl rfl (any_of HT_.out sqF) (fun _ _ _ h => h) (Or.inl ⟨by rfl, ?_⟩) ?_ ?_
                            rotate_left
                            ·intro w'
                             go_simp; with_reducible rfl
                            rotate_left
                            ·simp only [Act.put, sqA, i64_w, i32_w]; rfl
                            refine pure_ (i := 14) (N := some 98) (v := ?_) (a' := ?_) (bm 16 32767) rfl rfl (any_of HT_.out sqF) (fun _ _ _ h => h) (Or.inl ⟨by rfl, ?_⟩) ?_ ?_
                            rotate_left
                            ·intro w'
                             go_simp; with_reducible rfl
                            rotate_left
                            ·simp only [Act.put, sqA, i64_w, i32_w]; rfl
                            refine pure_ (i := 15) (N := some 11) (v := ?_) (a' := ?_) (bm 16 65535) rfl rfl (any_of HT_.out sqF) (fun _ _ _ h => h) (Or.inl ⟨by rfl, ?_⟩) ?_ ?_
                            rotate_left
                            ·intro w'
                             go_simp; with_reducible rfl
                            rotate_left
                            ·simp only [Act.put, sqA, i64_w, i32_w]; rfl
                            refine done_ (done_of HT_.out sqF) ?_
                            try go_wp2
                            (try simp only [← hl7_3])
                            go_roundg kj41
                            case measure => have := HK1.out; have := HK2.out; have := HK3.out; have := HJ41.out; omega
                            case rel => exact ⟨(x7_3), (wrap64 (x9_3 + 1)), sqE, H', ⟨by have := HK1.out; have := HK2.out; have := HK3.out; have := HJ41.out; omega⟩, ⟨by (try simp only [hl7_3]); (with_reducible repeat (first | apply Kd.R_alloc | apply Kd.R_drewN | apply Kd.R_drew)); exact HO_5.out⟩, ⟨by (try simp only [hl7_3]); (with_reducible repeat (first | apply Kd.R_alloc | apply Kd.R_drewN | apply Kd.R_drew)); exact HO_7.out⟩, ⟨by (try simp only [hl7_3]); (with_reducible repeat (first | refine blk_drewN ?_ _ | refine blk_drew ?_ | refine blk_alloc ?_ _)); exact BK308.out⟩, ⟨sqB HB⟩⟩
                           ·replace c92 := Bool.eq_false_iff.mpr c92
                            subst c92; rw [if_neg Bool.false_ne_true] at H
                            by_cases c95 : 0 ≤ x8_2
                            ·rw [if_pos c95] at H
                             have c95b0 : decide (0 ≤ x8_2) = true := decide_eq_true c95; clear c95
                             by_cases c96 : x8_2 < (x7_3.length : Int)
                             ·rw [if_pos c96] at H
                              have c96b0 : decide (x8_2 < (x7_3.length : Int)) = true := decide_eq_true c96; clear c96
                              by_cases c97 : (rd x7_3 x8_2) < 0
                              ·rw [if_pos c97] at H
                               have c97b0 : decide ((rd x7_3 x8_2) < 0) = true := decide_eq_true c97; clear c97; replace H : ∃ y_ : List Int, y_ = (x7_3.set (x8_2 : Int).toNat (wrap64 ((rd x5_1 x9_3) + (ji91)))) ∧ (rf_Totals.l2 kj41 false x5_1 x6_1 y_ x8_2 (wrap64 (x9_3 + 1)) l0_0 l0_1) = some r := ⟨_, rfl, sqJ H⟩; obtain ⟨y337, hy337, H⟩ := H; have Ny337 := Aside0.mk hy337; clear hy337; have H' := Aside0.mk H
                               clear H; try go_wp2
                               have n0_ := Aside0.mk (Kd.R_drew HO_5.out); have n1_ := Aside0.mk (Kd.R_drew HO_7.out); have n2_ := Aside0.mk (blk_drew BK308.out); have n3_ := Aside0.mk (below_drew1 HB.out); clear HO_5 HO_7 BK308 HB; have HO_5 := n0_; have HO_7 := n1_; have BK308 := n2_; have HB := n3_; clear n0_ n1_ n2_ n3_; have p333 : 0 ≤ (x9_3 : Int) := sqD; have q333 : x9_3 < (x5_1.length : Int) := sqD; obtain ⟨ad333, e333, hx333_0⟩ := Kd.at_int (Kd.R_reads' HO_5.out).2.2 x9_3 p333 q333; obtain rfl : ad320 = ad333 := (by injection e333); replace p333 := eq_true p333; replace q333 := eq_true q333; have p334 : 0 ≤ (x6_1 : Int) := sqD; have q334 : x6_1 < (l0_0.length : Int) := sqD; obtain ⟨ad334, e334, hx334_0, hx334_1⟩ := at_T41 HR0_0.out x6_1 p334 q334; have hw334_1 := hx334_1; have hw334_0 := hx334_0; obtain rfl : ad318 = ad334 := (by injection e334); replace hx334_0 := (HB.out.cell (World.block_lt_of_cell? w _ hx334_0)).trans hx334_0; replace hx334_1 := (HB.out.cell (World.block_lt_of_cell? w _ hx334_1)).trans hx334_1; replace p334 := eq_true p334; replace q334 := eq_true q334; refine start_ (n := 16) (S := fun w' => w'.cell? ⟨gb308, 0, none⟩ = some (.slice (some ad318) l0_0.length c0_0) ∧ w'.cell? ⟨gb308, 1, none⟩ = some (.slice A0_1 l0_1.length c0_1) ∧ w'.cell? (ad320.add (x9_3).toNat) = some (.int .i64 (rd x5_1 x9_3)) ∧ w'.cell? (ad318.add ((x6_1).toNat * 2)) = some (.int .i64 ((rd_T41 l0_0 x6_1).f0)) ∧ w'.cell? ⟨(ad318.add ((x6_1).toNat * 2)).block, (ad318.add ((x6_1).toNat * 2)).off + 1, none⟩ = some (.int .i64 ((rd_T41 l0_0 x6_1).f1))) (ds := []) (bm 16 0) sqF rfl rfl ⟨(blk_cell BK308.out 0).trans rfl, (blk_cell BK308.out 1).trans rfl, hx333_0, ((HB.out.cell (World.block_lt_of_cell? w _ hw334_0)).trans hw334_0), ((HB.out.cell (World.block_lt_of_cell? w _ hw334_1)).trans hw334_1)⟩ (fun hHeld => ?_); refine with_tabW rf_Totals.tab20 rf_Totals.bits20 (fun HT_ HW_ => ?_)
                               generalize wc.drew = w99 at HO_5 HO_7 BK308 HB hx333_0 hx334_0 hx334_1 hHeld ⊢
                               refine pure_ (i := 0) (N := some 84) (v := ?_) (a' := ?_) (bm 16 1) rfl rfl (any_of HT_.out sqF) (fun _ _ _ h => h) (Or.inl ⟨by rfl, ?_⟩) ?_ ?_
                               rotate_left
                               ·intro w'
                                go_simp; with_reducible rfl
                               rotate_left
                               ·simp only [Act.put, sqA, i64_w, i32_w]; rfl
                               refine pure_ (i := 1) (N := some 85) (v := ?_) (a' := ?_) (bm 16 3) rfl rfl (any_of HT_.out sqF) (fun _ _ _ h => h) (Or.inl ⟨by rfl, ?_⟩) ?_ ?_
                               rotate_left
                               ·intro w'
                                go_simp; with_reducible rfl
                               rotate_left
                               ·simp only [Act.put, sqA, i64_w, i32_w]; rfl
                               refine pure_ (i := 2) (N := some 86) (v := ?_) (a' := ?_) (bm 16 7) rfl rfl (any_of HT_.out sqF) (fun _ _ _ h => h) (Or.inl ⟨by rfl, ?_⟩) ?_ ?_
                               rotate_left
                               ·intro w'
                                go_simp; with_reducible rfl
                               rotate_left
                               ·simp only [Act.put, sqA, i64_w, i32_w]; rfl
                               refine pure_ (i := 4) (N := some 88) (v := ?_) (a' := ?_) (bm 16 23) rfl rfl (any_of HT_.out sqF) (fun _ _ _ h => h) (Or.inl ⟨by rfl, ?_⟩) ?_ ?_
                               rotate_left
                               ·intro w'
                                go_simp; with_reducible rfl
                               rotate_left
                               ·simp only [Act.put, sqA, i64_w, i32_w]; rfl
                               refine pure_ (i := 6) (N := some 90) (v := ?_) (a' := ?_) (bm 16 87) rfl rfl (any_of HT_.out sqF) (fun _ _ _ h => h) (Or.inl ⟨by rfl, ?_⟩) ?_ ?_
                               rotate_left
                               ·intro w'
                                go_simp; with_reducible rfl
                               rotate_left
                               ·simp only [Act.put, sqA, i64_w, i32_w]; rfl
                               refine pure_ (i := 9) (N := some 93) (v := ?_) (a' := ?_) (bm 16 599) rfl rfl (any_of HT_.out sqF) (fun _ _ _ h => h) (Or.inl ⟨by rfl, ?_⟩) ?_ ?_
                               rotate_left
                               ·intro w'
                                go_simp; with_reducible rfl
                               rotate_left
                               ·simp only [Act.put, sqA, i64_w, i32_w]; rfl
                               refine pure_ (i := 11) (N := some 95) (v := ?_) (a' := ?_) (bm 16 2647) rfl rfl (any_of HT_.out sqF) (fun _ _ _ h => h) (Or.inl ⟨by rfl, ?_⟩) ?_ ?_
                               rotate_left
                               ·intro w'
                                go_simp; with_reducible rfl
                               rotate_left
                               ·simp only [Act.put, sqA, i64_w, i32_w]; rfl
                               refine take_ (i := 3) (N := some 87) (v := ?_) (a' := ?_) (bm 16 2655) rfl rfl (take_ofW HT_.out HW_.out sqF) (fun _ _ _ h => h) (Or.inl ⟨by rfl, ?_⟩) hHeld ?_ ?_
                               rotate_left
                               ·rintro w' ⟨s0, s1, s2, s3, s4⟩
                                go_simp; with_reducible rfl
                               rotate_left
                               ·simp only [Act.put, sqA, i64_w, i32_w]; rfl
                               refine take_ (i := 5) (N := some 89) (v := ?_) (a' := ?_) (bm 16 2687) rfl rfl (take_ofW HT_.out HW_.out sqF) (fun _ _ _ h => h) (Or.inl ⟨by rfl, ?_⟩) hHeld ?_ ?_
                               rotate_left
                               ·rintro w' ⟨s0, s1, s2, s3, s4⟩
                                go_simp; with_reducible rfl
                               rotate_left
                               ·simp only [Act.put, sqA, i64_w, i32_w]; rfl
                               refine pure_ (i := 7) (N := some 91) (v := ?_) (a' := ?_) (bm 16 2815) rfl rfl (any_of HT_.out sqF) (fun _ _ _ h => h) (Or.inl ⟨by rfl, ?_⟩) ?_ ?_
                               rotate_left
                               ·intro w'
                                go_simp; with_reducible rfl
                               rotate_left
                               ·simp only [Act.put, sqA, i64_w, i32_w]; rfl
                               refine take_ (i := 8) (N := some 92) (v := ?_) (a' := ?_) (bm 16 3071) rfl rfl (take_ofW HT_.out HW_.out sqF) (fun _ _ _ h => h) (Or.inl ⟨by rfl, ?_⟩) hHeld ?_ ?_
                               rotate_left
                               ·rintro w' ⟨s0, s1, s2, s3, s4⟩
                                go_simp; with_reducible rfl
                               rotate_left
                               ·simp only [Act.put, sqA, i64_w, i32_w]; rfl
                               refine one_ (i := 10) (N := some 94) (bm 16 4095) rfl rfl (one_of HT_.out sqF) (by decide) (fun K hK => ?_); refine goes_ Tryd.func74 sqF rfl #[.agg #[.int .i64 ((rd_T41 l0_0 x6_1).f0), .int .i64 ((rd_T41 l0_0 x6_1).f1)], .int .i64 x8_2] (by rfl) rfl rfl sqM ?_
                               with_reducible refine (rf_Least.calls ((rd_T41 l0_0 x6_1).f0) ((rd_T41 l0_0 x6_1).f1) x8_2 t335 _ A90.out).mono ?_
                               rintro e w100 ⟨rfl, hb⟩; have HS2_ := (hb.cell (World.block_lt_of_cell? _ _ (hHeld.2.2.1))).trans (hHeld.2.2.1); refine ⟨_, rfl, ?_⟩; have n0_ := Aside0.mk (Kd.R_below (sqR HO_5) hb); have n1_ := Aside0.mk (Kd.R_below (sqR HO_7) hb); have n2_ := Aside0.mk (blk_below (g := gb308) (o := .cells #[.slice (some ad318) l0_0.length c0_0, .slice A0_1 l0_1.length c0_1] 25 (0, 0)) (sqK BK308) hb); have n3_ := Aside0.mk (below_step (sqB HB) hb); clear HO_5 HO_7 BK308 HB; have HO_5 := n0_; have HO_7 := n1_; have BK308 := n2_; have HB := n3_; clear n0_ n1_ n2_ n3_; (try clear hb); (try clear hb2); (try clear hk); (try clear hi); refine hK.out _ _ ⟨(blk_cell BK308.out 0).trans rfl, (blk_cell BK308.out 1).trans rfl, HS2_, ((HB.out.cell (World.block_lt_of_cell? w _ hw334_0)).trans hw334_0), ((HB.out.cell (World.block_lt_of_cell? w _ hw334_1)).trans hw334_1)⟩ (fun hHeld => ?_); clear hK K; refine norm_ (a' := ?_) ?_ ?_
                               rotate_left
                               ·show Act.put _ (some 94) _ = _
                                simp only [Act.put, sqA, i64_w, i32_w]; rfl
                               refine pure_ (i := 12) (N := some 96) (v := ?_) (a' := ?_) (bm 16 8191) rfl rfl (any_of HT_.out sqF) (fun _ _ _ h => h) (Or.inl ⟨by rfl, ?_⟩) ?_ ?_
                               rotate_left
                               ·intro w'
                                go_simp; with_reducible rfl
                               rotate_left
                               ·simp only [Act.put, sqA, i64_w, i32_w]; rfl
                               refine pure_ (i := 13) (N := some 97) (v := ?_) (a' := ?_) (bm 16 16383) rfl rfl (any_of HT_.out sqF) (fun _ _ _ h => h) (Or.inl ⟨by rfl, ?_⟩) ?_ ?_
                               rotate_left
                               ·intro w'
                                go_simp; with_reducible rfl
                               rotate_left
                               ·simp only [Act.put, sqA, i64_w, i32_w]; rfl
                               refine pure_ (i := 14) (N := some 98) (v := ?_) (a' := ?_) (bm 16 32767) rfl rfl (any_of HT_.out sqF) (fun _ _ _ h => h) (Or.inl ⟨by rfl, ?_⟩) ?_ ?_
                               rotate_left
                               ·intro w'
                                go_simp; with_reducible rfl
                               rotate_left
                               ·simp only [Act.put, sqA, i64_w, i32_w]; rfl
                               refine pure_ (i := 15) (N := some 11) (v := ?_) (a' := ?_) (bm 16 65535) rfl rfl (any_of HT_.out sqF) (fun _ _ _ h => h) (Or.inl ⟨by rfl, ?_⟩) ?_ ?_
                               rotate_left
                               ·intro w'
                                go_simp; with_reducible rfl
                               rotate_left
                               ·simp only [Act.put, sqA, i64_w, i32_w]; rfl
                               refine done_ (done_of HT_.out sqF) ?_; have p336 : 0 ≤ (x8_2 : Int) := sqD; have q336 : x8_2 < (x7_3.length : Int) := sqD; obtain ⟨ad336, e336, hx336_0⟩ := Kd.at_int (Kd.R_reads' HO_7.out).2.2 x8_2 p336 q336; obtain rfl : (⟨go14, 0, none⟩ : Addr) = ad336 := (by injection e336)
                               (first | simp only [add_plain] at hx336_0 | simp only [add_at] at hx336_0 | simp only [Addr.add, Nat.zero_add] at hx336_0 | skip)
                               replace p336 := eq_true p336; replace q336 := eq_true q336; have p98 : 0 ≤ (x8_2 : Int) := sqD; have q98 : (x8_2 : Int) < ((x7_3.length : Int) : Int) := sqD; obtain ⟨hx98_0, hf98_0⟩ := Kd.R_celln 0 HO_7.out (x8_2 : Int) p98 q98; replace p98 := eq_true p98; replace q98 := eq_true q98; obtain ⟨hy101_, hz101_⟩ := Kd.R_celln 0 HO_7.out (x8_2 : Int) (sqD) (sqD); have HP101 := Kd.R_putg HO_7.out (x8_2 : Int) (wrap64 ((rd x5_1 x9_3) + (ji91)))
                               try go_wp2_with (first | ((with_reducible refine gate_store (t := 3) (p := 119) rfl ?_); refine store_event (t := 3) (p := 119) (v := ?vo_w102) (w1 := (w100.setCell ⟨go14, (x8_2 : Int).toNat, none⟩ (.int .i64 (wrap64 ((rd x5_1 x9_3) + (ji91)))))) ?hg ?ho ?hn ?hr ?_; (case ho => rfl); (case hg => rfl); (case hn => rfl); (case hr => first | (go_simp; done) | (go_simp; rfl)); intro w102 hw; have hg : w100.grownBy w102 (some go14) := (by rw [hw]; exact HP101.2); have hp_ : Kd.R (Kd.int .i64) 3 w102 w.heap.size (fun k_ => some k_ ≠ (.slice (some ad320) x5_1.length co45 : Value).ownBlock) (.slice (some ⟨go14, 0, none⟩) x7_3.length co14) y337 := (by rw [hw, Ny337.out]; exact HP101.1); clear HP101; replace HO_5 := Aside0.mk (Kd.R_after (v := (.slice (some ⟨go14, 0, none⟩) x7_3.length co14)) (v1 := (.slice (some ⟨go14, 0, none⟩) x7_3.length co14)) (ok := (fun _ => True)) (by (with_reducible repeat (first | apply Kd.R_alloc | apply Kd.R_drewN | apply Kd.R_drew)); exact Kd.R_mono HO_5.out (fun _ hk => ⟨trivial, hk⟩)) hg (.inl rfl)); replace BK308 := Aside0.mk (blk_grown (g := gb308) (o := .cells #[.slice (some ad318) l0_0.length c0_0, .slice A0_1 l0_1.length c0_1] 25 (0, 0)) (sqK BK308) hg (Kd.R_ne HO_7.out BK308.out (by decide))); replace HO_7 := Aside0.mk (hp_); replace HB := Aside0.mk (by rw [hw]; exact below_set (HB.out) GB14.out : Below w.heap.size w w102); clear hg hw hp_))
                               (try simp only [← hl7_3])
                               go_roundg kj41
                               case measure => have := HK1.out; have := HK2.out; have := HK3.out; have := HJ41.out; omega
                               case rel => exact ⟨(y337), (wrap64 (x9_3 + 1)), sqE, H', ⟨by have := HK1.out; have := HK2.out; have := HK3.out; have := HJ41.out; omega⟩, ⟨by (try simp only [hl7_3]); (with_reducible repeat (first | apply Kd.R_alloc | apply Kd.R_drewN | apply Kd.R_drew)); exact Kd.R_mono HO_5.out (fun _ hk => hk.2)⟩, ⟨by (try simp only [hl7_3]); (with_reducible repeat (first | apply Kd.R_alloc | apply Kd.R_drewN | apply Kd.R_drew)); exact HO_7.out⟩, ⟨by (try simp only [hl7_3]); (with_reducible repeat (first | refine blk_drewN ?_ _ | refine blk_drew ?_ | refine blk_alloc ?_ _)); exact BK308.out⟩, ⟨sqB HB⟩⟩
                              ·rw [if_neg c97] at H
                               have c97b0 : decide ((rd x7_3 x8_2) < 0) = false := decide_eq_false c97; clear c97
                               by_cases c103 : (wrap64 ((rd x5_1 x9_3) + (ji91))) < (rd x7_3 x8_2)
                               ·rw [if_pos c103] at H
                                have c103b0 : decide ((wrap64 ((rd x5_1 x9_3) + (ji91))) < (rd x7_3 x8_2)) = true := decide_eq_true c103; clear c103; replace H : ∃ y_ : List Int, y_ = (x7_3.set (x8_2 : Int).toNat (wrap64 ((rd x5_1 x9_3) + (ji91)))) ∧ (rf_Totals.l2 kj41 false x5_1 x6_1 y_ x8_2 (wrap64 (x9_3 + 1)) l0_0 l0_1) = some r := ⟨_, rfl, sqJ H⟩; obtain ⟨y339, hy339, H⟩ := H; have Ny339 := Aside0.mk hy339; clear hy339; have H' := Aside0.mk H
                                clear H; try go_wp2
                                have n0_ := Aside0.mk (Kd.R_drew HO_5.out); have n1_ := Aside0.mk (Kd.R_drew HO_7.out); have n2_ := Aside0.mk (blk_drew BK308.out); have n3_ := Aside0.mk (below_drew1 HB.out); clear HO_5 HO_7 BK308 HB; have HO_5 := n0_; have HO_7 := n1_; have BK308 := n2_; have HB := n3_; clear n0_ n1_ n2_ n3_; have p333 : 0 ≤ (x9_3 : Int) := sqD; have q333 : x9_3 < (x5_1.length : Int) := sqD; obtain ⟨ad333, e333, hx333_0⟩ := Kd.at_int (Kd.R_reads' HO_5.out).2.2 x9_3 p333 q333; obtain rfl : ad320 = ad333 := (by injection e333); replace p333 := eq_true p333; replace q333 := eq_true q333; have p334 : 0 ≤ (x6_1 : Int) := sqD; have q334 : x6_1 < (l0_0.length : Int) := sqD; obtain ⟨ad334, e334, hx334_0, hx334_1⟩ := at_T41 HR0_0.out x6_1 p334 q334; have hw334_1 := hx334_1; have hw334_0 := hx334_0; obtain rfl : ad318 = ad334 := (by injection e334); replace hx334_0 := (HB.out.cell (World.block_lt_of_cell? w _ hx334_0)).trans hx334_0; replace hx334_1 := (HB.out.cell (World.block_lt_of_cell? w _ hx334_1)).trans hx334_1; replace p334 := eq_true p334; replace q334 := eq_true q334; refine start_ (n := 16) (S := fun w' => w'.cell? ⟨gb308, 0, none⟩ = some (.slice (some ad318) l0_0.length c0_0) ∧ w'.cell? ⟨gb308, 1, none⟩ = some (.slice A0_1 l0_1.length c0_1) ∧ w'.cell? (ad320.add (x9_3).toNat) = some (.int .i64 (rd x5_1 x9_3)) ∧ w'.cell? (ad318.add ((x6_1).toNat * 2)) = some (.int .i64 ((rd_T41 l0_0 x6_1).f0)) ∧ w'.cell? ⟨(ad318.add ((x6_1).toNat * 2)).block, (ad318.add ((x6_1).toNat * 2)).off + 1, none⟩ = some (.int .i64 ((rd_T41 l0_0 x6_1).f1))) (ds := []) (bm 16 0) sqF rfl rfl ⟨(blk_cell BK308.out 0).trans rfl, (blk_cell BK308.out 1).trans rfl, hx333_0, ((HB.out.cell (World.block_lt_of_cell? w _ hw334_0)).trans hw334_0), ((HB.out.cell (World.block_lt_of_cell? w _ hw334_1)).trans hw334_1)⟩ (fun hHeld => ?_); refine with_tabW rf_Totals.tab20 rf_Totals.bits20 (fun HT_ HW_ => ?_)
                                generalize wc.drew = w105 at HO_5 HO_7 BK308 HB hx333_0 hx334_0 hx334_1 hHeld ⊢
                                refine pure_ (i := 0) (N := some 84) (v := ?_) (a' := ?_) (bm 16 1) rfl rfl (any_of HT_.out sqF) (fun _ _ _ h => h) (Or.inl ⟨by rfl, ?_⟩) ?_ ?_
                                rotate_left
                                ·intro w'
                                 go_simp; with_reducible rfl
                                rotate_left
                                ·simp only [Act.put, sqA, i64_w, i32_w]; rfl
                                refine pure_ (i := 1) (N := some 85) (v := ?_) (a' := ?_) (bm 16 3) rfl rfl (any_of HT_.out sqF) (fun _ _ _ h => h) (Or.inl ⟨by rfl, ?_⟩) ?_ ?_
                                rotate_left
                                ·intro w'
                                 go_simp; with_reducible rfl
                                rotate_left
                                ·simp only [Act.put, sqA, i64_w, i32_w]; rfl
                                refine pure_ (i := 2) (N := some 86) (v := ?_) (a' := ?_) (bm 16 7) rfl rfl (any_of HT_.out sqF) (fun _ _ _ h => h) (Or.inl ⟨by rfl, ?_⟩) ?_ ?_
                                rotate_left
                                ·intro w'
                                 go_simp; with_reducible rfl
                                rotate_left
                                ·simp only [Act.put, sqA, i64_w, i32_w]; rfl
                                refine pure_ (i := 4) (N := some 88) (v := ?_) (a' := ?_) (bm 16 23) rfl rfl (any_of HT_.out sqF) (fun _ _ _ h => h) (Or.inl ⟨by rfl, ?_⟩) ?_ ?_
                                rotate_left
                                ·intro w'
                                 go_simp; with_reducible rfl
                                rotate_left
                                ·simp only [Act.put, sqA, i64_w, i32_w]; rfl
                                refine pure_ (i := 6) (N := some 90) (v := ?_) (a' := ?_) (bm 16 87) rfl rfl (any_of HT_.out sqF) (fun _ _ _ h => h) (Or.inl ⟨by rfl, ?_⟩) ?_ ?_
                                rotate_left
                                ·intro w'
                                 go_simp; with_reducible rfl
                                rotate_left
                                ·simp only [Act.put, sqA, i64_w, i32_w]; rfl
                                refine pure_ (i := 9) (N := some 93) (v := ?_) (a' := ?_) (bm 16 599) rfl rfl (any_of HT_.out sqF) (fun _ _ _ h => h) (Or.inl ⟨by rfl, ?_⟩) ?_ ?_
                                rotate_left
                                ·intro w'
                                 go_simp; with_reducible rfl
                                rotate_left
                                ·simp only [Act.put, sqA, i64_w, i32_w]; rfl
                                refine pure_ (i := 11) (N := some 95) (v := ?_) (a' := ?_) (bm 16 2647) rfl rfl (any_of HT_.out sqF) (fun _ _ _ h => h) (Or.inl ⟨by rfl, ?_⟩) ?_ ?_
                                rotate_left
                                ·intro w'
                                 go_simp; with_reducible rfl
                                rotate_left
                                ·simp only [Act.put, sqA, i64_w, i32_w]; rfl
                                refine take_ (i := 3) (N := some 87) (v := ?_) (a' := ?_) (bm 16 2655) rfl rfl (take_ofW HT_.out HW_.out sqF) (fun _ _ _ h => h) (Or.inl ⟨by rfl, ?_⟩) hHeld ?_ ?_
                                rotate_left
                                ·rintro w' ⟨s0, s1, s2, s3, s4⟩
                                 go_simp; with_reducible rfl
                                rotate_left
                                ·simp only [Act.put, sqA, i64_w, i32_w]; rfl
                                refine take_ (i := 5) (N := some 89) (v := ?_) (a' := ?_) (bm 16 2687) rfl rfl (take_ofW HT_.out HW_.out sqF) (fun _ _ _ h => h) (Or.inl ⟨by rfl, ?_⟩) hHeld ?_ ?_
                                rotate_left
                                ·rintro w' ⟨s0, s1, s2, s3, s4⟩
                                 go_simp; with_reducible rfl
                                rotate_left
                                ·simp only [Act.put, sqA, i64_w, i32_w]; rfl
                                refine pure_ (i := 7) (N := some 91) (v := ?_) (a' := ?_) (bm 16 2815) rfl rfl (any_of HT_.out sqF) (fun _ _ _ h => h) (Or.inl ⟨by rfl, ?_⟩) ?_ ?_
                                rotate_left
                                ·intro w'
                                 go_simp; with_reducible rfl
                                rotate_left
                                ·simp only [Act.put, sqA, i64_w, i32_w]; rfl
                                refine take_ (i := 8) (N := some 92) (v := ?_) (a' := ?_) (bm 16 3071) rfl rfl (take_ofW HT_.out HW_.out sqF) (fun _ _ _ h => h) (Or.inl ⟨by rfl, ?_⟩) hHeld ?_ ?_
                                rotate_left
                                ·rintro w' ⟨s0, s1, s2, s3, s4⟩
                                 go_simp; with_reducible rfl
                                rotate_left
                                ·simp only [Act.put, sqA, i64_w, i32_w]; rfl
                                refine one_ (i := 10) (N := some 94) (bm 16 4095) rfl rfl (one_of HT_.out sqF) (by decide) (fun K hK => ?_); refine goes_ Tryd.func74 sqF rfl #[.agg #[.int .i64 ((rd_T41 l0_0 x6_1).f0), .int .i64 ((rd_T41 l0_0 x6_1).f1)], .int .i64 x8_2] (by rfl) rfl rfl sqM ?_
                                with_reducible refine (rf_Least.calls ((rd_T41 l0_0 x6_1).f0) ((rd_T41 l0_0 x6_1).f1) x8_2 t335 _ A90.out).mono ?_
                                rintro e w106 ⟨rfl, hb⟩; have HS2_ := (hb.cell (World.block_lt_of_cell? _ _ (hHeld.2.2.1))).trans (hHeld.2.2.1); refine ⟨_, rfl, ?_⟩; have n0_ := Aside0.mk (Kd.R_below (sqR HO_5) hb); have n1_ := Aside0.mk (Kd.R_below (sqR HO_7) hb); have n2_ := Aside0.mk (blk_below (g := gb308) (o := .cells #[.slice (some ad318) l0_0.length c0_0, .slice A0_1 l0_1.length c0_1] 25 (0, 0)) (sqK BK308) hb); have n3_ := Aside0.mk (below_step (sqB HB) hb); clear HO_5 HO_7 BK308 HB; have HO_5 := n0_; have HO_7 := n1_; have BK308 := n2_; have HB := n3_; clear n0_ n1_ n2_ n3_; (try clear hb); (try clear hb2); (try clear hk); (try clear hi); refine hK.out _ _ ⟨(blk_cell BK308.out 0).trans rfl, (blk_cell BK308.out 1).trans rfl, HS2_, ((HB.out.cell (World.block_lt_of_cell? w _ hw334_0)).trans hw334_0), ((HB.out.cell (World.block_lt_of_cell? w _ hw334_1)).trans hw334_1)⟩ (fun hHeld => ?_); clear hK K; refine norm_ (a' := ?_) ?_ ?_
                                rotate_left
                                ·show Act.put _ (some 94) _ = _
                                 simp only [Act.put, sqA, i64_w, i32_w]; rfl
                                refine pure_ (i := 12) (N := some 96) (v := ?_) (a' := ?_) (bm 16 8191) rfl rfl (any_of HT_.out sqF) (fun _ _ _ h => h) (Or.inl ⟨by rfl, ?_⟩) ?_ ?_
                                rotate_left
                                ·intro w'
                                 go_simp; with_reducible rfl
                                rotate_left
                                ·simp only [Act.put, sqA, i64_w, i32_w]; rfl
                                refine pure_ (i := 13) (N := some 97) (v := ?_) (a' := ?_) (bm 16 16383) rfl rfl (any_of HT_.out sqF) (fun _ _ _ h => h) (Or.inl ⟨by rfl, ?_⟩) ?_ ?_
                                rotate_left
                                ·intro w'
                                 go_simp; with_reducible rfl
                                rotate_left
                                ·simp only [Act.put, sqA, i64_w, i32_w]; rfl
                                refine pure_ (i := 14) (N := some 98) (v := ?_) (a' := ?_) (bm 16 32767) rfl rfl (any_of HT_.out sqF) (fun _ _ _ h => h) (Or.inl ⟨by rfl, ?_⟩) ?_ ?_
                                rotate_left
                                ·intro w'
                                 go_simp; with_reducible rfl
                                rotate_left
                                ·simp only [Act.put, sqA, i64_w, i32_w]; rfl
                                refine pure_ (i := 15) (N := some 11) (v := ?_) (a' := ?_) (bm 16 65535) rfl rfl (any_of HT_.out sqF) (fun _ _ _ h => h) (Or.inl ⟨by rfl, ?_⟩) ?_ ?_
                                rotate_left
                                ·intro w'
                                 go_simp; with_reducible rfl
                                rotate_left
                                ·simp only [Act.put, sqA, i64_w, i32_w]; rfl
                                refine done_ (done_of HT_.out sqF) ?_; have p336 : 0 ≤ (x8_2 : Int) := sqD; have q336 : x8_2 < (x7_3.length : Int) := sqD; obtain ⟨ad336, e336, hx336_0⟩ := Kd.at_int (Kd.R_reads' HO_7.out).2.2 x8_2 p336 q336; obtain rfl : (⟨go14, 0, none⟩ : Addr) = ad336 := (by injection e336)
                                (first | simp only [add_plain] at hx336_0 | simp only [add_at] at hx336_0 | simp only [Addr.add, Nat.zero_add] at hx336_0 | skip)
                                replace p336 := eq_true p336; replace q336 := eq_true q336; have p338 : 0 ≤ (x8_2 : Int) := sqD; have q338 : x8_2 < (x7_3.length : Int) := sqD; obtain ⟨ad338, e338, hx338_0⟩ := Kd.at_int (Kd.R_reads' HO_7.out).2.2 x8_2 p338 q338; obtain rfl : (⟨go14, 0, none⟩ : Addr) = ad338 := (by injection e338)
                                (first | simp only [add_plain] at hx338_0 | simp only [add_at] at hx338_0 | simp only [Addr.add, Nat.zero_add] at hx338_0 | skip)
                                replace p338 := eq_true p338; replace q338 := eq_true q338; have p104 : 0 ≤ (x8_2 : Int) := sqD; have q104 : (x8_2 : Int) < ((x7_3.length : Int) : Int) := sqD; obtain ⟨hx104_0, hf104_0⟩ := Kd.R_celln 0 HO_7.out (x8_2 : Int) p104 q104; replace p104 := eq_true p104; replace q104 := eq_true q104; obtain ⟨hy107_, hz107_⟩ := Kd.R_celln 0 HO_7.out (x8_2 : Int) (sqD) (sqD); have HP107 := Kd.R_putg HO_7.out (x8_2 : Int) (wrap64 ((rd x5_1 x9_3) + (ji91)))
                                try go_wp2_with (first | ((with_reducible refine gate_store (t := 3) (p := 119) rfl ?_); refine store_event (t := 3) (p := 119) (v := ?vo_w108) (w1 := (w106.setCell ⟨go14, (x8_2 : Int).toNat, none⟩ (.int .i64 (wrap64 ((rd x5_1 x9_3) + (ji91)))))) ?hg ?ho ?hn ?hr ?_; (case ho => rfl); (case hg => rfl); (case hn => rfl); (case hr => first | (go_simp; done) | (go_simp; rfl)); intro w108 hw; have hg : w106.grownBy w108 (some go14) := (by rw [hw]; exact HP107.2); have hp_ : Kd.R (Kd.int .i64) 3 w108 w.heap.size (fun k_ => some k_ ≠ (.slice (some ad320) x5_1.length co45 : Value).ownBlock) (.slice (some ⟨go14, 0, none⟩) x7_3.length co14) y339 := (by rw [hw, Ny339.out]; exact HP107.1); clear HP107; replace HO_5 := Aside0.mk (Kd.R_after (v := (.slice (some ⟨go14, 0, none⟩) x7_3.length co14)) (v1 := (.slice (some ⟨go14, 0, none⟩) x7_3.length co14)) (ok := (fun _ => True)) (by (with_reducible repeat (first | apply Kd.R_alloc | apply Kd.R_drewN | apply Kd.R_drew)); exact Kd.R_mono HO_5.out (fun _ hk => ⟨trivial, hk⟩)) hg (.inl rfl)); replace BK308 := Aside0.mk (blk_grown (g := gb308) (o := .cells #[.slice (some ad318) l0_0.length c0_0, .slice A0_1 l0_1.length c0_1] 25 (0, 0)) (sqK BK308) hg (Kd.R_ne HO_7.out BK308.out (by decide))); replace HO_7 := Aside0.mk (hp_); replace HB := Aside0.mk (by rw [hw]; exact below_set (HB.out) GB14.out : Below w.heap.size w w108); clear hg hw hp_))
                                (try simp only [← hl7_3])
                                go_roundg kj41
                                case measure => have := HK1.out; have := HK2.out; have := HK3.out; have := HJ41.out; omega
                                case rel => exact ⟨(y339), (wrap64 (x9_3 + 1)), sqE, H', ⟨by have := HK1.out; have := HK2.out; have := HK3.out; have := HJ41.out; omega⟩, ⟨by (try simp only [hl7_3]); (with_reducible repeat (first | apply Kd.R_alloc | apply Kd.R_drewN | apply Kd.R_drew)); exact Kd.R_mono HO_5.out (fun _ hk => hk.2)⟩, ⟨by (try simp only [hl7_3]); (with_reducible repeat (first | apply Kd.R_alloc | apply Kd.R_drewN | apply Kd.R_drew)); exact HO_7.out⟩, ⟨by (try simp only [hl7_3]); (with_reducible repeat (first | refine blk_drewN ?_ _ | refine blk_drew ?_ | refine blk_alloc ?_ _)); exact BK308.out⟩, ⟨sqB HB⟩⟩
                               ·rw [if_neg c103] at H
                                have c103b0 : decide ((wrap64 ((rd x5_1 x9_3) + (ji91))) < (rd x7_3 x8_2)) = false := decide_eq_false c103; clear c103; have H' := Aside0.mk H
                                clear H; try go_wp2
                                have n0_ := Aside0.mk (Kd.R_drew HO_5.out); have n1_ := Aside0.mk (Kd.R_drew HO_7.out); have n2_ := Aside0.mk (blk_drew BK308.out); have n3_ := Aside0.mk (below_drew1 HB.out); clear HO_5 HO_7 BK308 HB; have HO_5 := n0_; have HO_7 := n1_; have BK308 := n2_; have HB := n3_; clear n0_ n1_ n2_ n3_; have p333 : 0 ≤ (x9_3 : Int) := sqD; have q333 : x9_3 < (x5_1.length : Int) := sqD; obtain ⟨ad333, e333, hx333_0⟩ := Kd.at_int (Kd.R_reads' HO_5.out).2.2 x9_3 p333 q333; obtain rfl : ad320 = ad333 := (by injection e333); replace p333 := eq_true p333; replace q333 := eq_true q333; have p334 : 0 ≤ (x6_1 : Int) := sqD; have q334 : x6_1 < (l0_0.length : Int) := sqD; obtain ⟨ad334, e334, hx334_0, hx334_1⟩ := at_T41 HR0_0.out x6_1 p334 q334; have hw334_1 := hx334_1; have hw334_0 := hx334_0; obtain rfl : ad318 = ad334 := (by injection e334); replace hx334_0 := (HB.out.cell (World.block_lt_of_cell? w _ hx334_0)).trans hx334_0; replace hx334_1 := (HB.out.cell (World.block_lt_of_cell? w _ hx334_1)).trans hx334_1; replace p334 := eq_true p334; replace q334 := eq_true q334; refine start_ (n := 16) (S := fun w' => w'.cell? ⟨gb308, 0, none⟩ = some (.slice (some ad318) l0_0.length c0_0) ∧ w'.cell? ⟨gb308, 1, none⟩ = some (.slice A0_1 l0_1.length c0_1) ∧ w'.cell? (ad320.add (x9_3).toNat) = some (.int .i64 (rd x5_1 x9_3)) ∧ w'.cell? (ad318.add ((x6_1).toNat * 2)) = some (.int .i64 ((rd_T41 l0_0 x6_1).f0)) ∧ w'.cell? ⟨(ad318.add ((x6_1).toNat * 2)).block, (ad318.add ((x6_1).toNat * 2)).off + 1, none⟩ = some (.int .i64 ((rd_T41 l0_0 x6_1).f1))) (ds := []) (bm 16 0) sqF rfl rfl ⟨(blk_cell BK308.out 0).trans rfl, (blk_cell BK308.out 1).trans rfl, hx333_0, ((HB.out.cell (World.block_lt_of_cell? w _ hw334_0)).trans hw334_0), ((HB.out.cell (World.block_lt_of_cell? w _ hw334_1)).trans hw334_1)⟩ (fun hHeld => ?_); refine with_tabW rf_Totals.tab20 rf_Totals.bits20 (fun HT_ HW_ => ?_)
                                generalize wc.drew = w109 at HO_5 HO_7 BK308 HB hx333_0 hx334_0 hx334_1 hHeld ⊢
                                refine pure_ (i := 0) (N := some 84) (v := ?_) (a' := ?_) (bm 16 1) rfl rfl (any_of HT_.out sqF) (fun _ _ _ h => h) (Or.inl ⟨by rfl, ?_⟩) ?_ ?_
                                rotate_left
                                ·intro w'
                                 go_simp; with_reducible rfl
                                rotate_left
                                ·simp only [Act.put, sqA, i64_w, i32_w]; rfl
                                refine pure_ (i := 1) (N := some 85) (v := ?_) (a' := ?_) (bm 16 3) rfl rfl (any_of HT_.out sqF) (fun _ _ _ h => h) (Or.inl ⟨by rfl, ?_⟩) ?_ ?_
                                rotate_left
                                ·intro w'
                                 go_simp; with_reducible rfl
                                rotate_left
                                ·simp only [Act.put, sqA, i64_w, i32_w]; rfl
                                refine pure_ (i := 2) (N := some 86) (v := ?_) (a' := ?_) (bm 16 7) rfl rfl (any_of HT_.out sqF) (fun _ _ _ h => h) (Or.inl ⟨by rfl, ?_⟩) ?_ ?_
                                rotate_left
                                ·intro w'
                                 go_simp; with_reducible rfl
                                rotate_left
                                ·simp only [Act.put, sqA, i64_w, i32_w]; rfl
                                refine pure_ (i := 4) (N := some 88) (v := ?_) (a' := ?_) (bm 16 23) rfl rfl (any_of HT_.out sqF) (fun _ _ _ h => h) (Or.inl ⟨by rfl, ?_⟩) ?_ ?_
                                rotate_left
                                ·intro w'
                                 go_simp; with_reducible rfl
                                rotate_left
                                ·simp only [Act.put, sqA, i64_w, i32_w]; rfl
                                refine pure_ (i := 6) (N := some 90) (v := ?_) (a' := ?_) (bm 16 87) rfl rfl (any_of HT_.out sqF) (fun _ _ _ h => h) (Or.inl ⟨by rfl, ?_⟩) ?_ ?_
                                rotate_left
                                ·intro w'
                                 go_simp; with_reducible rfl
                                rotate_left
                                ·simp only [Act.put, sqA, i64_w, i32_w]; rfl
                                refine pure_ (i := 9) (N := some 93) (v := ?_) (a' := ?_) (bm 16 599) rfl rfl (any_of HT_.out sqF) (fun _ _ _ h => h) (Or.inl ⟨by rfl, ?_⟩) ?_ ?_
                                rotate_left
                                ·intro w'
                                 go_simp; with_reducible rfl
                                rotate_left
                                ·simp only [Act.put, sqA, i64_w, i32_w]; rfl
                                refine pure_ (i := 11) (N := some 95) (v := ?_) (a' := ?_) (bm 16 2647) rfl rfl (any_of HT_.out sqF) (fun _ _ _ h => h) (Or.inl ⟨by rfl, ?_⟩) ?_ ?_
                                rotate_left
                                ·intro w'
                                 go_simp; with_reducible rfl
                                rotate_left
                                ·simp only [Act.put, sqA, i64_w, i32_w]; rfl
                                refine take_ (i := 3) (N := some 87) (v := ?_) (a' := ?_) (bm 16 2655) rfl rfl (take_ofW HT_.out HW_.out sqF) (fun _ _ _ h => h) (Or.inl ⟨by rfl, ?_⟩) hHeld ?_ ?_
                                rotate_left
                                ·rintro w' ⟨s0, s1, s2, s3, s4⟩
                                 go_simp; with_reducible rfl
                                rotate_left
                                ·simp only [Act.put, sqA, i64_w, i32_w]; rfl
                                refine take_ (i := 5) (N := some 89) (v := ?_) (a' := ?_) (bm 16 2687) rfl rfl (take_ofW HT_.out HW_.out sqF) (fun _ _ _ h => h) (Or.inl ⟨by rfl, ?_⟩) hHeld ?_ ?_
                                rotate_left
                                ·rintro w' ⟨s0, s1, s2, s3, s4⟩
                                 go_simp; with_reducible rfl
                                rotate_left
                                ·simp only [Act.put, sqA, i64_w, i32_w]; rfl
                                refine pure_ (i := 7) (N := some 91) (v := ?_) (a' := ?_) (bm 16 2815) rfl rfl (any_of HT_.out sqF) (fun _ _ _ h => h) (Or.inl ⟨by rfl, ?_⟩) ?_ ?_
                                rotate_left
                                ·intro w'
                                 go_simp; with_reducible rfl
                                rotate_left
                                ·simp only [Act.put, sqA, i64_w, i32_w]; rfl
                                refine take_ (i := 8) (N := some 92) (v := ?_) (a' := ?_) (bm 16 3071) rfl rfl (take_ofW HT_.out HW_.out sqF) (fun _ _ _ h => h) (Or.inl ⟨by rfl, ?_⟩) hHeld ?_ ?_
                                rotate_left
                                ·rintro w' ⟨s0, s1, s2, s3, s4⟩
                                 go_simp; with_reducible rfl
                                rotate_left
                                ·simp only [Act.put, sqA, i64_w, i32_w]; rfl
                                refine one_ (i := 10) (N := some 94) (bm 16 4095) rfl rfl (one_of HT_.out sqF) (by decide) (fun K hK => ?_); refine goes_ Tryd.func74 sqF rfl #[.agg #[.int .i64 ((rd_T41 l0_0 x6_1).f0), .int .i64 ((rd_T41 l0_0 x6_1).f1)], .int .i64 x8_2] (by rfl) rfl rfl sqM ?_
                                with_reducible refine (rf_Least.calls ((rd_T41 l0_0 x6_1).f0) ((rd_T41 l0_0 x6_1).f1) x8_2 t335 _ A90.out).mono ?_
                                rintro e w110 ⟨rfl, hb⟩; have HS2_ := (hb.cell (World.block_lt_of_cell? _ _ (hHeld.2.2.1))).trans (hHeld.2.2.1); refine ⟨_, rfl, ?_⟩; have n0_ := Aside0.mk (Kd.R_below (sqR HO_5) hb); have n1_ := Aside0.mk (Kd.R_below (sqR HO_7) hb); have n2_ := Aside0.mk (blk_below (g := gb308) (o := .cells #[.slice (some ad318) l0_0.length c0_0, .slice A0_1 l0_1.length c0_1] 25 (0, 0)) (sqK BK308) hb); have n3_ := Aside0.mk (below_step (sqB HB) hb); clear HO_5 HO_7 BK308 HB; have HO_5 := n0_; have HO_7 := n1_; have BK308 := n2_; have HB := n3_; clear n0_ n1_ n2_ n3_; (try clear hb); (try clear hb2); (try clear hk); (try clear hi); refine hK.out _ _ ⟨(blk_cell BK308.out 0).trans rfl, (blk_cell BK308.out 1).trans rfl, HS2_, ((HB.out.cell (World.block_lt_of_cell? w _ hw334_0)).trans hw334_0), ((HB.out.cell (World.block_lt_of_cell? w _ hw334_1)).trans hw334_1)⟩ (fun hHeld => ?_); clear hK K; refine norm_ (a' := ?_) ?_ ?_
                                rotate_left
                                ·show Act.put _ (some 94) _ = _
                                 simp only [Act.put, sqA, i64_w, i32_w]; rfl
                                refine pure_ (i := 12) (N := some 96) (v := ?_) (a' := ?_) (bm 16 8191) rfl rfl (any_of HT_.out sqF) (fun _ _ _ h => h) (Or.inl ⟨by rfl, ?_⟩) ?_ ?_
                                rotate_left
                                ·intro w'
                                 go_simp; with_reducible rfl
                                rotate_left
                                ·simp only [Act.put, sqA, i64_w, i32_w]; rfl
                                refine pure_ (i := 13) (N := some 97) (v := ?_) (a' := ?_) (bm 16 16383) rfl rfl (any_of HT_.out sqF) (fun _ _ _ h => h) (Or.inl ⟨by rfl, ?_⟩) ?_ ?_
                                rotate_left
                                ·intro w'
                                 go_simp; with_reducible rfl
                                rotate_left
                                ·simp only [Act.put, sqA, i64_w, i32_w]; rfl
                                refine pure_ (i := 14) (N := some 98) (v := ?_) (a' := ?_) (bm 16 32767) rfl rfl (any_of HT_.out sqF) (fun _ _ _ h => h) (Or.inl ⟨by rfl, ?_⟩) ?_ ?_
                                rotate_left
                                ·intro w'
                                 go_simp; with_reducible rfl
                                rotate_left
                                ·simp only [Act.put, sqA, i64_w, i32_w]; rfl
                                refine pure_ (i := 15) (N := some 11) (v := ?_) (a' := ?_) (bm 16 65535) rfl rfl (any_of HT_.out sqF) (fun _ _ _ h => h) (Or.inl ⟨by rfl, ?_⟩) ?_ ?_
                                rotate_left
                                ·intro w'
                                 go_simp; with_reducible rfl
                                rotate_left
                                ·simp only [Act.put, sqA, i64_w, i32_w]; rfl
                                refine done_ (done_of HT_.out sqF) ?_; have p336 : 0 ≤ (x8_2 : Int) := sqD; have q336 : x8_2 < (x7_3.length : Int) := sqD; obtain ⟨ad336, e336, hx336_0⟩ := Kd.at_int (Kd.R_reads' HO_7.out).2.2 x8_2 p336 q336; obtain rfl : (⟨go14, 0, none⟩ : Addr) = ad336 := (by injection e336)
                                (first | simp only [add_plain] at hx336_0 | simp only [add_at] at hx336_0 | simp only [Addr.add, Nat.zero_add] at hx336_0 | skip)
                                replace p336 := eq_true p336; replace q336 := eq_true q336; have p338 : 0 ≤ (x8_2 : Int) := sqD; have q338 : x8_2 < (x7_3.length : Int) := sqD; obtain ⟨ad338, e338, hx338_0⟩ := Kd.at_int (Kd.R_reads' HO_7.out).2.2 x8_2 p338 q338; obtain rfl : (⟨go14, 0, none⟩ : Addr) = ad338 := (by injection e338)
                                (first | simp only [add_plain] at hx338_0 | simp only [add_at] at hx338_0 | simp only [Addr.add, Nat.zero_add] at hx338_0 | skip)
                                replace p338 := eq_true p338; replace q338 := eq_true q338
                                try go_wp2
                                (try simp only [← hl7_3])
                                go_roundg kj41
                                case measure => have := HK1.out; have := HK2.out; have := HK3.out; have := HJ41.out; omega
                                case rel => exact ⟨(x7_3), (wrap64 (x9_3 + 1)), sqE, H', ⟨by have := HK1.out; have := HK2.out; have := HK3.out; have := HJ41.out; omega⟩, ⟨by (try simp only [hl7_3]); (with_reducible repeat (first | apply Kd.R_alloc | apply Kd.R_drewN | apply Kd.R_drew)); exact HO_5.out⟩, ⟨by (try simp only [hl7_3]); (with_reducible repeat (first | apply Kd.R_alloc | apply Kd.R_drewN | apply Kd.R_drew)); exact HO_7.out⟩, ⟨by (try simp only [hl7_3]); (with_reducible repeat (first | refine blk_drewN ?_ _ | refine blk_drew ?_ | refine blk_alloc ?_ _)); exact BK308.out⟩, ⟨sqB HB⟩⟩
                             ·rw [if_neg c96] at H
                              exact absurd H (by simp)
                            ·rw [if_neg c95] at H
                             exact absurd H (by simp)
                          ·rw [if_neg c89] at H
                           exact absurd H (by simp)
                         ·rw [if_neg c88] at H
                          exact absurd H (by simp)
                        ·rw [if_neg c87] at H
                         exact absurd H (by simp)
                       ·rw [if_neg c86] at H
                        exact absurd H (by simp)
                  ·rw [if_neg c36] at H
                   exact absurd H (by simp)
                 ·rw [if_neg c35] at H
                  exact absurd H (by simp)
                ·rw [if_neg c34] at H
                 have c34b0 : decide (x9_3 ≤ t319) = false := decide_eq_false c34; clear c34; have H' := Aside0.mk H; clear H; have hcz111_0 := sqc0 BK308; have hcz111_1 := sqc1 BK308; have hfz111_0 := blk_frozen BK308.out 0; have hfz111_1 := blk_frozen BK308.out 1; have p318 : 0 ≤ (x6_1 : Int) := sqD; have q318 : x6_1 < (l0_0.length : Int) := sqD; obtain ⟨ad318, e318, hx318_0, hx318_1⟩ := at_T41 HR0_0.out x6_1 p318 q318
                 cases e318
                 replace hx318_0 := (HB.out.cell (World.block_lt_of_cell? w _ hx318_0)).trans hx318_0; replace hx318_1 := (HB.out.cell (World.block_lt_of_cell? w _ hx318_1)).trans hx318_1; replace p318 := eq_true p318; replace q318 := eq_true q318
                 go_wp2_with (first | ((with_reducible refine gate_callee (f := 75) rfl ?_); refine goesL_ (some 48) rfl rfl Tryd.func75 sqF rfl #[.agg #[.int .i64 ((rd_T41 l0_0 x6_1).f0), .int .i64 ((rd_T41 l0_0 x6_1).f1)], .int .i64 x8_2] rfl sqM ?_; (with_reducible refine (rf_Greatest.calls ((rd_T41 l0_0 x6_1).f0) ((rd_T41 l0_0 x6_1).f1) x8_2 t319 _ A33.out).mono ?_); rintro e w112 ⟨rfl, hb⟩; refine ⟨_, rfl, ?_⟩; replace HO_5 := Aside0.mk (Kd.R_below (sqR HO_5) hb); replace HO_7 := Aside0.mk (Kd.R_below (sqR HO_7) hb); replace BK308 := sqk BK308 hb; replace HB := sqb hb HB; (try clear hb); (try clear hb2); (try clear hk); (try clear hi)))
                 (try simp only [← hl7_3])
                 go_roundg k3
                 case measure => have := HK1.out; have := HK2.out; have := HK3.out; omega
                 case rel => exact ⟨(x7_3), (wrap64 (x8_2 + 1)), sqE, H', ⟨by have := HK1.out; have := HK2.out; have := HK3.out; omega⟩, ⟨by (try simp only [hl7_3]); (with_reducible repeat (first | apply Kd.R_alloc | apply Kd.R_drewN | apply Kd.R_drew)); exact HO_5.out⟩, ⟨by (try simp only [hl7_3]); (with_reducible repeat (first | apply Kd.R_alloc | apply Kd.R_drewN | apply Kd.R_drew)); exact HO_7.out⟩, ⟨by (try simp only [hl7_3]); (with_reducible repeat (first | refine blk_drewN ?_ _ | refine blk_drew ?_ | refine blk_alloc ?_ _)); exact BK308.out⟩, ⟨sqB HB⟩⟩
               ·rw [if_neg c32] at H
                exact absurd H (by simp)
              ·rw [if_neg c31] at H
               exact absurd H (by simp)
          ·replace c16 := Bool.eq_false_iff.mpr c16
           subst c16; rw [if_neg Bool.false_ne_true] at H; have H' := Aside0.mk H; clear H; have p14 : 0 ≤ (x8_2 : Int) := sqD; have q14 : (x8_2 : Int) < ((x7_2.length : Int) : Int) := sqD; obtain ⟨go14, co14, eo14, gb14, gl14, cl14, HG14⟩ := Kd.R_form HO_7.out (by omega)
           (first | cases eo14 | (injection eo14 with ea_ en_ ec_; (first | subst ea_ | (injection ea_ with ea_; subst ea_)); subst ec_; clear en_))
           have GB14 := Aside0.mk gb14; have GG14 := Aside0.mk HG14; clear gb14 gl14 HG14; obtain ⟨hx14_0, hf14_0⟩ := Kd.R_celln 0 HO_7.out (x8_2 : Int) p14 q14; replace p14 := eq_true p14; replace q14 := eq_true q14; have HP113 := Kd.R_putg HO_7.out (x8_2 : Int) (-1)
           go_wp2_with (first | ((with_reducible refine gate_store (t := 3) (p := 27) rfl ?_); refine store_event (t := 3) (p := 27) (v := ?vo_w114) (w1 := (wr.setCell ⟨go14, (x8_2 : Int).toNat, none⟩ (.int .i64 (-1)))) ?hg ?ho ?hn ?hr ?_; (case ho => rfl); (case hg => rfl); (case hn => rfl); (case hr => first | (go_simp; done) | (go_simp; rfl)); intro w114 hw; have hg : wr.grownBy w114 (some go14) := (by rw [hw]; exact HP113.2); have hp_ : Kd.R (Kd.int .i64) 3 w114 w.heap.size (fun k_ => some k_ ≠ (u5 : Value).ownBlock) (.slice (some ⟨go14, 0, none⟩) x7_2.length co14) y315 := (by rw [hw, Ny315.out]; exact HP113.1); clear HP113; replace HO_5 := Aside0.mk (Kd.R_after (v := (.slice (some ⟨go14, 0, none⟩) x7_2.length co14)) (v1 := (.slice (some ⟨go14, 0, none⟩) x7_2.length co14)) (ok := (fun _ => True)) (by (with_reducible repeat (first | apply Kd.R_alloc | apply Kd.R_drewN | apply Kd.R_drew)); exact Kd.R_mono HO_5.out (fun _ hk => ⟨trivial, hk⟩)) hg (.inl rfl)); replace BK308 := Aside0.mk (blk_grown (g := gb308) (o := .cells #[.slice A0_0 l0_0.length c0_0, .slice A0_1 l0_1.length c0_1] 25 (0, 0)) (sqK BK308) hg (Kd.R_ne HO_7.out BK308.out (by decide))); replace HO_7 := Aside0.mk (hp_); replace HB := Aside0.mk (by rw [hw]; exact below_set (HB.out) GB14.out : Below w.heap.size w w114); clear hg hw hp_; have hcz115_0 := sqc0 BK308; have hcz115_1 := sqc1 BK308; have hfz115_0 := blk_frozen BK308.out 0; have hfz115_1 := blk_frozen BK308.out 1) | ((with_reducible refine gate_callee (f := 64) rfl ?_); refine goesL_ (some 31) rfl rfl Tryd.func64 sqF rfl #[.agg #[.slice A0_0 l0_0.length c0_0, .slice A0_1 l0_1.length c0_1], .int .i64 x6_1, .int .i64 x8_2] rfl sqM ?_; (with_reducible refine (rf_Fits.calls k2 _ _ l0_0 _ _ l0_1 x6_1 x8_2 false _ ?side1 ?side2 ?side3 ?side4 A15.out).mono ?_); (case side1 => exact sqQ HR0_0 HB); (case side2 => exact HC0_0.out); (case side3 => exact sqQ HR0_1 HB); (case side4 => exact HC0_1.out); rintro e w116 ⟨rfl, hb⟩; refine ⟨_, rfl, ?_⟩; replace HO_5 := Aside0.mk (Kd.R_below (sqR HO_5) hb); replace HO_7 := Aside0.mk (Kd.R_below (sqR HO_7) hb); replace BK308 := sqk BK308 hb; replace HB := sqb hb HB; (try clear hb); (try clear hb2); (try clear hk); (try clear hi)))
           go_roundg k2
           case measure => have := HK1.out; have := HK2.out; omega
           case rel => exact ⟨(y315), (wrap64 (x8_2 + 1)), sqE, H', ⟨by have := HK1.out; have := HK2.out; omega⟩, ⟨by (with_reducible repeat (first | apply Kd.R_alloc | apply Kd.R_drewN | apply Kd.R_drew)); exact Kd.R_mono HO_5.out (fun _ hk => hk.2)⟩, ⟨sqR HO_7⟩, ⟨sqK BK308⟩, ⟨sqB HB⟩⟩
         ·rw [if_neg c13] at H
          exact absurd H (by simp)
        ·rw [if_neg c12] at H
         exact absurd H (by simp)
       ·rw [if_neg c11] at H
        have c11b0 : decide (x8_2 ≤ 400) = false := decide_eq_false c11; clear c11; have H' := Aside0.mk H; clear H; go_wp2
        go_roundg k2
        case measure => have := HK1.out; have := HK2.out; omega
        case rel => exact ⟨(x7_2), (wrap64 (x6_1 - 1)), sqE, H', ⟨by have := HK1.out; have := HK2.out; omega⟩, ⟨by (with_reducible repeat (first | apply Kd.R_alloc | apply Kd.R_drewN | apply Kd.R_drew)); exact Kd.R_mono HO_7.out (fun _ hk => trivial)⟩, ⟨sqK BK308⟩, ⟨sqB HB⟩⟩
    ·rw [if_neg c8] at H
     exact absurd H (by simp)
   ·rw [if_neg c7] at H
    have c7b0 : decide (0 ≤ x6_1) = false := decide_eq_false c7; clear c7; obtain rfl := Option.some.inj H
    go_wp2
    go_ret
    exact ⟨_, by first | rfl | (simp [errW_none, errW_some] <;> rfl) | (simp [*, errW_none, errW_some] <;> rfl), by (with_reducible repeat (first | apply Kd.R_alloc | apply Kd.R_drewN | apply Kd.R_drew)); exact HO_5.out, sqB HB⟩
end Go.Proofs.YtemingmeidmjkaaDoor.Q
