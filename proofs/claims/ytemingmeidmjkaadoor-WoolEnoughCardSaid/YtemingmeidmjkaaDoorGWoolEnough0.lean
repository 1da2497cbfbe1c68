/- Functions printed by the kit's printer over these walks, and the plain law. No condition. -/
import Derived.Test.YtemingmeidmjkaaDoorX0
import Derived.Test.YtemingmeidmjkaaDoorX3
import Derived.Test.YtemingmeidmjkaaDoorX1
import Derived.Test.YtemingmeidmjkaaDoorX2
import Derived.WalkKit
import Derived.ProofKit
import Derived.OpenShut
import Derived.ShutString
import Derived.ChangeOld
import Derived.Below
import Derived.SizedLaws
import Derived.ChangeArms
import Derived.WideShapes
import Derived.Carry
set_option linter.unusedVariables false
set_option linter.unusedSimpArgs false
namespace Go.Proofs.YtemingmeidmjkaaDoor.Q
open Go.RowKit Go.Proofs.YtemingmeidmjkaaDoorW.PrintWords Go.Proofs.YtemingmeidmjkaaDoorW.PrintLast Go.Proofs.YtemingmeidmjkaaDoorW.PrintMore
attribute [local go_sem] max2_int min2_int max_two min_two max_three min_three max_four min_four   -- for this text's walks alone
set_option linter.unusedVariables false
set_option linter.unusedSimpArgs false
def lw_known.f  : Option (Bool) := some true
theorem lw_known.calls  (r : Bool) (w : World) (hG : GL w) (h : lw_known.f  = some r) :
  Calls Tryd.prog 17 #[] w fun e w' => e = .returned (.bool r) ∧ Below w.heap.size w w' := by
 unfold lw_known.f at h
 obtain rfl := Option.some.inj h; exact known_ w hG
end Go.Proofs.YtemingmeidmjkaaDoor.Q
namespace Go.Proofs.YtemingmeidmjkaaDoor.Q
open Go.RowKit Go.Proofs.YtemingmeidmjkaaDoorW.PrintWords Go.Proofs.YtemingmeidmjkaaDoorW.PrintLast Go.Proofs.YtemingmeidmjkaaDoorW.PrintMore
attribute [local go_sem] max2_int min2_int max_two min_two max_three min_three max_four min_four   -- for this text's walks alone
set_option linter.unusedVariables false
set_option linter.unusedSimpArgs false
def wool_Need.f (l0_0 : List (S41)) (l0_1 : List (S80)) (a1 : Int) : Option (Int × Int) := some (ndR (toSt l0_0) (toWg l0_1) a1, ndE (toSt l0_0) (toWg l0_1) a1)
theorem wool_Need.calls (A0_0 : Option Addr) (c0_0 : Nat) (l0_0 : List (S41)) (A0_1 : Option Addr) (c0_1 : Nat) (l0_1 : List (S80)) (a1 : Int) (r1 : Int) (r2 : Int) (w : World) (hr0_0 : Kd.C k41 w A0_0 l0_0.length l0_0) (hc0_0 : l0_0.length ≤ c0_0) (hr0_1 : Kd.C k80 w A0_1 l0_1.length l0_1) (hc0_1 : l0_1.length ≤ c0_1) (h : wool_Need.f l0_0 l0_1 a1 = some (r1, r2)) :
  Calls Tryd.prog 43 #[.agg #[.slice A0_0 l0_0.length c0_0, .slice A0_1 l0_1.length c0_1], .int .i64 a1] w fun e w' => e = .returned (.tuple #[.int .i64 r1, .int .i64 r2]) ∧ Below w.heap.size w w' := by
 simp only [wool_Need.f, Option.some.injEq, Prod.mk.injEq] at h; obtain ⟨rfl, rfl⟩ := h; have H := need_ A0_0 c0_0 (toSt l0_0) A0_1 c0_1 (toWg l0_1) a1 w (toSt_C hr0_0) (toSt_c hc0_0) (toWg_C hr0_1) (toWg_c hc0_1); rw [toSt_len, toWg_len] at H; exact H
end Go.Proofs.YtemingmeidmjkaaDoor.Q
namespace Go.Proofs.YtemingmeidmjkaaDoor.Q
open Go.RowKit Go.Proofs.YtemingmeidmjkaaDoorW.PrintWords Go.Proofs.YtemingmeidmjkaaDoorW.PrintLast Go.Proofs.YtemingmeidmjkaaDoorW.PrintMore
attribute [local go_sem] max2_int min2_int max_two min_two max_three min_three max_four min_four   -- for this text's walks alone
set_option linter.unusedVariables false
set_option linter.unusedSimpArgs false
def lw_span.f (a0 : Int) (a1 : Int) : Option (Int × Int) := some (a0, a1)
set_option maxHeartbeats 8000000 in
set_option maxRecDepth 100000 in
theorem lw_span.calls (a0 : Int) (a1 : Int) (r1 : Int) (r2 : Int) (w : World) (h : lw_span.f a0 a1 = some (r1, r2)) :
  Calls Tryd.prog 52 #[.int .i64 a0, .int .i64 a1] w fun e w' => e = .returned (.agg #[.int .i64 r1, .int .i64 r2]) ∧ Below w.heap.size w w' := by
 have hu41 := Tryd.underlying41; have HB := Aside0.mk (Below.refl w.heap.size w); have H : (some (a0, a1)) = some (r1, r2) := h; clear h; simp only [Option.some.injEq, Prod.mk.injEq] at H; obtain ⟨rfl, rfl⟩ := H
 go_enter Tryd.func52, Tryd.ntmps52
 go_wp2_with (first | ((with_reducible refine gate_dst (N := 4) rfl ?_); refine box_event ?hg (N := 4) ?hd (cs := #[.int .i64 0, .int .i64 0]) (t := 41) ?hr ?_; (case hd => rfl); (case hg => rfl); (case hr => first | (go_simp; done) | (go_simp; rfl)); intro gb601 hg w3 hbox hb; have BK601 := Aside0.mk (hbox); have GW601 := Aside0.mk (sqZ hg HB); have GE601 := Aside0.mk (sqZ hg HB); replace HB := sqb hb HB; clear hb hbox hg; have hcz4_0 := sqc0 BK601; have hcz4_1 := sqc1 BK601; have hfz4_0 := blk_frozen BK601.out 0; have hfz4_1 := blk_frozen BK601.out 1))
 refine bodyPost_ret (results_cell_row rfl _ _ gb601 41 #[.int .i64 a0, .int .i64 a1] (0, 0) _ rfl (by (with_reducible repeat (first | refine blk_drewN ?_ _ | refine blk_drew ?_ | refine blk_alloc ?_ _)); refine blk_put (cs := #[.int .i64 a0, .int .i64 0]) ?_ 1 _ rfl; (with_reducible repeat (first | refine blk_drewN ?_ _ | refine blk_drew ?_ | refine blk_alloc ?_ _)); refine blk_put (cs := #[.int .i64 0, .int .i64 0]) ?_ 0 _ rfl; (with_reducible repeat (first | refine blk_drewN ?_ _ | refine blk_drew ?_ | refine blk_alloc ?_ _)); exact BK601.out) Tryd.underlying41 rfl sqF) rfl ?_; exact ⟨by first | rfl | (simp [errW_none, errW_some] <;> rfl) | (simp [*, errW_none, errW_some] <;> rfl), sqB HB⟩
end Go.Proofs.YtemingmeidmjkaaDoor.Q
namespace Go.Proofs.YtemingmeidmjkaaDoor.Q
open Go.RowKit Go.Proofs.YtemingmeidmjkaaDoorW.PrintWords Go.Proofs.YtemingmeidmjkaaDoorW.PrintLast Go.Proofs.YtemingmeidmjkaaDoorW.PrintMore
attribute [local go_sem] max2_int min2_int max_two min_two max_three min_three max_four min_four   -- for this text's walks alone
set_option linter.unusedVariables false
set_option linter.unusedSimpArgs false
mutual
def lw_Cart_road.l0 : Nat → Int → List (S76) → Int → List Int → List (S136) → List (S41) → Option ((List (S41)) × (List (S80)))
 | 0, _, _, _, _, _, _ => none
 | k + 1, x4, x603000, x603001, x603002, x603003, x605000 => if x4 = 0 then (lw_Cart_road.j1 k x4 true x603000 x603001 x603002 x603003 x605000) else (if x4 < (x603000.length : Int) then (lw_Cart_road.j1 k x4 (decide (x4 < 4)) x603000 x603001 x603002 x603003 x605000) else (lw_Cart_road.j1 k x4 false x603000 x603001 x603002 x603003 x605000))
def lw_Cart_road.j1 : Nat → Int → Bool → List (S76) → Int → List Int → List (S136) → List (S41) → Option ((List (S41)) × (List (S80)))
 | 0, _, _, _, _, _, _, _ => none
 | k + 1, x4, x20, x603000, x603001, x603002, x603003, x605000 => if x20 = true then (if x4 < (x603000.length : Int) then (if 0 ≤ x4 then ((lw_span.f (Int.tmod (wrap64 ((rd_T76 x603000 x4).f0)) 200) (wrap64 ((Int.tmod (wrap64 ((rd_T76 x603000 x4).f0)) 200) + (Int.tmod (wrap64 ((rd_T76 x603000 x4).f1)) 100)))).bind fun bt607 => (if x605000.length < 8796093022208 then (lw_Cart_road.l0 k (wrap64 (x4 + 1)) x603000 x603001 x603002 x603003 (x605000 ++ [(⟨bt607.1, bt607.2⟩ : S41)])) else (none))) else (none)) else ((lw_span.f ((80 : Int) % 200) (((80 : Int) % 200) + ((30 : Int) % 100))).bind fun bt612 => (if x605000.length < 8796093022208 then (lw_Cart_road.l0 k (wrap64 (x4 + 1)) x603000 x603001 x603002 x603003 (x605000 ++ [(⟨bt612.1, bt612.2⟩ : S41)])) else (none)))) else (some (x605000, ([] : List (S80))))
end
def lw_Cart_road.f (k : Nat) (l0_0 : List (S76)) (a0_1 : Int) (l0_2 : List Int) (l0_3 : List (S136)) : Option ((List (S41)) × (List (S80))) := lw_Cart_road.l0 k 0 l0_0 a0_1 l0_2 l0_3 ([] : List (S41))
def lw_Cart_road.T9 : Bool × List (List Nat × List Nat) := (true, [([], []), ([0], [0]), ([], []), ([], []), ([], []), ([4], [4]), ([5], [5]), ([6], [6]), ([3, 7], [3, 7]), ([2, 8], [2, 8]), ([9], [9]), ([1, 10, 9], [1, 10]), ([0, 1, 2, 3, 4, 5, 6, 7, 8, 9, 10, 11], []), ([12, 11, 11, 0, 1, 2, 3, 4, 5, 6, 7, 8, 9, 10, 11], [11, 12])])
def lw_Cart_road.B9 : List Nat := [0, 1, 0, 0, 0, 16, 48, 112, 248, 508, 1020, 2047, 4095, 8191]
theorem lw_Cart_road.tab9 : rtab .any (opsOf Tryd.f45 9) = lw_Cart_road.T9 := by kernel_rfl
theorem lw_Cart_road.bits9 : waitsOk lw_Cart_road.T9.2 lw_Cart_road.B9 = true := by kernel_rfl
set_option maxHeartbeats 8000000 in
set_option maxRecDepth 100000 in
theorem lw_Cart_road.calls (k : Nat) (A0_0 : Option Addr) (c0_0 : Nat) (l0_0 : List (S76)) (a0_1 : Int) (A0_2 : Option Addr) (c0_2 : Nat) (l0_2 : List Int) (A0_3 : Option Addr) (c0_3 : Nat) (l0_3 : List (S136)) (r1 : List (S41)) (r2 : List (S80)) (w : World) (hr0_0 : Kd.C k76 w A0_0 l0_0.length l0_0) (hc0_0 : l0_0.length ≤ c0_0) (hr0_2 : Kd.C (Kd.int .u8) w A0_2 l0_2.length l0_2) (hc0_2 : l0_2.length ≤ c0_2) (hr0_3 : Kd.C k136 w A0_3 l0_3.length l0_3) (hc0_3 : l0_3.length ≤ c0_3) (h : lw_Cart_road.f k l0_0 a0_1 l0_2 l0_3 = some (r1, r2)) :
  Calls Tryd.prog 45 #[.agg #[.slice A0_0 l0_0.length c0_0, .int .u16 a0_1, .slice A0_2 l0_2.length c0_2, .slice A0_3 l0_3.length c0_3]] w fun e w' => ∃ v0_ v1_ : Value, e = .returned (.agg #[v0_, v1_]) ∧ Kd.R k41 41 w' w.heap.size (fun _ => True) v0_ r1 ∧ Kd.R k80 80 w' w.heap.size (fun _ => True) v1_ r2 ∧ Below w.heap.size w w' := by
 have hu69 := Tryd.underlying69; have hu25 := Tryd.underlying25; have hu76 := Tryd.underlying76; have HR0_0 := Aside0.mk hr0_0; have HC0_0 := Aside0.mk hc0_0; clear hr0_0 hc0_0; have HR0_2 := Aside0.mk hr0_2; have HC0_2 := Aside0.mk hc0_2; clear hr0_2 hc0_2; have HR0_3 := Aside0.mk hr0_3; have HC0_3 := Aside0.mk hc0_3; clear hr0_3 hc0_3; have HB := Aside0.mk (Below.refl w.heap.size w); have H : (lw_Cart_road.l0 k 0 l0_0 a0_1 l0_2 l0_3 ([] : List (S41))) = some (r1, r2) := h; clear h; have H' := Aside0.mk H; clear H; go_enter Tryd.func45, Tryd.ntmps45
 go_wp2_with (first | ((with_reducible refine gate_dst (N := 1) rfl ?_); (try (refine gate_guard (by rfl) ?_; dsimp only)); refine box_event ?hg (N := 1) ?hd (cs := #[.slice A0_0 l0_0.length c0_0, .int .u16 a0_1, .slice A0_2 l0_2.length c0_2, .slice A0_3 l0_3.length c0_3]) (t := 69) ?hr ?_; (case hd => rfl); (case hg => rfl); (case hr => first | (go_simp; done) | (go_simp; rfl)); intro gb602 hg w2 hbox hb; have BK602 := Aside0.mk (hbox); have GW602 := Aside0.mk (sqZ hg HB); have GE602 := Aside0.mk (sqZ hg HB); replace HB := sqb hb HB; clear hb hbox hg) | ((with_reducible refine gate_dst (N := 2) rfl ?_); (try (refine gate_guard (by rfl) ?_; dsimp only)); refine box_event ?hg (N := 2) ?hd (cs := #[.slice none 0 0, .slice none 0 0]) (t := 25) ?hr ?_; (case hd => rfl); (case hg => rfl); (case hr => first | (go_simp; done) | (go_simp; rfl)); intro gb603 hg w3 hbox hb; have BK603 := Aside0.mk (hbox); have GW603 := Aside0.mk (sqZ hg HB); have GE603 := Aside0.mk (sqZ hg HB); replace HB := sqb hb HB; have NB602_603 := Aside0.mk (sqL hg BK602); have NB603_602 := Aside0.mk (sqG hg BK602); replace BK602 := sqk BK602 hb; clear hb hbox hg) | ((with_reducible refine gate_dst (N := 3) rfl ?_); (try (refine gate_guard (by rfl) ?_; dsimp only)); refine box_event ?hg (N := 3) ?hd (cs := #[.slice none 0 0, .slice none 0 0]) (t := 25) ?hr ?_; (case hd => rfl); (case hg => rfl); (case hr => first | (go_simp; done) | (go_simp; rfl)); intro gb604 hg w4 hbox hb; have BK604 := Aside0.mk (hbox); have GW604 := Aside0.mk (sqZ hg HB); have GE604 := Aside0.mk (sqZ hg HB); replace HB := sqb hb HB; have NB602_604 := Aside0.mk (sqL hg BK602); have NB604_602 := Aside0.mk (sqG hg BK602); replace BK602 := sqk BK602 hb; have NB603_604 := Aside0.mk (sqL hg BK603); have NB604_603 := Aside0.mk (sqG hg BK603); replace BK603 := sqk BK603 hb; clear hb hbox hg; have hnb5 := NB604_602.out; have hnc5 := NB602_604.out; have hnb6 := NB604_603.out; have hnc6 := NB603_604.out; have hcz7_0 := sqc0 BK604; have hcz7_1 := sqc1 BK604; have hfz7_0 := blk_frozen BK604.out 0; have hfz7_1 := blk_frozen BK604.out 1))
 go_loopg [4] k (fun kq v4 w' => ∃ (x4_1 : Int) (x605000_1 : List (S41)) (u605000 : Value), v4 = .int .i64 x4_1 ∧ Aside0 (lw_Cart_road.l0 kq x4_1 l0_0 a0_1 l0_2 l0_3 x605000_1 = some (r1, r2)) ∧ Aside0 (kq ≤ k) ∧ Aside0 (Kd.R k41 41 w' w.heap.size (fun _ => True) u605000 x605000_1) ∧ Aside0 (w'.heap[gb602]? = some (.cells #[(.slice A0_0 l0_0.length c0_0), .int .u16 a0_1, (.slice A0_2 l0_2.length c0_2), (.slice A0_3 l0_3.length c0_3)] 69 (0, 0))) ∧ Aside0 (w'.heap[gb603]? = some (.cells #[(.slice none 0 0), (.slice none 0 0)] 25 (0, 0))) ∧ Aside0 (w'.heap[gb604]? = some (.cells #[u605000, (.slice none 0 0)] 25 (0, 0))) ∧ Aside0 (Below w.heap.size w w'))
 case atStart => exact ⟨(0), (([] : List (S41))), (.slice none 0 0), sqE, H', ⟨Nat.le_refl _⟩, ⟨by first | exact Kd.R_nil _ _ _ _ _ | exact Kd.N_nil _ _ _ _ _ | exact Kd.V_nil _ _ _ _ _ | exact Kd.Q_nil _ _ _ _ _ | exact Kd.S_nil _ _ _ _ _⟩, ⟨sqX⟩, ⟨sqX⟩, ⟨by (with_reducible repeat (first | refine blk_drewN ?_ _ | refine blk_drew ?_ | refine blk_alloc ?_ _)); refine blk_put (cs := #[.slice none 0 0, .slice none 0 0]) ?_ 1 _ rfl; (with_reducible repeat (first | refine blk_drewN ?_ _ | refine blk_drew ?_ | refine blk_alloc ?_ _)); refine blk_put (cs := #[.slice none 0 0, .slice none 0 0]) ?_ 0 _ rfl; (with_reducible repeat (first | refine blk_drewN ?_ _ | refine blk_drew ?_ | refine blk_alloc ?_ _)); exact BK604.out⟩, ⟨sqB HB⟩⟩
 case round =>
  clear H'; try clear hcz7_0
  (try clear hcz7_1); (try clear hfz7_0); (try clear hfz7_1); obtain ⟨x4_1, x605000_1, u605000, rfl, HA, HK1, HO_605000, BK602, BK603, BK604, HB⟩ := hrel
  cases gk with
  | zero => exact absurd HA.out (by simp [lw_Cart_road.l0])
  | succ k1 =>
   have H := HA.out; clear HA; simp only [lw_Cart_road.l0] at H; have HC8 := Aside0.mk H
   clear H; go_upto_region 3 with (fail)
   go_cut [20] (fun v20 wc => ∃ (kq : Nat) (x20_7 : Bool), v20 = .bool x20_7 ∧ Aside0 (lw_Cart_road.j1 kq x4_1 x20_7 l0_0 a0_1 l0_2 l0_3 x605000_1 = some (r1, r2)) ∧ Aside0 (kq ≤ k1) ∧ Aside0 (Kd.R k41 41 wc w.heap.size (fun _ => True) u605000 x605000_1) ∧ Aside0 (wc.heap[gb602]? = some (.cells #[(.slice A0_0 l0_0.length c0_0), .int .u16 a0_1, (.slice A0_2 l0_2.length c0_2), (.slice A0_3 l0_3.length c0_3)] 69 (0, 0))) ∧ Aside0 (wc.heap[gb603]? = some (.cells #[(.slice none 0 0), (.slice none 0 0)] 25 (0, 0))) ∧ Aside0 (wc.heap[gb604]? = some (.cells #[u605000, (.slice none 0 0)] 25 (0, 0))) ∧ Aside0 (Below w.heap.size w wc))
   case first =>
    have H := HC8.out; clear HC8
    by_cases c9 : x4_1 = 0
    ·rw [if_pos c9] at H
     have c9b0 : (x4_1 == 0) = true := beq_iff_eq.mpr c9; have c9b1 : (x4_1 != 0) = false := bne_eq_false_iff_eq.mpr c9; clear c9
     (first | rw [c9b0] | (simp only [i64_w, i32_w]; rw [c9b0]) | skip)
     have H' := Aside0.mk H; clear H; go_wp2
     go_meet
     case rel => exact ⟨_, (true), sqE, H', ⟨by have := HK1.out; first | omega | exact Nat.le_refl _⟩, ⟨sqR HO_605000⟩, ⟨sqK BK602⟩, ⟨sqK BK603⟩, ⟨sqK BK604⟩, ⟨sqB HB⟩⟩
    ·rw [if_neg c9] at H
     have c9b0 : (x4_1 == 0) = false := beq_eq_false_iff_ne.mpr c9; have c9b1 : (x4_1 != 0) = true := bne_iff_ne.mpr c9
     (first | rw [c9b0] | (simp only [i64_w, i32_w]; rw [c9b0]) | skip)
     by_cases c10 : x4_1 < (l0_0.length : Int)
     ·rw [if_pos c10] at H
      have c10b0 : decide (x4_1 < (l0_0.length : Int)) = true := decide_eq_true c10; clear c10; have H' := Aside0.mk H; clear H; have hnb11 := NB602_603.out; have hnc11 := NB603_602.out; have hnb12 := NB602_604.out; have hnc12 := NB604_602.out; have hcz13_0 := sqc0 BK602; have hcz13_1 := sqc1 BK602; have hcz13_2 := sqc2 BK602; have hcz13_3 : wr.cell? ⟨gb602, 3, none⟩ = some (.slice A0_3 l0_3.length c0_3) := (blk_cell BK602.out 3).trans rfl; have hfz13_0 := blk_frozen BK602.out 0; have hfz13_1 := blk_frozen BK602.out 1; have hfz13_2 := blk_frozen BK602.out 2; have hfz13_3 := blk_frozen BK602.out 3
      go_wp2
      go_meet
      case rel => exact ⟨_, (decide (x4_1 < 4)), sqE, H', ⟨by have := HK1.out; first | omega | exact Nat.le_refl _⟩, ⟨sqR HO_605000⟩, ⟨sqK BK602⟩, ⟨sqK BK603⟩, ⟨sqK BK604⟩, ⟨sqB HB⟩⟩
     ·rw [if_neg c10] at H
      have c10b0 : decide (x4_1 < (l0_0.length : Int)) = false := decide_eq_false c10; clear c10; have H' := Aside0.mk H; clear H; have hnb14 := NB602_603.out; have hnc14 := NB603_602.out; have hnb15 := NB602_604.out; have hnc15 := NB604_602.out; have hcz16_0 := sqc0 BK602; have hcz16_1 := sqc1 BK602; have hcz16_2 := sqc2 BK602; have hcz16_3 : wr.cell? ⟨gb602, 3, none⟩ = some (.slice A0_3 l0_3.length c0_3) := (blk_cell BK602.out 3).trans rfl; have hfz16_0 := blk_frozen BK602.out 0; have hfz16_1 := blk_frozen BK602.out 1; have hfz16_2 := blk_frozen BK602.out 2; have hfz16_3 := blk_frozen BK602.out 3
      go_wp2
      go_meet
      case rel => exact ⟨_, (false), sqE, H', ⟨by have := HK1.out; first | omega | exact Nat.le_refl _⟩, ⟨sqR HO_605000⟩, ⟨sqK BK602⟩, ⟨sqK BK603⟩, ⟨sqK BK604⟩, ⟨sqB HB⟩⟩
   case rest =>
    clear HC8; obtain ⟨kq, x20_7, rfl, HA, HJ7, HO_605000, BK602, BK603, BK604, HB⟩ := hcut
    cases kq with
    | zero => exact absurd HA.out (by simp [lw_Cart_road.j1])
    | succ kj7 =>
     have H := HA.out; clear HA; simp only [lw_Cart_road.j1] at H
     by_cases c17 : x20_7 = true
     ·subst c17
      rw [if_pos rfl] at H
      by_cases c18 : x4_1 < (l0_0.length : Int)
      ·rw [if_pos c18] at H
       have c18b0 : decide (x4_1 < (l0_0.length : Int)) = true := decide_eq_true c18; clear c18
       by_cases c19 : 0 ≤ x4_1
       ·rw [if_pos c19] at H
        have c19b0 : decide (0 ≤ x4_1) = true := decide_eq_true c19; clear c19; obtain ⟨⟨t607, t608⟩, A200, H⟩ := Option.bind_eq_some_iff.mp H; replace H : (if x605000_1.length < 8796093022208 then (lw_Cart_road.l0 kj7 (wrap64 (x4_1 + 1)) l0_0 a0_1 l0_2 l0_3 (x605000_1 ++ [(⟨t607, t608⟩ : S41)])) else (none)) = some (r1, r2) := H; have A20 := Aside0.mk A200; clear A200
        by_cases c21 : x605000_1.length < 8796093022208
        ·rw [if_pos c21] at H
         have LMc21 := Aside0.mk c21; clear c21; replace H : ∃ y_ : List (S41), y_ = (x605000_1 ++ [(⟨t607, t608⟩ : S41)]) ∧ (lw_Cart_road.l0 kj7 (wrap64 (x4_1 + 1)) l0_0 a0_1 l0_2 l0_3 y_) = some (r1, r2) := ⟨_, rfl, sqJ H⟩; obtain ⟨y609, hy609, H⟩ := H; have Ny609 := Aside0.mk hy609; clear hy609; have H' := Aside0.mk H
         clear H; try go_wp2_with (first | ((with_reducible refine gate_dst (N := 5) rfl ?_); (try (refine gate_guard (by rfl) ?_; dsimp only)); refine box_event ?hg (N := 5) ?hd (cs := #[.int .u8 0, .int .u8 0]) (t := 76) ?hr ?_; (case hd => rfl); (case hg => rfl); (case hr => first | (go_simp; done) | (go_simp; rfl)); intro gb605 hg w22 hbox hb; replace HO_605000 := Aside0.mk (Kd.R_below (sqR HO_605000) hb); have BK605 := Aside0.mk (hbox); have GW605 := Aside0.mk (sqZ hg HB); have GE605 := Aside0.mk (sqZ hg HB); replace HB := sqb hb HB; have NB602_605 := Aside0.mk (sqL hg BK602); have NB605_602 := Aside0.mk (sqG hg BK602); replace BK602 := sqk BK602 hb; have NB603_605 := Aside0.mk (sqL hg BK603); have NB605_603 := Aside0.mk (sqG hg BK603); replace BK603 := sqk BK603 hb; have NB604_605 := Aside0.mk (sqL hg BK604); have NB605_604 := Aside0.mk (sqG hg BK604); replace BK604 := sqk BK604 hb; clear hb hbox hg; have hnb23 := NB605_602.out; have hnc23 := NB602_605.out; have hnb24 := NB605_603.out; have hnc24 := NB603_605.out; have hnb25 := NB605_604.out; have hnc25 := NB604_605.out; have hcz26_0 := sqc0 BK605; have hcz26_1 := sqc1 BK605; have hfz26_0 := blk_frozen BK605.out 0; have hfz26_1 := blk_frozen BK605.out 1; have hnb27 := NB602_603.out; have hnc27 := NB603_602.out; have hnb28 := NB602_604.out; have hnc28 := NB604_602.out; have hcz29_0 := sqc0 BK602; have hcz29_1 := sqc1 BK602; have hcz29_2 := sqc2 BK602; have hcz29_3 : w22.cell? ⟨gb602, 3, none⟩ = some (.slice A0_3 l0_3.length c0_3) := (blk_cell BK602.out 3).trans rfl; have hfz29_0 := blk_frozen BK602.out 0; have hfz29_1 := blk_frozen BK602.out 1; have hfz29_2 := blk_frozen BK602.out 2; have hfz29_3 := blk_frozen BK602.out 3; have p606 : 0 ≤ (x4_1 : Int) := sqD; have q606 : x4_1 < (l0_0.length : Int) := sqD; obtain ⟨ad606, e606, hx606_0, hx606_1⟩ := at_T76 HR0_0.out x4_1 p606 q606; cases e606; have hn606_0 : ad606.block ≠ gb605 := Nat.ne_of_lt (Nat.lt_of_lt_of_le (by have := World.block_lt_of_cell? _ _ hx606_0; first | rwa [add_block] at this | exact this) GW605.out); have hn606_1 : ad606.block ≠ gb605 := Nat.ne_of_lt (Nat.lt_of_lt_of_le (by have := World.block_lt_of_cell? _ _ hx606_0; first | rwa [add_block] at this | exact this) GW605.out); replace hx606_0 := (HB.out.cell (World.block_lt_of_cell? w _ hx606_0)).trans hx606_0; replace hx606_1 := (HB.out.cell (World.block_lt_of_cell? w _ hx606_1)).trans hx606_1; replace hx606_0 := (cell_far (p := ⟨gb605, 0, none⟩) (by first | (rw [add_block]; exact hn606_0) | (show (Addr.add _ _).block ≠ _; rw [add_block]; exact hn606_0) | exact hn606_0) (.int .u8 80)).trans hx606_0; replace hx606_1 := (cell_far (p := ⟨gb605, 0, none⟩) (by first | (rw [add_block]; exact hn606_0) | (show (Addr.add _ _).block ≠ _; rw [add_block]; exact hn606_0) | exact hn606_0) (.int .u8 80)).trans hx606_1; replace hx606_0 := (cell_far (p := ⟨gb605, 1, none⟩) (by first | (rw [add_block]; exact hn606_1) | (show (Addr.add _ _).block ≠ _; rw [add_block]; exact hn606_1) | exact hn606_1) (.int .u8 30)).trans hx606_0; replace hx606_1 := (cell_far (p := ⟨gb605, 1, none⟩) (by first | (rw [add_block]; exact hn606_1) | (show (Addr.add _ _).block ≠ _; rw [add_block]; exact hn606_1) | exact hn606_1) (.int .u8 30)).trans hx606_1; clear hn606_0; clear hn606_1; replace p606 := eq_true p606; replace q606 := eq_true q606))
         have n0_ : Aside0 (Kd.R k41 41 ((((w22.setCell ⟨gb605, 0, none⟩ (.int .u8 80)).setCell ⟨gb605, 1, none⟩ (.int .u8 30)).setCell ⟨gb605, 0, none⟩ (.int .u8 ((rd_T76 l0_0 x4_1).f0))).setCell ⟨gb605, 1, none⟩ (.int .u8 ((rd_T76 l0_0 x4_1).f1))) w.heap.size (fun _ => True) u605000 x605000_1) := ⟨by (with_reducible repeat (first | apply Kd.R_alloc | apply Kd.R_drewN | apply Kd.R_drew)); exact Kd.R_mono (Kd.R_far (p := ⟨gb605, 1, none⟩) (Kd.R_far (p := ⟨gb605, 0, none⟩) (Kd.R_far (p := ⟨gb605, 1, none⟩) (Kd.R_far (p := ⟨gb605, 0, none⟩) (Kd.R_types HO_605000.out BK605.out (by decide)) (fun _ hk => hk.2) (.int .u8 80)) (fun _ hk => hk.2) (.int .u8 30)) (fun _ hk => hk.2) (.int .u8 ((rd_T76 l0_0 x4_1).f0))) (fun _ hk => hk.2) (.int .u8 ((rd_T76 l0_0 x4_1).f1))) (fun _ hk => trivial)⟩; have n1_ : Aside0 (((((w22.setCell ⟨gb605, 0, none⟩ (.int .u8 80)).setCell ⟨gb605, 1, none⟩ (.int .u8 30)).setCell ⟨gb605, 0, none⟩ (.int .u8 ((rd_T76 l0_0 x4_1).f0))).setCell ⟨gb605, 1, none⟩ (.int .u8 ((rd_T76 l0_0 x4_1).f1))).heap[gb602]? = some (.cells #[.slice (some ad606) l0_0.length c0_0, .int .u16 a0_1, .slice A0_2 l0_2.length c0_2, .slice A0_3 l0_3.length c0_3] 69 (0, 0))) := ⟨sqX⟩; have n2_ : Aside0 (((((w22.setCell ⟨gb605, 0, none⟩ (.int .u8 80)).setCell ⟨gb605, 1, none⟩ (.int .u8 30)).setCell ⟨gb605, 0, none⟩ (.int .u8 ((rd_T76 l0_0 x4_1).f0))).setCell ⟨gb605, 1, none⟩ (.int .u8 ((rd_T76 l0_0 x4_1).f1))).heap[gb603]? = some (.cells #[.slice none 0 0, .slice none 0 0] 25 (0, 0))) := ⟨sqX⟩; have n3_ : Aside0 (((((w22.setCell ⟨gb605, 0, none⟩ (.int .u8 80)).setCell ⟨gb605, 1, none⟩ (.int .u8 30)).setCell ⟨gb605, 0, none⟩ (.int .u8 ((rd_T76 l0_0 x4_1).f0))).setCell ⟨gb605, 1, none⟩ (.int .u8 ((rd_T76 l0_0 x4_1).f1))).heap[gb604]? = some (.cells #[u605000, .slice none 0 0] 25 (0, 0))) := ⟨sqX⟩; have n4_ : Aside0 (((((w22.setCell ⟨gb605, 0, none⟩ (.int .u8 80)).setCell ⟨gb605, 1, none⟩ (.int .u8 30)).setCell ⟨gb605, 0, none⟩ (.int .u8 ((rd_T76 l0_0 x4_1).f0))).setCell ⟨gb605, 1, none⟩ (.int .u8 ((rd_T76 l0_0 x4_1).f1))).heap[gb605]? = some (.cells #[.int .u8 ((rd_T76 l0_0 x4_1).f0), .int .u8 ((rd_T76 l0_0 x4_1).f1)] 76 (0, 0))) := ⟨by (with_reducible repeat (first | refine blk_drewN ?_ _ | refine blk_drew ?_ | refine blk_alloc ?_ _)); refine blk_put (cs := #[.int .u8 ((rd_T76 l0_0 x4_1).f0), .int .u8 30]) ?_ 1 _ rfl; (with_reducible repeat (first | refine blk_drewN ?_ _ | refine blk_drew ?_ | refine blk_alloc ?_ _)); refine blk_put (cs := #[.int .u8 80, .int .u8 30]) ?_ 0 _ rfl; (with_reducible repeat (first | refine blk_drewN ?_ _ | refine blk_drew ?_ | refine blk_alloc ?_ _)); refine blk_put (cs := #[.int .u8 80, .int .u8 0]) ?_ 1 _ rfl; (with_reducible repeat (first | refine blk_drewN ?_ _ | refine blk_drew ?_ | refine blk_alloc ?_ _)); refine blk_put (cs := #[.int .u8 0, .int .u8 0]) ?_ 0 _ rfl; (with_reducible repeat (first | refine blk_drewN ?_ _ | refine blk_drew ?_ | refine blk_alloc ?_ _)); exact BK605.out⟩; have n5_ : Aside0 (Below w.heap.size w ((((w22.setCell ⟨gb605, 0, none⟩ (.int .u8 80)).setCell ⟨gb605, 1, none⟩ (.int .u8 30)).setCell ⟨gb605, 0, none⟩ (.int .u8 ((rd_T76 l0_0 x4_1).f0))).setCell ⟨gb605, 1, none⟩ (.int .u8 ((rd_T76 l0_0 x4_1).f1)))) := ⟨sqB HB⟩
         (try clear HO_605000); (try clear BK602); (try clear BK603); (try clear BK604); (try clear BK605); (try clear HB)
         generalize ((((w22.setCell ⟨gb605, 0, none⟩ (.int .u8 80)).setCell ⟨gb605, 1, none⟩ (.int .u8 30)).setCell ⟨gb605, 0, none⟩ (.int .u8 ((rd_T76 l0_0 x4_1).f0))).setCell ⟨gb605, 1, none⟩ (.int .u8 ((rd_T76 l0_0 x4_1).f1))) = w30 at n0_ n1_ n2_ n3_ n4_ n5_ ⊢
         have HO_605000 := n0_; have BK602 := n1_; have BK603 := n2_; have BK604 := n3_; have BK605 := n4_; have HB := n5_; clear n0_ n1_ n2_ n3_ n4_ n5_; have n0_ := Aside0.mk (Kd.R_drew HO_605000.out); have n1_ := Aside0.mk (blk_drew BK602.out); have n2_ := Aside0.mk (blk_drew BK603.out); have n3_ := Aside0.mk (blk_drew BK604.out); have n4_ := Aside0.mk (blk_drew BK605.out); have n5_ := Aside0.mk (below_drew1 HB.out); clear HO_605000 BK602 BK603 BK604 BK605 HB; have HO_605000 := n0_; have BK602 := n1_; have BK603 := n2_; have BK604 := n3_; have BK605 := n4_; have HB := n5_; clear n0_ n1_ n2_ n3_ n4_ n5_; refine start_ (n := 14) (S := fun w' => w'.cell? ⟨gb604, 0, none⟩ = some (u605000) ∧ w'.cell? ⟨gb604, 1, none⟩ = some (.slice none 0 0) ∧ w'.cell? ⟨gb605, 0, none⟩ = some (.int .u8 ((rd_T76 l0_0 x4_1).f0)) ∧ w'.cell? ⟨gb605, 1, none⟩ = some (.int .u8 ((rd_T76 l0_0 x4_1).f1))) (ds := [13]) (bm 14 0) sqF rfl rfl ⟨(blk_cell BK604.out 0).trans rfl, (blk_cell BK604.out 1).trans rfl, (blk_cell BK605.out 0).trans rfl, (blk_cell BK605.out 1).trans rfl⟩ (fun hHeld => ?_); refine with_tabW lw_Cart_road.tab9 lw_Cart_road.bits9 (fun HT_ HW_ => ?_)
         generalize w30.drew = w31 at HO_605000 BK602 BK603 BK604 BK605 HB hHeld ⊢
         refine pure_ (i := 0) (N := some 38) (v := ?_) (a' := ?_) (bm 14 1) rfl rfl (any_of HT_.out sqF) (fun _ _ _ h => h) (Or.inl ⟨by rfl, ?_⟩) ?_ ?_
         rotate_left
         ·intro w'
          go_simp; with_reducible rfl
         rotate_left
         ·simp only [Act.put, sqA, i64_w, i32_w]; rfl
         refine pure_ (i := 2) (N := some 40) (v := ?_) (a' := ?_) (bm 14 5) rfl rfl (any_of HT_.out sqF) (fun _ _ _ h => h) (Or.inl ⟨by rfl, ?_⟩) ?_ ?_
         rotate_left
         ·intro w'
          go_simp; with_reducible rfl
         rotate_left
         ·simp only [Act.put, sqA, i64_w, i32_w]; rfl
         refine pure_ (i := 3) (N := some 41) (v := ?_) (a' := ?_) (bm 14 13) rfl rfl (any_of HT_.out sqF) (fun _ _ _ h => h) (Or.inl ⟨by rfl, ?_⟩) ?_ ?_
         rotate_left
         ·intro w'
          go_simp; with_reducible rfl
         rotate_left
         ·simp only [Act.put, sqA, i64_w, i32_w]; rfl
         refine pure_ (i := 4) (N := some 42) (v := ?_) (a' := ?_) (bm 14 29) rfl rfl (any_of HT_.out sqF) (fun _ _ _ h => h) (Or.inl ⟨by rfl, ?_⟩) ?_ ?_
         rotate_left
         ·intro w'
          go_simp; with_reducible rfl
         rotate_left
         ·simp only [Act.put, sqA, i64_w, i32_w]; rfl
         refine take_ (i := 1) (N := some 39) (v := ?_) (a' := ?_) (bm 14 31) rfl rfl (take_ofW HT_.out HW_.out sqF) (fun _ _ _ h => h) (Or.inl ⟨by rfl, ?_⟩) hHeld ?_ ?_
         rotate_left
         ·rintro w' ⟨s0, s1, s2, s3⟩
          go_simp; with_reducible rfl
         rotate_left
         ·simp only [Act.put, sqA, i64_w, i32_w]; rfl
         refine take_ (i := 5) (N := some 43) (v := ?_) (a' := ?_) (bm 14 63) rfl rfl (take_ofW HT_.out HW_.out sqF) (fun _ _ _ h => h) (Or.inl ⟨by rfl, ?_⟩) hHeld ?_ ?_
         rotate_left
         ·rintro w' ⟨s0, s1, s2, s3⟩
          go_simp; with_reducible rfl
         rotate_left
         ·simp only [Act.put, sqA, i64_w, i32_w]; rfl
         refine pure_ (i := 6) (N := some 44) (v := ?_) (a' := ?_) (bm 14 127) rfl rfl (any_of HT_.out sqF) (fun _ _ _ h => h) (Or.inl ⟨by rfl, ?_⟩) ?_ ?_
         rotate_left
         ·intro w'
          go_simp; with_reducible rfl
         rotate_left
         ·simp only [Act.put, sqA, i64_w, i32_w]; rfl
         refine pure_ (i := 7) (N := some 45) (v := ?_) (a' := ?_) (bm 14 255) rfl rfl (any_of HT_.out sqF) (fun _ _ _ h => h) (Or.inl ⟨by rfl, ?_⟩) ?_ ?_
         rotate_left
         ·intro w'
          go_simp; with_reducible rfl
         rotate_left
         ·simp only [Act.put, sqA, i64_w, i32_w]; rfl
         refine pure_ (i := 8) (N := some 46) (v := ?_) (a' := ?_) (bm 14 511) rfl rfl (any_of HT_.out sqF) (fun _ _ _ h => h) (Or.inl ⟨by rfl, ?_⟩) ?_ ?_
         rotate_left
         ·intro w'
          go_simp; with_reducible rfl
         rotate_left
         ·simp only [Act.put, sqA, i64_w, i32_w]; rfl
         refine one_ (i := 9) (N := some 47) (bm 14 1023) rfl rfl (one_of HT_.out sqF) (by decide) (fun K hK => ?_); refine goes_ Tryd.func52 sqF rfl #[.int .i64 (Int.tmod (wrap64 ((rd_T76 l0_0 x4_1).f0)) 200), .int .i64 (wrap64 ((Int.tmod (wrap64 ((rd_T76 l0_0 x4_1).f0)) 200) + (Int.tmod (wrap64 ((rd_T76 l0_0 x4_1).f1)) 100)))] (by rfl) rfl rfl sqM ?_
         with_reducible refine (lw_span.calls (Int.tmod (wrap64 ((rd_T76 l0_0 x4_1).f0)) 200) (wrap64 ((Int.tmod (wrap64 ((rd_T76 l0_0 x4_1).f0)) 200) + (Int.tmod (wrap64 ((rd_T76 l0_0 x4_1).f1)) 100))) t607 t608 _ A20.out).mono ?_
         rintro e w32 ⟨rfl, hb⟩; refine ⟨_, rfl, ?_⟩; have n0_ := Aside0.mk (Kd.R_below (sqR HO_605000) hb); have n1_ := Aside0.mk (blk_below (g := gb602) (o := .cells #[.slice (some ad606) l0_0.length c0_0, .int .u16 a0_1, .slice A0_2 l0_2.length c0_2, .slice A0_3 l0_3.length c0_3] 69 (0, 0)) (sqK BK602) hb); have n2_ := Aside0.mk (blk_below (g := gb603) (o := .cells #[.slice none 0 0, .slice none 0 0] 25 (0, 0)) (sqK BK603) hb); have n3_ := Aside0.mk (blk_below (g := gb604) (o := .cells #[u605000, .slice none 0 0] 25 (0, 0)) (sqK BK604) hb); have n4_ := Aside0.mk (blk_below (g := gb605) (o := .cells #[.int .u8 ((rd_T76 l0_0 x4_1).f0), .int .u8 ((rd_T76 l0_0 x4_1).f1)] 76 (0, 0)) (sqK BK605) hb); have n5_ := Aside0.mk (below_step (sqB HB) hb); clear HO_605000 BK602 BK603 BK604 BK605 HB; have HO_605000 := n0_; have BK602 := n1_; have BK603 := n2_; have BK604 := n3_; have BK605 := n4_; have HB := n5_; clear n0_ n1_ n2_ n3_ n4_ n5_; (try clear hb); (try clear hb2); (try clear hk); (try clear hi); refine hK.out _ _ ⟨(blk_cell BK604.out 0).trans rfl, (blk_cell BK604.out 1).trans rfl, (blk_cell BK605.out 0).trans rfl, (blk_cell BK605.out 1).trans rfl⟩ (fun hHeld => ?_); clear hK K; refine norm_ (a' := ?_) ?_ ?_
         rotate_left
         ·show Act.put _ (some 47) _ = _
          simp only [Act.put, sqA, i64_w, i32_w]; rfl
         refine one_ (i := 10) (N := some 48) (bm 14 2047) rfl rfl (one_of HT_.out sqF) (by decide) (fun K hK => ?_); refine value_ (w1 := ?_) (v := ?_) (by rfl) rfl ?_ ?_
         rotate_left 2
         ·go_simp
          constructor
          ·rfl
          ·rfl
         refine hK.out _ _ ⟨(blk_cell (blk_alloc BK604.out _) 0).trans rfl, (blk_cell (blk_alloc BK604.out _) 1).trans rfl, (blk_cell (blk_alloc BK605.out _) 0).trans rfl, (blk_cell (blk_alloc BK605.out _) 1).trans rfl⟩ (fun hHeld => ?_); clear hK K; refine norm_ (a' := ?_) ?_ ?_
         rotate_left
         ·show Act.put _ (some 48) _ = _
          simp only [Act.put, sqA, i64_w, i32_w]; rfl
         refine one_ (i := 11) (N := some 49) (bm 14 4095) rfl rfl (one_of HT_.out sqF) (by decide) (fun K hK => ?_); refine Kd.R_append_step k41 (w0 := w) w.heap.size (by rfl) (.tmp 39) (.tmp 48) 22 41 (.agg #[(.int .i64 0), (.int .i64 0)]) 16 rfl Tryd.underlying22 info41 rfl (by decide) (by omega) u605000 x605000_1 (⟨t607, t608⟩ : S41) [.int .i64 t607, .int .i64 t608] (fun _ => True) (fun _ => False) rfl rfl ?aP (fun _ hk => hk.elim) ?aF ?aO ?aB ?aS ?aL ?_
         (case aP => exact k41_mkM _ _ _ (⟨t607, t608⟩ : S41))
         (case aB => exact (sqB HB))
         (case aF => exact (fun _ _ => trivial))
         (case aO => exact (sqR HO_605000))
         (case aS => exact (below_size (sqB HB)))
         (case aL => have := LMc21.out; omega)
         intro v610 w33 ho hb hg hat; rw [← Ny609.out] at ho; have n0_ := Aside0.mk (blk_grown (g := gb602) (o := .cells #[.slice (some ad606) l0_0.length c0_0, .int .u16 a0_1, .slice A0_2 l0_2.length c0_2, .slice A0_3 l0_3.length c0_3] 69 (0, 0)) (sqK BK602) hg (Kd.R_ne HO_605000.out BK602.out (by decide))); have n1_ := Aside0.mk (blk_grown (g := gb603) (o := .cells #[.slice none 0 0, .slice none 0 0] 25 (0, 0)) (sqK BK603) hg (Kd.R_ne HO_605000.out BK603.out (by decide))); have n2_ := Aside0.mk (blk_grown (g := gb604) (o := .cells #[u605000, .slice none 0 0] 25 (0, 0)) (sqK BK604) hg (Kd.R_ne HO_605000.out BK604.out (by decide))); have n3_ := Aside0.mk (blk_grown (g := gb605) (o := .cells #[.int .u8 ((rd_T76 l0_0 x4_1).f0), .int .u8 ((rd_T76 l0_0 x4_1).f1)] 76 (0, 0)) (sqK BK605) hg (Kd.R_ne HO_605000.out BK605.out (by decide))); have n4_ := Aside0.mk (hb); have n5_ := Aside0.mk (ho); clear BK602 BK603 BK604 BK605 HB HO_605000; have BK602 := n0_; have BK603 := n1_; have BK604 := n2_; have BK605 := n3_; have HB := n4_; have HO611 := n5_; clear n0_ n1_ n2_ n3_ n4_ n5_ ho hb hg hat; obtain ⟨Ao34, co34, eo34⟩ := Kd.R_slice HO611.out
         (first | subst eo34 | (injection eo34 with f1_ f2_ f3_; have f4_ := f1_.symm; have f5_ := f3_.symm; clear f1_ f2_ f3_; subst f4_; subst f5_))
         refine hK.out _ _ ⟨(blk_cell BK604.out 0).trans rfl, (blk_cell BK604.out 1).trans rfl, (blk_cell BK605.out 0).trans rfl, (blk_cell BK605.out 1).trans rfl⟩ (fun hHeld => ?_); clear hK K; refine norm_ (a' := ?_) ?_ ?_
         rotate_left
         ·show Act.put _ (some 49) _ = _
          simp only [Act.put, sqA, i64_w, i32_w]; rfl
         refine pure_ (i := 12) (N := some 50) (v := ?_) (a' := ?_) (bm 14 8191) rfl rfl (any_of HT_.out sqF) (fun _ _ _ h => h) (Or.inl ⟨by rfl, ?_⟩) ?_ ?_
         rotate_left
         ·intro w'
          go_simp; with_reducible rfl
         rotate_left
         ·simp only [Act.put, sqA, i64_w, i32_w]; rfl
         refine last_ (i := 13) (N := none) (bm 14 16383) rfl rfl (one_of HT_.out sqF) (by decide) (fun K hK => ?_); have hs35 : w33.cell? ⟨gb604, 0, none⟩ = some (u605000) := (blk_cell BK604.out 0).trans rfl; have hfs35 := blk_frozen BK604.out 0; have hns35_0 := NB602_604.out; have hns35_1 := NB603_604.out; have hns35_3 := NB605_604.out; have hms35_0 := NB604_602.out; have hms35_1 := NB604_603.out; have hms35_3 := NB604_605.out; refine skip_ (w1 := ?_) (by rfl) rfl ?_ ?_
         rotate_left
         ·go_simp
          rfl
         refine hK.out _ _ ?_; clear hK K; refine done_ (done_of HT_.out sqF) ?_
         try go_wp2
         go_roundg kj7
         case measure => have := HK1.out; have := HJ7.out; omega
         case rel => exact ⟨(wrap64 (x4_1 + 1)), (y609), (.slice Ao34 y609.length co34), sqE, H', ⟨by have := HK1.out; have := HJ7.out; omega⟩, ⟨by (with_reducible repeat (first | apply Kd.R_alloc | apply Kd.R_drewN | apply Kd.R_drew)); exact Kd.R_mono (Kd.R_far (p := ⟨gb604, 0, none⟩) (Kd.R_types HO611.out BK604.out (by decide)) (fun _ hk => hk.2) (.slice Ao34 y609.length co34)) (fun _ hk => trivial)⟩, ⟨sqX⟩, ⟨sqX⟩, ⟨by (with_reducible repeat (first | refine blk_drewN ?_ _ | refine blk_drew ?_ | refine blk_alloc ?_ _)); refine blk_put (cs := #[u605000, .slice none 0 0]) ?_ 0 _ rfl; (with_reducible repeat (first | refine blk_drewN ?_ _ | refine blk_drew ?_ | refine blk_alloc ?_ _)); exact BK604.out⟩, ⟨sqB HB⟩⟩
        ·rw [if_neg c21] at H
         exact absurd H (by simp)
       ·rw [if_neg c19] at H
        exact absurd H (by simp)
      ·rw [if_neg c18] at H
       have c18b0 : decide (x4_1 < (l0_0.length : Int)) = false := decide_eq_false c18; clear c18; obtain ⟨⟨t612, t613⟩, A360, H⟩ := Option.bind_eq_some_iff.mp H; replace H : (if x605000_1.length < 8796093022208 then (lw_Cart_road.l0 kj7 (wrap64 (x4_1 + 1)) l0_0 a0_1 l0_2 l0_3 (x605000_1 ++ [(⟨t612, t613⟩ : S41)])) else (none)) = some (r1, r2) := H; have A36 := Aside0.mk A360; clear A360
       by_cases c37 : x605000_1.length < 8796093022208
       ·rw [if_pos c37] at H
        have LMc37 := Aside0.mk c37; clear c37; replace H : ∃ y_ : List (S41), y_ = (x605000_1 ++ [(⟨t612, t613⟩ : S41)]) ∧ (lw_Cart_road.l0 kj7 (wrap64 (x4_1 + 1)) l0_0 a0_1 l0_2 l0_3 y_) = some (r1, r2) := ⟨_, rfl, sqJ H⟩; obtain ⟨y614, hy614, H⟩ := H; have Ny614 := Aside0.mk hy614; clear hy614; have H' := Aside0.mk H
        clear H; try go_wp2_with (first | ((with_reducible refine gate_dst (N := 5) rfl ?_); (try (refine gate_guard (by rfl) ?_; dsimp only)); refine box_event ?hg (N := 5) ?hd (cs := #[.int .u8 0, .int .u8 0]) (t := 76) ?hr ?_; (case hd => rfl); (case hg => rfl); (case hr => first | (go_simp; done) | (go_simp; rfl)); intro gb605 hg w38 hbox hb; replace HO_605000 := Aside0.mk (Kd.R_below (sqR HO_605000) hb); have BK605 := Aside0.mk (hbox); have GW605 := Aside0.mk (sqZ hg HB); have GE605 := Aside0.mk (sqZ hg HB); replace HB := sqb hb HB; have NB602_605 := Aside0.mk (sqL hg BK602); have NB605_602 := Aside0.mk (sqG hg BK602); replace BK602 := sqk BK602 hb; have NB603_605 := Aside0.mk (sqL hg BK603); have NB605_603 := Aside0.mk (sqG hg BK603); replace BK603 := sqk BK603 hb; have NB604_605 := Aside0.mk (sqL hg BK604); have NB605_604 := Aside0.mk (sqG hg BK604); replace BK604 := sqk BK604 hb; clear hb hbox hg; have hnb39 := NB605_602.out; have hnc39 := NB602_605.out; have hnb40 := NB605_603.out; have hnc40 := NB603_605.out; have hnb41 := NB605_604.out; have hnc41 := NB604_605.out; have hcz42_0 := sqc0 BK605; have hcz42_1 := sqc1 BK605; have hfz42_0 := blk_frozen BK605.out 0; have hfz42_1 := blk_frozen BK605.out 1; have hnb43 := NB602_603.out; have hnc43 := NB603_602.out; have hnb44 := NB602_604.out; have hnc44 := NB604_602.out; have hcz45_0 := sqc0 BK602; have hcz45_1 := sqc1 BK602; have hcz45_2 := sqc2 BK602; have hcz45_3 : w38.cell? ⟨gb602, 3, none⟩ = some (.slice A0_3 l0_3.length c0_3) := (blk_cell BK602.out 3).trans rfl; have hfz45_0 := blk_frozen BK602.out 0; have hfz45_1 := blk_frozen BK602.out 1; have hfz45_2 := blk_frozen BK602.out 2; have hfz45_3 := blk_frozen BK602.out 3))
        have n0_ : Aside0 (Kd.R k41 41 ((w38.setCell ⟨gb605, 0, none⟩ (.int .u8 80)).setCell ⟨gb605, 1, none⟩ (.int .u8 30)) w.heap.size (fun _ => True) u605000 x605000_1) := ⟨by (with_reducible repeat (first | apply Kd.R_alloc | apply Kd.R_drewN | apply Kd.R_drew)); exact Kd.R_mono (Kd.R_far (p := ⟨gb605, 1, none⟩) (Kd.R_far (p := ⟨gb605, 0, none⟩) (Kd.R_types HO_605000.out BK605.out (by decide)) (fun _ hk => hk.2) (.int .u8 80)) (fun _ hk => hk.2) (.int .u8 30)) (fun _ hk => trivial)⟩; have n1_ : Aside0 (((w38.setCell ⟨gb605, 0, none⟩ (.int .u8 80)).setCell ⟨gb605, 1, none⟩ (.int .u8 30)).heap[gb602]? = some (.cells #[.slice A0_0 l0_0.length c0_0, .int .u16 a0_1, .slice A0_2 l0_2.length c0_2, .slice A0_3 l0_3.length c0_3] 69 (0, 0))) := ⟨sqX⟩; have n2_ : Aside0 (((w38.setCell ⟨gb605, 0, none⟩ (.int .u8 80)).setCell ⟨gb605, 1, none⟩ (.int .u8 30)).heap[gb603]? = some (.cells #[.slice none 0 0, .slice none 0 0] 25 (0, 0))) := ⟨sqX⟩; have n3_ : Aside0 (((w38.setCell ⟨gb605, 0, none⟩ (.int .u8 80)).setCell ⟨gb605, 1, none⟩ (.int .u8 30)).heap[gb604]? = some (.cells #[u605000, .slice none 0 0] 25 (0, 0))) := ⟨sqX⟩; have n4_ : Aside0 (((w38.setCell ⟨gb605, 0, none⟩ (.int .u8 80)).setCell ⟨gb605, 1, none⟩ (.int .u8 30)).heap[gb605]? = some (.cells #[.int .u8 80, .int .u8 30] 76 (0, 0))) := ⟨by (with_reducible repeat (first | refine blk_drewN ?_ _ | refine blk_drew ?_ | refine blk_alloc ?_ _)); refine blk_put (cs := #[.int .u8 80, .int .u8 0]) ?_ 1 _ rfl; (with_reducible repeat (first | refine blk_drewN ?_ _ | refine blk_drew ?_ | refine blk_alloc ?_ _)); refine blk_put (cs := #[.int .u8 0, .int .u8 0]) ?_ 0 _ rfl; (with_reducible repeat (first | refine blk_drewN ?_ _ | refine blk_drew ?_ | refine blk_alloc ?_ _)); exact BK605.out⟩; have n5_ : Aside0 (Below w.heap.size w ((w38.setCell ⟨gb605, 0, none⟩ (.int .u8 80)).setCell ⟨gb605, 1, none⟩ (.int .u8 30))) := ⟨sqB HB⟩; (try clear HO_605000); (try clear BK602); (try clear BK603); (try clear BK604); (try clear BK605); (try clear HB)
        generalize ((w38.setCell ⟨gb605, 0, none⟩ (.int .u8 80)).setCell ⟨gb605, 1, none⟩ (.int .u8 30)) = w46 at n0_ n1_ n2_ n3_ n4_ n5_ ⊢
        have HO_605000 := n0_; have BK602 := n1_; have BK603 := n2_; have BK604 := n3_; have BK605 := n4_; have HB := n5_; clear n0_ n1_ n2_ n3_ n4_ n5_; have n0_ := Aside0.mk (Kd.R_drew HO_605000.out); have n1_ := Aside0.mk (blk_drew BK602.out); have n2_ := Aside0.mk (blk_drew BK603.out); have n3_ := Aside0.mk (blk_drew BK604.out); have n4_ := Aside0.mk (blk_drew BK605.out); have n5_ := Aside0.mk (below_drew1 HB.out); clear HO_605000 BK602 BK603 BK604 BK605 HB; have HO_605000 := n0_; have BK602 := n1_; have BK603 := n2_; have BK604 := n3_; have BK605 := n4_; have HB := n5_; clear n0_ n1_ n2_ n3_ n4_ n5_; refine start_ (n := 14) (S := fun w' => w'.cell? ⟨gb604, 0, none⟩ = some (u605000) ∧ w'.cell? ⟨gb604, 1, none⟩ = some (.slice none 0 0) ∧ w'.cell? ⟨gb605, 0, none⟩ = some (.int .u8 80) ∧ w'.cell? ⟨gb605, 1, none⟩ = some (.int .u8 30)) (ds := [13]) (bm 14 0) sqF rfl rfl ⟨(blk_cell BK604.out 0).trans rfl, (blk_cell BK604.out 1).trans rfl, (blk_cell BK605.out 0).trans rfl, (blk_cell BK605.out 1).trans rfl⟩ (fun hHeld => ?_); refine with_tabW lw_Cart_road.tab9 lw_Cart_road.bits9 (fun HT_ HW_ => ?_)
        generalize w46.drew = w47 at HO_605000 BK602 BK603 BK604 BK605 HB hHeld ⊢
        refine pure_ (i := 0) (N := some 38) (v := ?_) (a' := ?_) (bm 14 1) rfl rfl (any_of HT_.out sqF) (fun _ _ _ h => h) (Or.inl ⟨by rfl, ?_⟩) ?_ ?_
        rotate_left
        ·intro w'
         go_simp; with_reducible rfl
        rotate_left
        ·simp only [Act.put, sqA, i64_w, i32_w]; rfl
        refine pure_ (i := 2) (N := some 40) (v := ?_) (a' := ?_) (bm 14 5) rfl rfl (any_of HT_.out sqF) (fun _ _ _ h => h) (Or.inl ⟨by rfl, ?_⟩) ?_ ?_
        rotate_left
        ·intro w'
         go_simp; with_reducible rfl
        rotate_left
        ·simp only [Act.put, sqA, i64_w, i32_w]; rfl
        refine pure_ (i := 3) (N := some 41) (v := ?_) (a' := ?_) (bm 14 13) rfl rfl (any_of HT_.out sqF) (fun _ _ _ h => h) (Or.inl ⟨by rfl, ?_⟩) ?_ ?_
        rotate_left
        ·intro w'
         go_simp; with_reducible rfl
        rotate_left
        ·simp only [Act.put, sqA, i64_w, i32_w]; rfl
        refine pure_ (i := 4) (N := some 42) (v := ?_) (a' := ?_) (bm 14 29) rfl rfl (any_of HT_.out sqF) (fun _ _ _ h => h) (Or.inl ⟨by rfl, ?_⟩) ?_ ?_
        rotate_left
        ·intro w'
         go_simp; with_reducible rfl
        rotate_left
        ·simp only [Act.put, sqA, i64_w, i32_w]; rfl
        refine take_ (i := 1) (N := some 39) (v := ?_) (a' := ?_) (bm 14 31) rfl rfl (take_ofW HT_.out HW_.out sqF) (fun _ _ _ h => h) (Or.inl ⟨by rfl, ?_⟩) hHeld ?_ ?_
        rotate_left
        ·rintro w' ⟨s0, s1, s2, s3⟩
         go_simp; with_reducible rfl
        rotate_left
        ·simp only [Act.put, sqA, i64_w, i32_w]; rfl
        refine take_ (i := 5) (N := some 43) (v := ?_) (a' := ?_) (bm 14 63) rfl rfl (take_ofW HT_.out HW_.out sqF) (fun _ _ _ h => h) (Or.inl ⟨by rfl, ?_⟩) hHeld ?_ ?_
        rotate_left
        ·rintro w' ⟨s0, s1, s2, s3⟩
         go_simp; with_reducible rfl
        rotate_left
        ·simp only [Act.put, sqA, i64_w, i32_w]; rfl
        refine pure_ (i := 6) (N := some 44) (v := ?_) (a' := ?_) (bm 14 127) rfl rfl (any_of HT_.out sqF) (fun _ _ _ h => h) (Or.inl ⟨by rfl, ?_⟩) ?_ ?_
        rotate_left
        ·intro w'
         go_simp; with_reducible rfl
        rotate_left
        ·simp only [Act.put, sqA, i64_w, i32_w]; rfl
        refine pure_ (i := 7) (N := some 45) (v := ?_) (a' := ?_) (bm 14 255) rfl rfl (any_of HT_.out sqF) (fun _ _ _ h => h) (Or.inl ⟨by rfl, ?_⟩) ?_ ?_
        rotate_left
        ·intro w'
         go_simp; with_reducible rfl
        rotate_left
        ·simp only [Act.put, sqA, i64_w, i32_w]; rfl
        refine pure_ (i := 8) (N := some 46) (v := ?_) (a' := ?_) (bm 14 511) rfl rfl (any_of HT_.out sqF) (fun _ _ _ h => h) (Or.inl ⟨by rfl, ?_⟩) ?_ ?_
        rotate_left
        ·intro w'
         go_simp; with_reducible rfl
        rotate_left
        ·simp only [Act.put, sqA, i64_w, i32_w]; rfl
        refine one_ (i := 9) (N := some 47) (bm 14 1023) rfl rfl (one_of HT_.out sqF) (by decide) (fun K hK => ?_); refine goes_ Tryd.func52 sqF rfl #[.int .i64 ((80 : Int) % 200), .int .i64 (((80 : Int) % 200) + ((30 : Int) % 100))] (by rfl) rfl rfl (by (try simp only [List.map_toArray, List.map_cons, List.map_nil]); kernel_rfl) ?_
        with_reducible refine (lw_span.calls ((80 : Int) % 200) (((80 : Int) % 200) + ((30 : Int) % 100)) t612 t613 _ A36.out).mono ?_
        rintro e w48 ⟨rfl, hb⟩; refine ⟨_, rfl, ?_⟩; have n0_ := Aside0.mk (Kd.R_below (sqR HO_605000) hb); have n1_ := Aside0.mk (blk_below (g := gb602) (o := .cells #[.slice A0_0 l0_0.length c0_0, .int .u16 a0_1, .slice A0_2 l0_2.length c0_2, .slice A0_3 l0_3.length c0_3] 69 (0, 0)) (sqK BK602) hb); have n2_ := Aside0.mk (blk_below (g := gb603) (o := .cells #[.slice none 0 0, .slice none 0 0] 25 (0, 0)) (sqK BK603) hb); have n3_ := Aside0.mk (blk_below (g := gb604) (o := .cells #[u605000, .slice none 0 0] 25 (0, 0)) (sqK BK604) hb); have n4_ := Aside0.mk (blk_below (g := gb605) (o := .cells #[.int .u8 80, .int .u8 30] 76 (0, 0)) (sqK BK605) hb); have n5_ := Aside0.mk (below_step (sqB HB) hb); clear HO_605000 BK602 BK603 BK604 BK605 HB; have HO_605000 := n0_; have BK602 := n1_; have BK603 := n2_; have BK604 := n3_; have BK605 := n4_; have HB := n5_; clear n0_ n1_ n2_ n3_ n4_ n5_; (try clear hb); (try clear hb2); (try clear hk); (try clear hi); refine hK.out _ _ ⟨(blk_cell BK604.out 0).trans rfl, (blk_cell BK604.out 1).trans rfl, (blk_cell BK605.out 0).trans rfl, (blk_cell BK605.out 1).trans rfl⟩ (fun hHeld => ?_); clear hK K; refine norm_ (a' := ?_) ?_ ?_
        rotate_left
        ·show Act.put _ (some 47) _ = _
         simp only [Act.put, sqA, i64_w, i32_w]; rfl
        refine one_ (i := 10) (N := some 48) (bm 14 2047) rfl rfl (one_of HT_.out sqF) (by decide) (fun K hK => ?_); refine value_ (w1 := ?_) (v := ?_) (by rfl) rfl ?_ ?_
        rotate_left 2
        ·go_simp
         constructor
         ·rfl
         ·rfl
        refine hK.out _ _ ⟨(blk_cell (blk_alloc BK604.out _) 0).trans rfl, (blk_cell (blk_alloc BK604.out _) 1).trans rfl, (blk_cell (blk_alloc BK605.out _) 0).trans rfl, (blk_cell (blk_alloc BK605.out _) 1).trans rfl⟩ (fun hHeld => ?_); clear hK K; refine norm_ (a' := ?_) ?_ ?_
        rotate_left
        ·show Act.put _ (some 48) _ = _
         simp only [Act.put, sqA, i64_w, i32_w]; rfl
        refine one_ (i := 11) (N := some 49) (bm 14 4095) rfl rfl (one_of HT_.out sqF) (by decide) (fun K hK => ?_); refine Kd.R_append_step k41 (w0 := w) w.heap.size (by rfl) (.tmp 39) (.tmp 48) 22 41 (.agg #[(.int .i64 0), (.int .i64 0)]) 16 rfl Tryd.underlying22 info41 rfl (by decide) (by omega) u605000 x605000_1 (⟨t612, t613⟩ : S41) [.int .i64 t612, .int .i64 t613] (fun _ => True) (fun _ => False) rfl rfl ?aP (fun _ hk => hk.elim) ?aF ?aO ?aB ?aS ?aL ?_
        (case aP => exact k41_mkM _ _ _ (⟨t612, t613⟩ : S41))
        (case aB => exact (sqB HB))
        (case aF => exact (fun _ _ => trivial))
        (case aO => exact (sqR HO_605000))
        (case aS => exact (below_size (sqB HB)))
        (case aL => have := LMc37.out; omega)
        intro v615 w49 ho hb hg hat; rw [← Ny614.out] at ho; have n0_ := Aside0.mk (blk_grown (g := gb602) (o := .cells #[.slice A0_0 l0_0.length c0_0, .int .u16 a0_1, .slice A0_2 l0_2.length c0_2, .slice A0_3 l0_3.length c0_3] 69 (0, 0)) (sqK BK602) hg (Kd.R_ne HO_605000.out BK602.out (by decide))); have n1_ := Aside0.mk (blk_grown (g := gb603) (o := .cells #[.slice none 0 0, .slice none 0 0] 25 (0, 0)) (sqK BK603) hg (Kd.R_ne HO_605000.out BK603.out (by decide))); have n2_ := Aside0.mk (blk_grown (g := gb604) (o := .cells #[u605000, .slice none 0 0] 25 (0, 0)) (sqK BK604) hg (Kd.R_ne HO_605000.out BK604.out (by decide))); have n3_ := Aside0.mk (blk_grown (g := gb605) (o := .cells #[.int .u8 80, .int .u8 30] 76 (0, 0)) (sqK BK605) hg (Kd.R_ne HO_605000.out BK605.out (by decide))); have n4_ := Aside0.mk (hb); have n5_ := Aside0.mk (ho); clear BK602 BK603 BK604 BK605 HB HO_605000; have BK602 := n0_; have BK603 := n1_; have BK604 := n2_; have BK605 := n3_; have HB := n4_; have HO616 := n5_; clear n0_ n1_ n2_ n3_ n4_ n5_ ho hb hg hat; obtain ⟨Ao50, co50, eo50⟩ := Kd.R_slice HO616.out
        (first | subst eo50 | (injection eo50 with f1_ f2_ f3_; have f4_ := f1_.symm; have f5_ := f3_.symm; clear f1_ f2_ f3_; subst f4_; subst f5_))
        refine hK.out _ _ ⟨(blk_cell BK604.out 0).trans rfl, (blk_cell BK604.out 1).trans rfl, (blk_cell BK605.out 0).trans rfl, (blk_cell BK605.out 1).trans rfl⟩ (fun hHeld => ?_); clear hK K; refine norm_ (a' := ?_) ?_ ?_
        rotate_left
        ·show Act.put _ (some 49) _ = _
         simp only [Act.put, sqA, i64_w, i32_w]; rfl
        refine pure_ (i := 12) (N := some 50) (v := ?_) (a' := ?_) (bm 14 8191) rfl rfl (any_of HT_.out sqF) (fun _ _ _ h => h) (Or.inl ⟨by rfl, ?_⟩) ?_ ?_
        rotate_left
        ·intro w'
         go_simp; with_reducible rfl
        rotate_left
        ·simp only [Act.put, sqA, i64_w, i32_w]; rfl
        refine last_ (i := 13) (N := none) (bm 14 16383) rfl rfl (one_of HT_.out sqF) (by decide) (fun K hK => ?_); have hs51 : w49.cell? ⟨gb604, 0, none⟩ = some (u605000) := (blk_cell BK604.out 0).trans rfl; have hfs51 := blk_frozen BK604.out 0; have hns51_0 := NB602_604.out; have hns51_1 := NB603_604.out; have hns51_3 := NB605_604.out; have hms51_0 := NB604_602.out; have hms51_1 := NB604_603.out; have hms51_3 := NB604_605.out; refine skip_ (w1 := ?_) (by rfl) rfl ?_ ?_
        rotate_left
        ·go_simp
         rfl
        refine hK.out _ _ ?_; clear hK K; refine done_ (done_of HT_.out sqF) ?_
        try go_wp2
        go_roundg kj7
        case measure => have := HK1.out; have := HJ7.out; omega
        case rel => exact ⟨(wrap64 (x4_1 + 1)), (y614), (.slice Ao50 y614.length co50), sqE, H', ⟨by have := HK1.out; have := HJ7.out; omega⟩, ⟨by (with_reducible repeat (first | apply Kd.R_alloc | apply Kd.R_drewN | apply Kd.R_drew)); exact Kd.R_mono (Kd.R_far (p := ⟨gb604, 0, none⟩) (Kd.R_types HO616.out BK604.out (by decide)) (fun _ hk => hk.2) (.slice Ao50 y614.length co50)) (fun _ hk => trivial)⟩, ⟨sqX⟩, ⟨sqX⟩, ⟨by (with_reducible repeat (first | refine blk_drewN ?_ _ | refine blk_drew ?_ | refine blk_alloc ?_ _)); refine blk_put (cs := #[u605000, .slice none 0 0]) ?_ 0 _ rfl; (with_reducible repeat (first | refine blk_drewN ?_ _ | refine blk_drew ?_ | refine blk_alloc ?_ _)); exact BK604.out⟩, ⟨sqB HB⟩⟩
       ·rw [if_neg c37] at H
        exact absurd H (by simp)
     ·replace c17 := Bool.eq_false_iff.mpr c17
      subst c17; rw [if_neg Bool.false_ne_true] at H; simp only [Option.some.injEq, Prod.mk.injEq] at H; obtain ⟨rfl, rfl⟩ := H; have hnb52 := NB604_602.out; have hnc52 := NB602_604.out; have hnb53 := NB604_603.out; have hnc53 := NB603_604.out; have hcz54_0 := sqc0 BK604; have hcz54_1 := sqc1 BK604; have hfz54_0 := blk_frozen BK604.out 0; have hfz54_1 := blk_frozen BK604.out 1; obtain ⟨Ao55, co55, eo55⟩ := Kd.R_slice HO_605000.out; subst eo55; have hnb56 := NB603_602.out; have hnc56 := NB602_603.out; have hcz57_0 := sqc0 BK603; have hcz57_1 := sqc1 BK603; have hfz57_0 := blk_frozen BK603.out 0; have hfz57_1 := blk_frozen BK603.out 1
      go_wp2
      refine bodyPost_ret (results_cell_row rfl _ _ gb603 25 #[.slice Ao55 x605000_1.length co55, .slice none 0 0] (0, 0) _ rfl (by (with_reducible repeat (first | refine blk_drewN ?_ _ | refine blk_drew ?_ | refine blk_alloc ?_ _)); refine blk_put (cs := #[.slice Ao55 x605000_1.length co55, .slice none 0 0]) ?_ 1 _ rfl; (with_reducible repeat (first | refine blk_drewN ?_ _ | refine blk_drew ?_ | refine blk_alloc ?_ _)); refine blk_put (cs := #[.slice none 0 0, .slice none 0 0]) ?_ 0 _ rfl; (with_reducible repeat (first | refine blk_drewN ?_ _ | refine blk_drew ?_ | refine blk_alloc ?_ _)); exact BK603.out) Tryd.underlying25 rfl sqF) rfl ?_; exact ⟨_, _, by first | rfl | (simp [errW_none, errW_some] <;> rfl) | (simp [*, errW_none, errW_some] <;> rfl), by (with_reducible repeat (first | apply Kd.R_alloc | apply Kd.R_drewN | apply Kd.R_drew)); exact Kd.R_mono (Kd.R_far (p := ⟨gb603, 1, none⟩) (Kd.R_far (p := ⟨gb603, 0, none⟩) (Kd.R_types HO_605000.out BK603.out (by decide)) (fun _ hk => hk.2) (.slice Ao55 x605000_1.length co55)) (fun _ hk => hk.2) (.slice none 0 0)) (fun _ hk => trivial), by first | exact Kd.R_nil _ _ _ _ _ | exact Kd.N_nil _ _ _ _ _ | exact Kd.V_nil _ _ _ _ _ | exact Kd.Q_nil _ _ _ _ _ | exact Kd.S_nil _ _ _ _ _, sqB HB⟩
end Go.Proofs.YtemingmeidmjkaaDoor.Q
namespace Go.Proofs.YtemingmeidmjkaaDoor.Q
open Go.RowKit Go.Proofs.YtemingmeidmjkaaDoorW.PrintWords Go.Proofs.YtemingmeidmjkaaDoorW.PrintLast Go.Proofs.YtemingmeidmjkaaDoorW.PrintMore
attribute [local go_sem] max2_int min2_int max_two min_two max_three min_three max_four min_four   -- for this text's walks alone
set_option linter.unusedVariables false
set_option linter.unusedSimpArgs false
def lw_most.f (a0_0 : Int) (a0_1 : Int) (a1 : Int) : Option (Int) := some (wrap64 (Int.tdiv (wrap64 ((wrap64 (a1 * a0_1)) + 999)) 1000))
set_option maxHeartbeats 8000000 in
set_option maxRecDepth 100000 in
theorem lw_most.calls (a0_0 : Int) (a0_1 : Int) (a1 : Int) (r : Int) (w : World) (h : lw_most.f a0_0 a0_1 a1 = some r) :
  Calls Tryd.prog 53 #[.agg #[.int .i64 a0_0, .int .i64 a0_1], .int .i64 a1] w fun e w' => e = .returned (.int .i64 r) ∧ Below w.heap.size w w' := by
 have hu41 := Tryd.underlying41; have HB := Aside0.mk (Below.refl w.heap.size w); have H : (some (wrap64 (Int.tdiv (wrap64 ((wrap64 (a1 * a0_1)) + 999)) 1000))) = some r := h; clear h; obtain rfl := Option.some.inj H
 go_enter Tryd.func53, Tryd.ntmps53
 go_wp2_with (first | ((with_reducible refine gate_dst (N := 2) rfl ?_); refine box_event ?hg (N := 2) ?hd (cs := #[.int .i64 a0_0, .int .i64 a0_1]) (t := 41) ?hr ?_; (case hd => rfl); (case hg => rfl); (case hr => first | (go_simp; done) | (go_simp; rfl)); intro gb617 hg w3 hbox hb; have BK617 := Aside0.mk (hbox); have GW617 := Aside0.mk (sqZ hg HB); have GE617 := Aside0.mk (sqZ hg HB); replace HB := sqb hb HB; clear hb hbox hg; have hcz4_0 := sqc0 BK617; have hcz4_1 := sqc1 BK617; have hfz4_0 := blk_frozen BK617.out 0; have hfz4_1 := blk_frozen BK617.out 1))
 go_ret
 exact ⟨by first | rfl | (simp [errW_none, errW_some] <;> rfl) | (simp [*, errW_none, errW_some] <;> rfl), sqB HB⟩
def lw_least.f (a0_0 : Int) (a0_1 : Int) (a1 : Int) : Option (Int) := some (wrap64 (Int.tdiv (wrap64 (a1 * a0_0)) 1000))
set_option maxHeartbeats 8000000 in
set_option maxRecDepth 100000 in
theorem lw_least.calls (a0_0 : Int) (a0_1 : Int) (a1 : Int) (r : Int) (w : World) (h : lw_least.f a0_0 a0_1 a1 = some r) :
  Calls Tryd.prog 94 #[.agg #[.int .i64 a0_0, .int .i64 a0_1], .int .i64 a1] w fun e w' => e = .returned (.int .i64 r) ∧ Below w.heap.size w w' := by
 have hu41 := Tryd.underlying41; have HB := Aside0.mk (Below.refl w.heap.size w); have H : (some (wrap64 (Int.tdiv (wrap64 (a1 * a0_0)) 1000))) = some r := h; clear h; obtain rfl := Option.some.inj H
 go_enter Tryd.func94, Tryd.ntmps94
 go_wp2_with (first | ((with_reducible refine gate_dst (N := 2) rfl ?_); refine box_event ?hg (N := 2) ?hd (cs := #[.int .i64 a0_0, .int .i64 a0_1]) (t := 41) ?hr ?_; (case hd => rfl); (case hg => rfl); (case hr => first | (go_simp; done) | (go_simp; rfl)); intro gb618 hg w3 hbox hb; have BK618 := Aside0.mk (hbox); have GW618 := Aside0.mk (sqZ hg HB); have GE618 := Aside0.mk (sqZ hg HB); replace HB := sqb hb HB; clear hb hbox hg; have hcz4_0 := sqc0 BK618; have hcz4_1 := sqc1 BK618; have hfz4_0 := blk_frozen BK618.out 0; have hfz4_1 := blk_frozen BK618.out 1))
 go_ret
 exact ⟨by first | rfl | (simp [errW_none, errW_some] <;> rfl) | (simp [*, errW_none, errW_some] <;> rfl), sqB HB⟩
def lw_by.f (l0 : List Int) (a1 : Int) : Option (Int) := if (l0.length : Int) = 0 then (some 0) else (if 0 ≤ (Int.tmod a1 (l0.length : Int)) then (if (Int.tmod a1 (l0.length : Int)) < (l0.length : Int) then (some (wrap64 (rd l0 (Int.tmod a1 (l0.length : Int))))) else (none)) else (none))
set_option maxHeartbeats 8000000 in
set_option maxRecDepth 100000 in
theorem lw_by.calls (A0 : Option Addr) (c0 : Nat) (l0 : List Int) (a1 : Int) (r : Int) (w : World) (hr0 : Kd.C (Kd.int .u8) w A0 l0.length l0) (hc0 : l0.length ≤ c0) (h : lw_by.f l0 a1 = some r) :
  Calls Tryd.prog 95 #[.slice A0 l0.length c0, .int .i64 a1] w fun e w' => e = .returned (.int .i64 r) ∧ Drawn0 w w' := by
 have HR0 := Aside0.mk hr0; have HC0 := Aside0.mk hc0; clear hr0 hc0; have H : (if (l0.length : Int) = 0 then (some 0) else (if 0 ≤ (Int.tmod a1 (l0.length : Int)) then (if (Int.tmod a1 (l0.length : Int)) < (l0.length : Int) then (some (wrap64 (rd l0 (Int.tmod a1 (l0.length : Int))))) else (none)) else (none))) = some r := h; clear h
 by_cases c3 : (l0.length : Int) = 0
 ·rw [if_pos c3] at H
  have c3b0 : ((l0.length : Int) == 0) = true := beq_iff_eq.mpr c3; have c3b1 : ((l0.length : Int) != 0) = false := bne_eq_false_iff_eq.mpr c3; clear c3; obtain rfl := Option.some.inj H
  go_enter Tryd.func95, Tryd.ntmps95
  go_wp2
  go_ret
  exact ⟨by first | rfl | (simp; done) | (simp [*]; done), by repeat (first | exact Drawn0.refl _ | apply Drawn0.step)⟩
 ·rw [if_neg c3] at H
  have c3b0 : ((l0.length : Int) == 0) = false := beq_eq_false_iff_ne.mpr c3; have c3b1 : ((l0.length : Int) != 0) = true := bne_iff_ne.mpr c3
  have c3b2 : ¬ (l0 = []) := fun h_ => c3 (by rw [h_]; rfl)
  obtain ⟨ji4, hji4⟩ : ∃ j_ : Int, (Int.tmod a1 (l0.length : Int)) = j_ := ⟨_, rfl⟩
  replace H : (if 0 ≤ (ji4) then (if (ji4) < (l0.length : Int) then (some (wrap64 (rd l0 (ji4)))) else (none)) else (none)) = some r := by first | (rw [hji4] at H; exact H) | (simp only [hji4] at H ⊢; exact H)
  by_cases c5 : 0 ≤ (ji4)
  ·rw [if_pos c5] at H
   have c5b0 : decide (0 ≤ (ji4)) = true := decide_eq_true c5; clear c5
   by_cases c6 : (ji4) < (l0.length : Int)
   ·rw [if_pos c6] at H
    have c6b0 : decide ((ji4) < (l0.length : Int)) = true := decide_eq_true c6; clear c6; obtain rfl := Option.some.inj H; have p619 : 0 ≤ ((ji4) : Int) := sqD; have q619 : (ji4) < (l0.length : Int) := sqD; obtain ⟨ad619, e619, hx619_0⟩ := Kd.at_int HR0.out (ji4) p619 q619
    cases e619
    replace p619 := eq_true p619; replace q619 := eq_true q619
    go_enter Tryd.func95, Tryd.ntmps95
    go_wp2
    go_ret
    exact ⟨by first | rfl | (simp; done) | (simp only [← hji4] <;> (first | rfl | simp)) | (simp [*]; done), by repeat (first | exact Drawn0.refl _ | apply Drawn0.step)⟩
   ·rw [if_neg c6] at H
    exact absurd H (by simp)
  ·rw [if_neg c5] at H
   exact absurd H (by simp)
end Go.Proofs.YtemingmeidmjkaaDoor.Q
namespace Go.Proofs.YtemingmeidmjkaaDoor.Q
open Go.RowKit Go.Proofs.YtemingmeidmjkaaDoorW.PrintWords Go.Proofs.YtemingmeidmjkaaDoorW.PrintLast Go.Proofs.YtemingmeidmjkaaDoorW.PrintMore
attribute [local go_sem] max2_int min2_int max_two min_two max_three min_three max_four min_four   -- for this text's walks alone
set_option linter.unusedVariables false
set_option linter.unusedSimpArgs false
def lw_Cart_lived.l0 : Nat → Int → Int → List Int → List Int → Int → Int → Int → List (S76) → Int → List Int → List (S136) → List (S41) → List (S80) → Option (List Int × List Int × Int)
 | 0, _, _, _, _, _, _, _, _, _, _, _, _, _ => none
 | k + 1, x2, x3, x8, x9, x10, x11, x12, x621000, x621001, x621002, x621003, x622000, x622001 => if x12 < (x622000.length : Int) then (if 0 ≤ x12 then ((lw_least.f ((rd_T41 x622000 x12).f0) ((rd_T41 x622000 x12).f1) x11).bind fun t626 => ((lw_most.f ((rd_T41 x622000 x12).f0) ((rd_T41 x622000 x12).f1) x11).bind fun t628 => ((lw_by.f x621002 x12).bind fun t629 => (if x12 = x2 then (if x8.length < 17592186044416 then (if x9.length < 17592186044416 then (lw_Cart_lived.l0 k x2 x3 (x8 ++ [wrap64 ((wrap64 (x11 - (wrap64 (t626 + (wrap64 (Int.tdiv (wrap64 (t629 * (wrap64 (t628 - t626)))) 255)))))) - (mn (wrap64 (x11 - (wrap64 (t626 + (wrap64 (Int.tdiv (wrap64 (t629 * (wrap64 (t628 - t626)))) 255)))))) x3))]) (x9 ++ [wrap64 (t626 + (wrap64 (Int.tdiv (wrap64 (t629 * (wrap64 (t628 - t626)))) 255)))]) (mn (wrap64 (x11 - (wrap64 (t626 + (wrap64 (Int.tdiv (wrap64 (t629 * (wrap64 (t628 - t626)))) 255)))))) x3) (wrap64 ((wrap64 (x11 - (wrap64 (t626 + (wrap64 (Int.tdiv (wrap64 (t629 * (wrap64 (t628 - t626)))) 255)))))) - (mn (wrap64 (x11 - (wrap64 (t626 + (wrap64 (Int.tdiv (wrap64 (t629 * (wrap64 (t628 - t626)))) 255)))))) x3))) (wrap64 (x12 + 1)) x621000 x621001 x621002 x621003 x622000 x622001) else (none)) else (none)) else (if x8.length < 17592186044416 then (if x9.length < 17592186044416 then (lw_Cart_lived.l0 k x2 x3 (x8 ++ [wrap64 (x11 - (wrap64 (t626 + (wrap64 (Int.tdiv (wrap64 (t629 * (wrap64 (t628 - t626)))) 255)))))]) (x9 ++ [wrap64 (t626 + (wrap64 (Int.tdiv (wrap64 (t629 * (wrap64 (t628 - t626)))) 255)))]) x10 (wrap64 (x11 - (wrap64 (t626 + (wrap64 (Int.tdiv (wrap64 (t629 * (wrap64 (t628 - t626)))) 255)))))) (wrap64 (x12 + 1)) x621000 x621001 x621002 x621003 x622000 x622001) else (none)) else (none)))))) else (none)) else (some (x8, x9, x10))
def lw_Cart_lived.f (k : Nat) (l0_0 : List (S76)) (a0_1 : Int) (l0_2 : List Int) (l0_3 : List (S136)) (l1_0 : List (S41)) (l1_1 : List (S80)) (a2 : Int) (a3 : Int) : Option (List Int × List Int × Int) := lw_Cart_lived.l0 k a2 a3 (([Int.tmod (wrap64 (a0_1)) 401] : List Int)) ([] : List Int) 0 (Int.tmod (wrap64 (a0_1)) 401) 0 l0_0 a0_1 l0_2 l0_3 l1_0 l1_1
def lw_Cart_lived.T6 : Bool × List (List Nat × List Nat) := (true, [([], []), ([0], [0]), ([], []), ([1, 2], [1, 2]), ([3], [3]), ([], []), ([4, 5], [4, 5]), ([], []), ([7], [7]), ([], []), ([8, 9], [8, 9]), ([10], [10]), ([], []), ([11, 12, 6], [11, 12]), ([6, 13, 0, 1, 2, 3, 4, 5, 6], [6]), ([13, 14, 0, 1, 2, 3, 4, 5, 6, 7, 8, 9, 10, 11, 12, 13, 14], [13])])
def lw_Cart_lived.B6 : List Nat := [0, 1, 0, 7, 15, 0, 63, 0, 128, 0, 896, 1920, 0, 8191, 16383, 32767]
theorem lw_Cart_lived.tab6 : rtab .any (opsOf Tryd.f46 6) = lw_Cart_lived.T6 := by kernel_rfl
theorem lw_Cart_lived.bits6 : waitsOk lw_Cart_lived.T6.2 lw_Cart_lived.B6 = true := by kernel_rfl
set_option maxHeartbeats 8000000 in
set_option maxRecDepth 100000 in
theorem lw_Cart_lived.calls (k : Nat) (A0_0 : Option Addr) (c0_0 : Nat) (l0_0 : List (S76)) (a0_1 : Int) (A0_2 : Option Addr) (c0_2 : Nat) (l0_2 : List Int) (A0_3 : Option Addr) (c0_3 : Nat) (l0_3 : List (S136)) (A1_0 : Option Addr) (c1_0 : Nat) (l1_0 : List (S41)) (A1_1 : Option Addr) (c1_1 : Nat) (l1_1 : List (S80)) (a2 : Int) (a3 : Int) (r1 : List Int) (r2 : List Int) (r3 : Int) (w : World) (hr0_0 : Kd.C k76 w A0_0 l0_0.length l0_0) (hc0_0 : l0_0.length ≤ c0_0) (hr0_2 : Kd.C (Kd.int .u8) w A0_2 l0_2.length l0_2) (hc0_2 : l0_2.length ≤ c0_2) (hr0_3 : Kd.C k136 w A0_3 l0_3.length l0_3) (hc0_3 : l0_3.length ≤ c0_3) (hr1_0 : Kd.C k41 w A1_0 l1_0.length l1_0) (hc1_0 : l1_0.length ≤ c1_0) (hr1_1 : Kd.C k80 w A1_1 l1_1.length l1_1) (hc1_1 : l1_1.length ≤ c1_1) (h : lw_Cart_lived.f k l0_0 a0_1 l0_2 l0_3 l1_0 l1_1 a2 a3 = some (r1, r2, r3)) :
  Calls Tryd.prog 46 #[.agg #[.slice A0_0 l0_0.length c0_0, .int .u16 a0_1, .slice A0_2 l0_2.length c0_2, .slice A0_3 l0_3.length c0_3], .agg #[.slice A1_0 l1_0.length c1_0, .slice A1_1 l1_1.length c1_1], .int .i64 a2, .int .i64 a3] w fun e w' => ∃ v0_ v1_ : Value, e = .returned (.tuple #[v0_, v1_, .int .i64 r3]) ∧ Kd.R (Kd.int .i64) 3 w' w.heap.size (fun k_ => some k_ ≠ (v1_ : Value).ownBlock) v0_ r1 ∧ Kd.R (Kd.int .i64) 3 w' w.heap.size (fun k_ => some k_ ≠ (v0_ : Value).ownBlock) v1_ r2 ∧ Below w.heap.size w w' := by
 have hu69 := Tryd.underlying69; have hu25 := Tryd.underlying25; have hu41 := Tryd.underlying41; have HR0_0 := Aside0.mk hr0_0; have HC0_0 := Aside0.mk hc0_0; clear hr0_0 hc0_0; have HR0_2 := Aside0.mk hr0_2; have HC0_2 := Aside0.mk hc0_2; clear hr0_2 hc0_2; have HR0_3 := Aside0.mk hr0_3; have HC0_3 := Aside0.mk hc0_3; clear hr0_3 hc0_3; have HR1_0 := Aside0.mk hr1_0; have HC1_0 := Aside0.mk hc1_0; clear hr1_0 hc1_0; have HR1_1 := Aside0.mk hr1_1; have HC1_1 := Aside0.mk hc1_1; clear hr1_1 hc1_1; have HB := Aside0.mk (Below.refl w.heap.size w); have H : (lw_Cart_lived.l0 k a2 a3 (([Int.tmod (wrap64 (a0_1)) 401] : List Int)) ([] : List Int) 0 (Int.tmod (wrap64 (a0_1)) 401) 0 l0_0 a0_1 l0_2 l0_3 l1_0 l1_1) = some (r1, r2, r3) := h; clear h; replace H : ∃ y_ : List Int, y_ = (([Int.tmod (wrap64 (a0_1)) 401] : List Int)) ∧ (lw_Cart_lived.l0 k a2 a3 y_ ([] : List Int) 0 (Int.tmod (wrap64 (a0_1)) 401) 0 l0_0 a0_1 l0_2 l0_3 l1_0 l1_1) = some (r1, r2, r3) := ⟨_, rfl, sqJ H⟩; obtain ⟨y622, hy622, H⟩ := H; have Ny622 := Aside0.mk hy622; clear hy622; have H' := Aside0.mk H; clear H; go_enter Tryd.func46, Tryd.ntmps46
 go_wp2_with (first | ((with_reducible refine gate_dst (N := 4) rfl ?_); refine box_event ?hg (N := 4) ?hd (cs := #[.slice A0_0 l0_0.length c0_0, .int .u16 a0_1, .slice A0_2 l0_2.length c0_2, .slice A0_3 l0_3.length c0_3]) (t := 69) ?hr ?_; (case hd => rfl); (case hg => rfl); (case hr => first | (go_simp; done) | (go_simp; rfl)); intro gb620 hg w5 hbox hb; have BK620 := Aside0.mk (hbox); have GW620 := Aside0.mk (sqZ hg HB); have GE620 := Aside0.mk (sqZ hg HB); replace HB := sqb hb HB; clear hb hbox hg) | ((with_reducible refine gate_dst (N := 5) rfl ?_); refine box_event ?hg (N := 5) ?hd (cs := #[.slice A1_0 l1_0.length c1_0, .slice A1_1 l1_1.length c1_1]) (t := 25) ?hr ?_; (case hd => rfl); (case hg => rfl); (case hr => first | (go_simp; done) | (go_simp; rfl)); intro gb621 hg w6 hbox hb; have BK621 := Aside0.mk (hbox); have GW621 := Aside0.mk (sqZ hg HB); have GE621 := Aside0.mk (sqZ hg HB); replace HB := sqb hb HB; have NB620_621 := Aside0.mk (sqL hg BK620); have NB621_620 := Aside0.mk (sqG hg BK620); replace BK620 := sqk BK620 hb; clear hb hbox hg; have hnb7 := NB620_621.out; have hnc7 := NB621_620.out; have hcz8_0 := sqc0 BK620; have hcz8_1 := sqc1 BK620; have hcz8_2 := sqc2 BK620; have hcz8_3 : w6.cell? ⟨gb620, 3, none⟩ = some (.slice A0_3 l0_3.length c0_3) := (blk_cell BK620.out 3).trans rfl; have hfz8_0 := blk_frozen BK620.out 0; have hfz8_1 := blk_frozen BK620.out 1; have hfz8_2 := blk_frozen BK620.out 2; have hfz8_3 := blk_frozen BK620.out 3) | ((with_reducible refine gate_dst (N := 21) rfl ?_); refine Kd.R_lit (Kd.int .i64) _ 3 ?hg (N := 21) ?hd (xs := ([Int.tmod (wrap64 (a0_1)) 401] : List Int)) (inner := [.int .i64 (Int.tmod (wrap64 (a0_1)) 401)]) (ok := fun _ => True) (okp := fun _ => True) ?hr ?hp (fun _ hk => hk) trivial (Below.refl _ _) (Nat.le_refl _) (by simp) ?_; (case hd => rfl); (case hg => rfl); (case hr => first | (go_simp; done) | (go_simp; rfl)); (case hp => exact (Reps.one (show Kd.M (Kd.int .i64) _ _ _ (Int.tmod (wrap64 (a0_1)) 401) [.int .i64 (Int.tmod (wrap64 (a0_1)) 401)] from rfl) (Reps.none _ _))); intro v623 w9 ho10 hb hg_ hnew_; clear hg_ hnew_; (first | rw [← Ny622.out] at ho10 | (simp only [Int.reduceToNat] at ho10; rw [← Ny622.out] at ho10)); have HO624 := Aside0.mk (Kd.R_lower ho10 (below_size (sqB HB))); replace BK620 := sqk BK620 hb; replace BK621 := sqk BK621 hb; replace HB := sqb hb HB; clear hb ho10))
 go_loopg [8, 9, 10, 11, 12] k (fun kq v8 v9 v10 v11 v12 w' => ∃ (x8_1 : List Int) (x9_1 : List Int) (x10_1 : Int) (x11_1 : Int) (x12_1 : Int), v10 = .int .i64 x10_1 ∧ v11 = .int .i64 x11_1 ∧ v12 = .int .i64 x12_1 ∧ Aside0 (lw_Cart_lived.l0 kq a2 a3 x8_1 x9_1 x10_1 x11_1 x12_1 l0_0 a0_1 l0_2 l0_3 l1_0 l1_1 = some (r1, r2, r3)) ∧ Aside0 (kq ≤ k) ∧ Aside0 (Kd.R (Kd.int .i64) 3 w' w.heap.size (fun k_ => some k_ ≠ (v9 : Value).ownBlock) v8 x8_1) ∧ Aside0 (Kd.R (Kd.int .i64) 3 w' w.heap.size (fun k_ => some k_ ≠ (v8 : Value).ownBlock) v9 x9_1) ∧ Aside0 (w'.heap[gb620]? = some (.cells #[(.slice A0_0 l0_0.length c0_0), .int .u16 a0_1, (.slice A0_2 l0_2.length c0_2), (.slice A0_3 l0_3.length c0_3)] 69 (0, 0))) ∧ Aside0 (w'.heap[gb621]? = some (.cells #[(.slice A1_0 l1_0.length c1_0), (.slice A1_1 l1_1.length c1_1)] 25 (0, 0))) ∧ Aside0 (Below w.heap.size w w'))
 case atStart => exact ⟨(y622), (([] : List Int)), (0), (Int.tmod (wrap64 (a0_1)) 401), (0), sqE, sqE, sqE, H', ⟨Nat.le_refl _⟩, ⟨by (with_reducible repeat (first | apply Kd.R_alloc | apply Kd.R_drewN | apply Kd.R_drew)); exact Kd.R_mono HO624.out (fun _ hk => (by simp [Value.ownBlock]))⟩, ⟨by first | exact Kd.R_nil _ _ _ _ _ | exact Kd.N_nil _ _ _ _ _ | exact Kd.V_nil _ _ _ _ _ | exact Kd.Q_nil _ _ _ _ _ | exact Kd.S_nil _ _ _ _ _⟩, ⟨sqK BK620⟩, ⟨sqK BK621⟩, ⟨sqB HB⟩⟩
 case round =>
  clear H'; try clear hcz8_0
  (try clear hcz8_1); (try clear hcz8_2); (try clear hcz8_3); (try clear hfz8_0); (try clear hfz8_1); (try clear hfz8_2); (try clear hfz8_3); obtain ⟨x8_1, x9_1, x10_1, x11_1, x12_1, rfl, rfl, rfl, HA, HK1, HO_8, HO_9, BK620, BK621, HB⟩ := hrel
  cases gk with
  | zero => exact absurd HA.out (by simp [lw_Cart_lived.l0])
  | succ k1 =>
   have H := HA.out; clear HA; simp only [lw_Cart_lived.l0] at H
   by_cases c11 : x12_1 < (l1_0.length : Int)
   ·rw [if_pos c11] at H
    have c11b0 : decide (x12_1 < (l1_0.length : Int)) = true := decide_eq_true c11; clear c11
    by_cases c12 : 0 ≤ x12_1
    ·rw [if_pos c12] at H
     have c12b0 : decide (0 ≤ x12_1) = true := decide_eq_true c12; clear c12; obtain ⟨t626, A130, H⟩ := Option.bind_eq_some_iff.mp H; have A13 := Aside0.mk A130; clear A130; obtain ⟨t628, A140, H⟩ := Option.bind_eq_some_iff.mp H; have A14 := Aside0.mk A140; clear A140; obtain ⟨t629, A150, H⟩ := Option.bind_eq_some_iff.mp H; have A15 := Aside0.mk A150; clear A150
     by_cases c16 : x12_1 = a2
     ·rw [if_pos c16] at H
      have c16b0 : (x12_1 == a2) = true := beq_iff_eq.mpr c16; have c16b1 : (x12_1 != a2) = false := bne_eq_false_iff_eq.mpr c16; clear c16; obtain ⟨ji17, hji17⟩ : ∃ j_ : Int, (mn (wrap64 (x11_1 - (wrap64 (t626 + (wrap64 (Int.tdiv (wrap64 (t629 * (wrap64 (t628 - t626)))) 255)))))) a3) = j_ := ⟨_, rfl⟩
      replace H : (if x8_1.length < 17592186044416 then (if x9_1.length < 17592186044416 then (lw_Cart_lived.l0 k1 a2 a3 (x8_1 ++ [wrap64 ((wrap64 (x11_1 - (wrap64 (t626 + (wrap64 (Int.tdiv (wrap64 (t629 * (wrap64 (t628 - t626)))) 255)))))) - (ji17))]) (x9_1 ++ [wrap64 (t626 + (wrap64 (Int.tdiv (wrap64 (t629 * (wrap64 (t628 - t626)))) 255)))]) ji17 (wrap64 ((wrap64 (x11_1 - (wrap64 (t626 + (wrap64 (Int.tdiv (wrap64 (t629 * (wrap64 (t628 - t626)))) 255)))))) - (ji17))) (wrap64 (x12_1 + 1)) l0_0 a0_1 l0_2 l0_3 l1_0 l1_1) else (none)) else (none)) = some (r1, r2, r3) := by first | (rw [hji17] at H; exact H) | (simp only [hji17] at H ⊢; exact H)
      (try rw [hji17] at A13)
      (try rw [hji17] at A14)
      (try rw [hji17] at A15)
      have hji17_ : (if a3 < (wrap64 (x11_1 - (wrap64 (t626 + (wrap64 (Int.tdiv (wrap64 (t629 * (wrap64 (t628 - t626)))) 255)))))) then a3 else (wrap64 (x11_1 - (wrap64 (t626 + (wrap64 (Int.tdiv (wrap64 (t629 * (wrap64 (t628 - t626)))) 255))))))) = ji17 := hji17
      by_cases c18 : x8_1.length < 17592186044416
      ·rw [if_pos c18] at H
       have LMc18 := Aside0.mk c18; clear c18; replace H : ∃ y_ : List Int, y_ = (x8_1 ++ [wrap64 ((wrap64 (x11_1 - (wrap64 (t626 + (wrap64 (Int.tdiv (wrap64 (t629 * (wrap64 (t628 - t626)))) 255)))))) - (ji17))]) ∧ (if x9_1.length < 17592186044416 then (lw_Cart_lived.l0 k1 a2 a3 y_ (x9_1 ++ [wrap64 (t626 + (wrap64 (Int.tdiv (wrap64 (t629 * (wrap64 (t628 - t626)))) 255)))]) ji17 (wrap64 ((wrap64 (x11_1 - (wrap64 (t626 + (wrap64 (Int.tdiv (wrap64 (t629 * (wrap64 (t628 - t626)))) 255)))))) - (ji17))) (wrap64 (x12_1 + 1)) l0_0 a0_1 l0_2 l0_3 l1_0 l1_1) else (none)) = some (r1, r2, r3) := ⟨_, rfl, sqJ H⟩; obtain ⟨y630, hy630, H⟩ := H; have Ny630 := Aside0.mk hy630; clear hy630
       by_cases c19 : x9_1.length < 17592186044416
       ·rw [if_pos c19] at H
        have LMc19 := Aside0.mk c19; clear c19; replace H : ∃ y_ : List Int, y_ = (x9_1 ++ [wrap64 (t626 + (wrap64 (Int.tdiv (wrap64 (t629 * (wrap64 (t628 - t626)))) 255)))]) ∧ (lw_Cart_lived.l0 k1 a2 a3 y630 y_ ji17 (wrap64 ((wrap64 (x11_1 - (wrap64 (t626 + (wrap64 (Int.tdiv (wrap64 (t629 * (wrap64 (t628 - t626)))) 255)))))) - (ji17))) (wrap64 (x12_1 + 1)) l0_0 a0_1 l0_2 l0_3 l1_0 l1_1) = some (r1, r2, r3) := ⟨_, rfl, sqJ H⟩; obtain ⟨y633, hy633, H⟩ := H; have Ny633 := Aside0.mk hy633; clear hy633; have H' := Aside0.mk H; clear H; have hnb20 := NB621_620.out; have hnc20 := NB620_621.out; have hcz21_0 := sqc0 BK621; have hcz21_1 := sqc1 BK621; have hfz21_0 := blk_frozen BK621.out 0; have hfz21_1 := blk_frozen BK621.out 1
        try go_wp2
        have n0_ := Aside0.mk (Kd.R_drew HO_8.out); have n1_ := Aside0.mk (Kd.R_drew HO_9.out); have n2_ := Aside0.mk (blk_drew BK620.out); have n3_ := Aside0.mk (blk_drew BK621.out); have n4_ := Aside0.mk (below_drew1 HB.out); clear HO_8 HO_9 BK620 BK621 HB; have HO_8 := n0_; have HO_9 := n1_; have BK620 := n2_; have BK621 := n3_; have HB := n4_; clear n0_ n1_ n2_ n3_ n4_; have p625 : 0 ≤ (x12_1 : Int) := sqD; have q625 : x12_1 < (l1_0.length : Int) := sqD; obtain ⟨ad625, e625, hx625_0, hx625_1⟩ := at_T41 HR1_0.out x12_1 p625 q625; have hw625_1 := hx625_1; have hw625_0 := hx625_0
        cases e625
        replace hx625_0 := (HB.out.cell (World.block_lt_of_cell? w _ hx625_0)).trans hx625_0; replace hx625_1 := (HB.out.cell (World.block_lt_of_cell? w _ hx625_1)).trans hx625_1; replace p625 := eq_true p625; replace q625 := eq_true q625; have p627 : 0 ≤ (x12_1 : Int) := sqD; have q627 : x12_1 < (l1_0.length : Int) := sqD; obtain ⟨ad627, e627, hx627_0, hx627_1⟩ := at_T41 HR1_0.out x12_1 p627 q627; have hw627_1 := hx627_1; have hw627_0 := hx627_0; obtain rfl : ad625 = ad627 := (by injection e627); replace hx627_0 := (HB.out.cell (World.block_lt_of_cell? w _ hx627_0)).trans hx627_0; replace hx627_1 := (HB.out.cell (World.block_lt_of_cell? w _ hx627_1)).trans hx627_1; replace p627 := eq_true p627; replace q627 := eq_true q627; refine start_ (n := 16) (S := fun w' => w'.cell? ⟨gb621, 0, none⟩ = some (.slice (some ad625) l1_0.length c1_0) ∧ w'.cell? ⟨gb621, 1, none⟩ = some (.slice A1_1 l1_1.length c1_1) ∧ w'.cell? (ad625.add ((x12_1).toNat * 2)) = some (.int .i64 ((rd_T41 l1_0 x12_1).f0)) ∧ w'.cell? ⟨(ad625.add ((x12_1).toNat * 2)).block, (ad625.add ((x12_1).toNat * 2)).off + 1, none⟩ = some (.int .i64 ((rd_T41 l1_0 x12_1).f1)) ∧ w'.cell? (ad625.add ((x12_1).toNat * 2)) = some (.int .i64 ((rd_T41 l1_0 x12_1).f0)) ∧ w'.cell? ⟨(ad625.add ((x12_1).toNat * 2)).block, (ad625.add ((x12_1).toNat * 2)).off + 1, none⟩ = some (.int .i64 ((rd_T41 l1_0 x12_1).f1))) (ds := []) (bm 16 0) sqF rfl rfl ⟨(blk_cell BK621.out 0).trans rfl, (blk_cell BK621.out 1).trans rfl, ((HB.out.cell (World.block_lt_of_cell? w _ hw625_0)).trans hw625_0), ((HB.out.cell (World.block_lt_of_cell? w _ hw625_1)).trans hw625_1), ((HB.out.cell (World.block_lt_of_cell? w _ hw627_0)).trans hw627_0), ((HB.out.cell (World.block_lt_of_cell? w _ hw627_1)).trans hw627_1)⟩ (fun hHeld => ?_); refine with_tabW lw_Cart_lived.tab6 lw_Cart_lived.bits6 (fun HT_ HW_ => ?_)
        generalize wr.drew = w22 at HO_8 HO_9 BK620 BK621 HB hx625_0 hx625_1 hx627_0 hx627_1 hHeld ⊢
        refine pure_ (i := 0) (N := some 29) (v := ?_) (a' := ?_) (bm 16 1) rfl rfl (any_of HT_.out sqF) (fun _ _ _ h => h) (Or.inl ⟨by rfl, ?_⟩) ?_ ?_
        rotate_left
        ·intro w'
         go_simp; with_reducible rfl
        rotate_left
        ·simp only [Act.put, sqA, i64_w, i32_w]; rfl
        refine pure_ (i := 2) (N := some 31) (v := ?_) (a' := ?_) (bm 16 5) rfl rfl (any_of HT_.out sqF) (fun _ _ _ h => h) (Or.inl ⟨by rfl, ?_⟩) ?_ ?_
        rotate_left
        ·intro w'
         go_simp; with_reducible rfl
        rotate_left
        ·simp only [Act.put, sqA, i64_w, i32_w]; rfl
        refine pure_ (i := 5) (N := some 34) (v := ?_) (a' := ?_) (bm 16 37) rfl rfl (any_of HT_.out sqF) (fun _ _ _ h => h) (Or.inl ⟨by rfl, ?_⟩) ?_ ?_
        rotate_left
        ·intro w'
         go_simp; with_reducible rfl
        rotate_left
        ·simp only [Act.put, sqA, i64_w, i32_w]; rfl
        refine pure_ (i := 7) (N := some 36) (v := ?_) (a' := ?_) (bm 16 165) rfl rfl (any_of HT_.out sqF) (fun _ _ _ h => h) (Or.inl ⟨by rfl, ?_⟩) ?_ ?_
        rotate_left
        ·intro w'
         go_simp; with_reducible rfl
        rotate_left
        ·simp only [Act.put, sqA, i64_w, i32_w]; rfl
        refine pure_ (i := 9) (N := some 38) (v := ?_) (a' := ?_) (bm 16 677) rfl rfl (any_of HT_.out sqF) (fun _ _ _ h => h) (Or.inl ⟨by rfl, ?_⟩) ?_ ?_
        rotate_left
        ·intro w'
         go_simp; with_reducible rfl
        rotate_left
        ·simp only [Act.put, sqA, i64_w, i32_w]; rfl
        refine pure_ (i := 12) (N := some 41) (v := ?_) (a' := ?_) (bm 16 4773) rfl rfl (any_of HT_.out sqF) (fun _ _ _ h => h) (Or.inl ⟨by rfl, ?_⟩) ?_ ?_
        rotate_left
        ·intro w'
         go_simp; with_reducible rfl
        rotate_left
        ·simp only [Act.put, sqA, i64_w, i32_w]; rfl
        refine take_ (i := 1) (N := some 30) (v := ?_) (a' := ?_) (bm 16 4775) rfl rfl (take_ofW HT_.out HW_.out sqF) (fun _ _ _ h => h) (Or.inl ⟨by rfl, ?_⟩) hHeld ?_ ?_
        rotate_left
        ·rintro w' ⟨s0, s1, s2, s3, s4, s5⟩
         go_simp; with_reducible rfl
        rotate_left
        ·simp only [Act.put, sqA, i64_w, i32_w]; rfl
        refine pure_ (i := 3) (N := some 32) (v := ?_) (a' := ?_) (bm 16 4783) rfl rfl (any_of HT_.out sqF) (fun _ _ _ h => h) (Or.inl ⟨by rfl, ?_⟩) ?_ ?_
        rotate_left
        ·intro w'
         go_simp; with_reducible rfl
        rotate_left
        ·simp only [Act.put, sqA, i64_w, i32_w]; rfl
        refine take_ (i := 4) (N := some 33) (v := ?_) (a' := ?_) (bm 16 4799) rfl rfl (take_ofW HT_.out HW_.out sqF) (fun _ _ _ h => h) (Or.inl ⟨by rfl, ?_⟩) hHeld ?_ ?_
        rotate_left
        ·rintro w' ⟨s0, s1, s2, s3, s4, s5⟩
         go_simp; with_reducible rfl
        rotate_left
        ·simp only [Act.put, sqA, i64_w, i32_w]; rfl
        refine take_ (i := 8) (N := some 37) (v := ?_) (a' := ?_) (bm 16 5055) rfl rfl (take_ofW HT_.out HW_.out sqF) (fun _ _ _ h => h) (Or.inl ⟨by rfl, ?_⟩) hHeld ?_ ?_
        rotate_left
        ·rintro w' ⟨s0, s1, s2, s3, s4, s5⟩
         go_simp; with_reducible rfl
        rotate_left
        ·simp only [Act.put, sqA, i64_w, i32_w]; rfl
        refine pure_ (i := 10) (N := some 39) (v := ?_) (a' := ?_) (bm 16 6079) rfl rfl (any_of HT_.out sqF) (fun _ _ _ h => h) (Or.inl ⟨by rfl, ?_⟩) ?_ ?_
        rotate_left
        ·intro w'
         go_simp; with_reducible rfl
        rotate_left
        ·simp only [Act.put, sqA, i64_w, i32_w]; rfl
        refine take_ (i := 11) (N := some 40) (v := ?_) (a' := ?_) (bm 16 8127) rfl rfl (take_ofW HT_.out HW_.out sqF) (fun _ _ _ h => h) (Or.inl ⟨by rfl, ?_⟩) hHeld ?_ ?_
        rotate_left
        ·rintro w' ⟨s0, s1, s2, s3, s4, s5⟩
         go_simp; with_reducible rfl
        rotate_left
        ·simp only [Act.put, sqA, i64_w, i32_w]; rfl
        refine one_ (i := 6) (N := some 35) (bm 16 8191) rfl rfl (one_of HT_.out sqF) (by decide) (fun K hK => ?_); refine goes_ Tryd.func94 sqF rfl #[.agg #[.int .i64 ((rd_T41 l1_0 x12_1).f0), .int .i64 ((rd_T41 l1_0 x12_1).f1)], .int .i64 x11_1] (by rfl) rfl rfl sqM ?_
        with_reducible refine (lw_least.calls ((rd_T41 l1_0 x12_1).f0) ((rd_T41 l1_0 x12_1).f1) x11_1 t626 _ A13.out).mono ?_
        rintro e w23 ⟨rfl, hb⟩; refine ⟨_, rfl, ?_⟩; have n0_ := Aside0.mk (Kd.R_below (sqR HO_8) hb); have n1_ := Aside0.mk (Kd.R_below (sqR HO_9) hb); have n2_ := Aside0.mk (blk_below (g := gb620) (o := .cells #[.slice A0_0 l0_0.length c0_0, .int .u16 a0_1, .slice A0_2 l0_2.length c0_2, .slice A0_3 l0_3.length c0_3] 69 (0, 0)) (sqK BK620) hb); have n3_ := Aside0.mk (blk_below (g := gb621) (o := .cells #[.slice (some ad625) l1_0.length c1_0, .slice A1_1 l1_1.length c1_1] 25 (0, 0)) (sqK BK621) hb); have n4_ := Aside0.mk (below_step (sqB HB) hb); clear HO_8 HO_9 BK620 BK621 HB; have HO_8 := n0_; have HO_9 := n1_; have BK620 := n2_; have BK621 := n3_; have HB := n4_; clear n0_ n1_ n2_ n3_ n4_; (try clear hb); (try clear hb2); (try clear hk); (try clear hi); refine hK.out _ _ ⟨(blk_cell BK621.out 0).trans rfl, (blk_cell BK621.out 1).trans rfl, ((HB.out.cell (World.block_lt_of_cell? w _ hw625_0)).trans hw625_0), ((HB.out.cell (World.block_lt_of_cell? w _ hw625_1)).trans hw625_1), ((HB.out.cell (World.block_lt_of_cell? w _ hw627_0)).trans hw627_0), ((HB.out.cell (World.block_lt_of_cell? w _ hw627_1)).trans hw627_1)⟩ (fun hHeld => ?_); clear hK K; refine norm_ (a' := ?_) ?_ ?_
        rotate_left
        ·show Act.put _ (some 35) _ = _
         simp only [Act.put, sqA, i64_w, i32_w]; rfl
        refine one_ (i := 13) (N := some 42) (bm 16 16383) rfl rfl (one_of HT_.out sqF) (by decide) (fun K hK => ?_); refine goes_ Tryd.func53 sqF rfl #[.agg #[.int .i64 ((rd_T41 l1_0 x12_1).f0), .int .i64 ((rd_T41 l1_0 x12_1).f1)], .int .i64 x11_1] (by rfl) rfl rfl sqM ?_
        with_reducible refine (lw_most.calls ((rd_T41 l1_0 x12_1).f0) ((rd_T41 l1_0 x12_1).f1) x11_1 t628 _ A14.out).mono ?_
        rintro e w24 ⟨rfl, hb⟩; refine ⟨_, rfl, ?_⟩; have n0_ := Aside0.mk (Kd.R_below (sqR HO_8) hb); have n1_ := Aside0.mk (Kd.R_below (sqR HO_9) hb); have n2_ := Aside0.mk (blk_below (g := gb620) (o := .cells #[.slice A0_0 l0_0.length c0_0, .int .u16 a0_1, .slice A0_2 l0_2.length c0_2, .slice A0_3 l0_3.length c0_3] 69 (0, 0)) (sqK BK620) hb); have n3_ := Aside0.mk (blk_below (g := gb621) (o := .cells #[.slice (some ad625) l1_0.length c1_0, .slice A1_1 l1_1.length c1_1] 25 (0, 0)) (sqK BK621) hb); have n4_ := Aside0.mk (below_step (sqB HB) hb); clear HO_8 HO_9 BK620 BK621 HB; have HO_8 := n0_; have HO_9 := n1_; have BK620 := n2_; have BK621 := n3_; have HB := n4_; clear n0_ n1_ n2_ n3_ n4_; (try clear hb); (try clear hb2); (try clear hk); (try clear hi); refine hK.out _ _ ⟨(blk_cell BK621.out 0).trans rfl, (blk_cell BK621.out 1).trans rfl, ((HB.out.cell (World.block_lt_of_cell? w _ hw625_0)).trans hw625_0), ((HB.out.cell (World.block_lt_of_cell? w _ hw625_1)).trans hw625_1), ((HB.out.cell (World.block_lt_of_cell? w _ hw627_0)).trans hw627_0), ((HB.out.cell (World.block_lt_of_cell? w _ hw627_1)).trans hw627_1)⟩ (fun hHeld => ?_); clear hK K; refine norm_ (a' := ?_) ?_ ?_
        rotate_left
        ·show Act.put _ (some 42) _ = _
         simp only [Act.put, sqA, i64_w, i32_w]; rfl
        refine pure_ (i := 14) (N := some 13) (v := ?_) (a' := ?_) (bm 16 32767) rfl rfl (any_of HT_.out sqF) (fun _ _ _ h => h) (Or.inl ⟨by rfl, ?_⟩) ?_ ?_
        rotate_left
        ·intro w'
         go_simp; with_reducible rfl
        rotate_left
        ·simp only [Act.put, sqA, i64_w, i32_w]; rfl
        refine pure_ (i := 15) (N := some 14) (v := ?_) (a' := ?_) (bm 16 65535) rfl rfl (any_of HT_.out sqF) (fun _ _ _ h => h) (Or.inl ⟨by rfl, ?_⟩) ?_ ?_
        rotate_left
        ·intro w'
         go_simp; with_reducible rfl
        rotate_left
        ·simp only [Act.put, sqA, i64_w, i32_w]; rfl
        refine done_ (done_of HT_.out sqF) ?_; have hcz25_0 := sqc0 BK620; have hcz25_1 := sqc1 BK620; have hcz25_2 := sqc2 BK620; have hcz25_3 : w24.cell? ⟨gb620, 3, none⟩ = some (.slice A0_3 l0_3.length c0_3) := (blk_cell BK620.out 3).trans rfl; have hfz25_0 := blk_frozen BK620.out 0; have hfz25_1 := blk_frozen BK620.out 1; have hfz25_2 := blk_frozen BK620.out 2; have hfz25_3 := blk_frozen BK620.out 3
        try go_wp2_with (first | ((with_reducible refine gate_callee (f := 95) rfl ?_); refine goesL_ (some 47) rfl rfl Tryd.func95 sqF rfl #[.slice A0_2 l0_2.length c0_2, .int .i64 x12_1] rfl sqM ?_; (with_reducible refine (lw_by.calls _ _ l0_2 x12_1 t629 _ ?side1 ?side2 A15.out).mono ?_); (case side1 => exact sqQ HR0_2 HB); (case side2 => exact HC0_2.out); rintro e w' ⟨rfl, ⟨nd, rfl⟩⟩; refine ⟨_, rfl, ?_⟩) | ((with_reducible refine gate_builtin (b := .append) (xs := #[.tmp 66, .tmp 68]) rfl ?_); at_builtin; refine Kd.R_append (Kd.int .i64) (w0 := w) w.heap.size rfl (.tmp 66) (.tmp 68) 45 3 (.int .i64 0) 8 rfl Tryd.underlying45 info3 rfl (by decide) (by omega) u8 x8_1 (wrap64 ((wrap64 (x11_1 - (wrap64 (t626 + (wrap64 (Int.tdiv (wrap64 (t629 * (wrap64 (t628 - t626)))) 255)))))) - (ji17))) [.int .i64 (wrap64 ((wrap64 (x11_1 - (wrap64 (t626 + (wrap64 (Int.tdiv (wrap64 (t629 * (wrap64 (t628 - t626)))) 255)))))) - (ji17)))] (fun k_ => some k_ ≠ (u9 : Value).ownBlock) (fun _ => False) rfl rfl ?aP (fun _ hk => hk.elim) ?aF ?aO ?aB ?aS ?aL ?_; (case aP => exact rfl); (case aB => exact (sqB HB)); (case aF => exact (fun k_ hk => Kd.fresh' (Kd.R_lt (sqR HO_9)) k_ hk)); (case aO => exact (sqR HO_8)); (case aS => exact (below_size (sqB HB))); (case aL => have := LMc18.out; omega); intro v631 w26 ho hb hg hat; rw [← Ny630.out] at ho; replace HO_9 := Aside0.mk (Kd.R_after (ok := (fun _ => True)) (by (with_reducible repeat (first | apply Kd.R_alloc | apply Kd.R_drewN | apply Kd.R_drew)); exact Kd.R_mono HO_9.out (fun _ hk => ⟨trivial, hk⟩)) hg hat); replace BK620 := Aside0.mk (blk_grown (g := gb620) (o := .cells #[.slice A0_0 l0_0.length c0_0, .int .u16 a0_1, .slice A0_2 l0_2.length c0_2, .slice A0_3 l0_3.length c0_3] 69 (0, 0)) (sqK BK620) hg (Kd.R_ne HO_8.out BK620.out (by decide))); replace BK621 := Aside0.mk (blk_grown (g := gb621) (o := .cells #[.slice (some ad625) l1_0.length c1_0, .slice A1_1 l1_1.length c1_1] 25 (0, 0)) (sqK BK621) hg (Kd.R_ne HO_8.out BK621.out (by decide))); replace HB := Aside0.mk (hb); have HO632 := Aside0.mk (ho); clear HO_8; clear ho hb hg hat) | ((with_reducible refine gate_builtin (b := .append) (xs := #[.tmp 70, .tmp 72]) rfl ?_); at_builtin; refine Kd.R_append (Kd.int .i64) (w0 := w) w.heap.size rfl (.tmp 70) (.tmp 72) 45 3 (.int .i64 0) 8 rfl Tryd.underlying45 info3 rfl (by decide) (by omega) u9 x9_1 (wrap64 (t626 + (wrap64 (Int.tdiv (wrap64 (t629 * (wrap64 (t628 - t626)))) 255)))) [.int .i64 (wrap64 (t626 + (wrap64 (Int.tdiv (wrap64 (t629 * (wrap64 (t628 - t626)))) 255))))] (fun k_ => some k_ ≠ (v631 : Value).ownBlock) (fun _ => False) rfl rfl ?aP (fun _ hk => hk.elim) ?aF ?aO ?aB ?aS ?aL ?_; (case aP => exact rfl); (case aB => exact (sqB HB)); (case aF => exact (fun k_ hk => Kd.fresh' (Kd.R_lt (sqR HO632)) k_ hk)); (case aO => exact (by (with_reducible repeat (first | apply Kd.R_alloc | apply Kd.R_drewN | apply Kd.R_drew)); exact Kd.R_mono HO_9.out (fun _ hk => hk.2))); (case aS => exact (below_size (sqB HB))); (case aL => have := LMc19.out; omega); intro v634 w27 ho hb hg hat; rw [← Ny633.out] at ho; replace BK620 := Aside0.mk (blk_grown (g := gb620) (o := .cells #[.slice A0_0 l0_0.length c0_0, .int .u16 a0_1, .slice A0_2 l0_2.length c0_2, .slice A0_3 l0_3.length c0_3] 69 (0, 0)) (sqK BK620) hg (Kd.R_ne HO_9.out BK620.out (by decide))); replace BK621 := Aside0.mk (blk_grown (g := gb621) (o := .cells #[.slice (some ad625) l1_0.length c1_0, .slice A1_1 l1_1.length c1_1] 25 (0, 0)) (sqK BK621) hg (Kd.R_ne HO_9.out BK621.out (by decide))); replace HO632 := Aside0.mk (Kd.R_after (ok := (fun _ => True)) (by (with_reducible repeat (first | apply Kd.R_alloc | apply Kd.R_drewN | apply Kd.R_drew)); exact Kd.R_mono HO632.out (fun _ hk => ⟨trivial, hk⟩)) hg hat); replace HB := Aside0.mk (hb); have HO635 := Aside0.mk (ho); clear HO_9; clear ho hb hg hat))
        go_roundg k1
        case measure => have := HK1.out; omega
        case rel => exact ⟨(y630), (y633), (ji17), (wrap64 ((wrap64 (x11_1 - (wrap64 (t626 + (wrap64 (Int.tdiv (wrap64 (t629 * (wrap64 (t628 - t626)))) 255)))))) - (ji17))), (wrap64 (x12_1 + 1)), (by first | rfl | (simp; done) | (simp only [← hji17] <;> (first | rfl | simp)) | (simp [*]; done)), (by first | rfl | (simp; done) | (simp only [← hji17] <;> (first | rfl | simp)) | (simp [*]; done)), sqE, H', ⟨by have := HK1.out; omega⟩, ⟨by (with_reducible repeat (first | apply Kd.R_alloc | apply Kd.R_drewN | apply Kd.R_drew)); exact Kd.R_mono HO632.out (fun _ hk => hk.2)⟩, ⟨sqR HO635⟩, ⟨sqK BK620⟩, ⟨sqK BK621⟩, ⟨sqB HB⟩⟩
       ·rw [if_neg c19] at H
        exact absurd H (by simp)
      ·rw [if_neg c18] at H
       exact absurd H (by simp)
     ·rw [if_neg c16] at H
      have c16b0 : (x12_1 == a2) = false := beq_eq_false_iff_ne.mpr c16; have c16b1 : (x12_1 != a2) = true := bne_iff_ne.mpr c16
      by_cases c28 : x8_1.length < 17592186044416
      ·rw [if_pos c28] at H
       have LMc28 := Aside0.mk c28; clear c28; replace H : ∃ y_ : List Int, y_ = (x8_1 ++ [wrap64 (x11_1 - (wrap64 (t626 + (wrap64 (Int.tdiv (wrap64 (t629 * (wrap64 (t628 - t626)))) 255)))))]) ∧ (if x9_1.length < 17592186044416 then (lw_Cart_lived.l0 k1 a2 a3 y_ (x9_1 ++ [wrap64 (t626 + (wrap64 (Int.tdiv (wrap64 (t629 * (wrap64 (t628 - t626)))) 255)))]) x10_1 (wrap64 (x11_1 - (wrap64 (t626 + (wrap64 (Int.tdiv (wrap64 (t629 * (wrap64 (t628 - t626)))) 255)))))) (wrap64 (x12_1 + 1)) l0_0 a0_1 l0_2 l0_3 l1_0 l1_1) else (none)) = some (r1, r2, r3) := ⟨_, rfl, sqJ H⟩; obtain ⟨y636, hy636, H⟩ := H; have Ny636 := Aside0.mk hy636; clear hy636
       by_cases c29 : x9_1.length < 17592186044416
       ·rw [if_pos c29] at H
        have LMc29 := Aside0.mk c29; clear c29; replace H : ∃ y_ : List Int, y_ = (x9_1 ++ [wrap64 (t626 + (wrap64 (Int.tdiv (wrap64 (t629 * (wrap64 (t628 - t626)))) 255)))]) ∧ (lw_Cart_lived.l0 k1 a2 a3 y636 y_ x10_1 (wrap64 (x11_1 - (wrap64 (t626 + (wrap64 (Int.tdiv (wrap64 (t629 * (wrap64 (t628 - t626)))) 255)))))) (wrap64 (x12_1 + 1)) l0_0 a0_1 l0_2 l0_3 l1_0 l1_1) = some (r1, r2, r3) := ⟨_, rfl, sqJ H⟩; obtain ⟨y639, hy639, H⟩ := H; have Ny639 := Aside0.mk hy639; clear hy639; have H' := Aside0.mk H; clear H; have hnb30 := NB621_620.out; have hnc30 := NB620_621.out; have hcz31_0 := sqc0 BK621; have hcz31_1 := sqc1 BK621; have hfz31_0 := blk_frozen BK621.out 0; have hfz31_1 := blk_frozen BK621.out 1
        try go_wp2
        have n0_ := Aside0.mk (Kd.R_drew HO_8.out); have n1_ := Aside0.mk (Kd.R_drew HO_9.out); have n2_ := Aside0.mk (blk_drew BK620.out); have n3_ := Aside0.mk (blk_drew BK621.out); have n4_ := Aside0.mk (below_drew1 HB.out); clear HO_8 HO_9 BK620 BK621 HB; have HO_8 := n0_; have HO_9 := n1_; have BK620 := n2_; have BK621 := n3_; have HB := n4_; clear n0_ n1_ n2_ n3_ n4_; have p625 : 0 ≤ (x12_1 : Int) := sqD; have q625 : x12_1 < (l1_0.length : Int) := sqD; obtain ⟨ad625, e625, hx625_0, hx625_1⟩ := at_T41 HR1_0.out x12_1 p625 q625; have hw625_1 := hx625_1; have hw625_0 := hx625_0
        cases e625
        replace hx625_0 := (HB.out.cell (World.block_lt_of_cell? w _ hx625_0)).trans hx625_0; replace hx625_1 := (HB.out.cell (World.block_lt_of_cell? w _ hx625_1)).trans hx625_1; replace p625 := eq_true p625; replace q625 := eq_true q625; have p627 : 0 ≤ (x12_1 : Int) := sqD; have q627 : x12_1 < (l1_0.length : Int) := sqD; obtain ⟨ad627, e627, hx627_0, hx627_1⟩ := at_T41 HR1_0.out x12_1 p627 q627; have hw627_1 := hx627_1; have hw627_0 := hx627_0; obtain rfl : ad625 = ad627 := (by injection e627); replace hx627_0 := (HB.out.cell (World.block_lt_of_cell? w _ hx627_0)).trans hx627_0; replace hx627_1 := (HB.out.cell (World.block_lt_of_cell? w _ hx627_1)).trans hx627_1; replace p627 := eq_true p627; replace q627 := eq_true q627; refine start_ (n := 16) (S := fun w' => w'.cell? ⟨gb621, 0, none⟩ = some (.slice (some ad625) l1_0.length c1_0) ∧ w'.cell? ⟨gb621, 1, none⟩ = some (.slice A1_1 l1_1.length c1_1) ∧ w'.cell? (ad625.add ((x12_1).toNat * 2)) = some (.int .i64 ((rd_T41 l1_0 x12_1).f0)) ∧ w'.cell? ⟨(ad625.add ((x12_1).toNat * 2)).block, (ad625.add ((x12_1).toNat * 2)).off + 1, none⟩ = some (.int .i64 ((rd_T41 l1_0 x12_1).f1)) ∧ w'.cell? (ad625.add ((x12_1).toNat * 2)) = some (.int .i64 ((rd_T41 l1_0 x12_1).f0)) ∧ w'.cell? ⟨(ad625.add ((x12_1).toNat * 2)).block, (ad625.add ((x12_1).toNat * 2)).off + 1, none⟩ = some (.int .i64 ((rd_T41 l1_0 x12_1).f1))) (ds := []) (bm 16 0) sqF rfl rfl ⟨(blk_cell BK621.out 0).trans rfl, (blk_cell BK621.out 1).trans rfl, ((HB.out.cell (World.block_lt_of_cell? w _ hw625_0)).trans hw625_0), ((HB.out.cell (World.block_lt_of_cell? w _ hw625_1)).trans hw625_1), ((HB.out.cell (World.block_lt_of_cell? w _ hw627_0)).trans hw627_0), ((HB.out.cell (World.block_lt_of_cell? w _ hw627_1)).trans hw627_1)⟩ (fun hHeld => ?_); refine with_tabW lw_Cart_lived.tab6 lw_Cart_lived.bits6 (fun HT_ HW_ => ?_)
        generalize wr.drew = w32 at HO_8 HO_9 BK620 BK621 HB hx625_0 hx625_1 hx627_0 hx627_1 hHeld ⊢
        refine pure_ (i := 0) (N := some 29) (v := ?_) (a' := ?_) (bm 16 1) rfl rfl (any_of HT_.out sqF) (fun _ _ _ h => h) (Or.inl ⟨by rfl, ?_⟩) ?_ ?_
        rotate_left
        ·intro w'
         go_simp; with_reducible rfl
        rotate_left
        ·simp only [Act.put, sqA, i64_w, i32_w]; rfl
        refine pure_ (i := 2) (N := some 31) (v := ?_) (a' := ?_) (bm 16 5) rfl rfl (any_of HT_.out sqF) (fun _ _ _ h => h) (Or.inl ⟨by rfl, ?_⟩) ?_ ?_
        rotate_left
        ·intro w'
         go_simp; with_reducible rfl
        rotate_left
        ·simp only [Act.put, sqA, i64_w, i32_w]; rfl
        refine pure_ (i := 5) (N := some 34) (v := ?_) (a' := ?_) (bm 16 37) rfl rfl (any_of HT_.out sqF) (fun _ _ _ h => h) (Or.inl ⟨by rfl, ?_⟩) ?_ ?_
        rotate_left
        ·intro w'
         go_simp; with_reducible rfl
        rotate_left
        ·simp only [Act.put, sqA, i64_w, i32_w]; rfl
        refine pure_ (i := 7) (N := some 36) (v := ?_) (a' := ?_) (bm 16 165) rfl rfl (any_of HT_.out sqF) (fun _ _ _ h => h) (Or.inl ⟨by rfl, ?_⟩) ?_ ?_
        rotate_left
        ·intro w'
         go_simp; with_reducible rfl
        rotate_left
        ·simp only [Act.put, sqA, i64_w, i32_w]; rfl
        refine pure_ (i := 9) (N := some 38) (v := ?_) (a' := ?_) (bm 16 677) rfl rfl (any_of HT_.out sqF) (fun _ _ _ h => h) (Or.inl ⟨by rfl, ?_⟩) ?_ ?_
        rotate_left
        ·intro w'
         go_simp; with_reducible rfl
        rotate_left
        ·simp only [Act.put, sqA, i64_w, i32_w]; rfl
        refine pure_ (i := 12) (N := some 41) (v := ?_) (a' := ?_) (bm 16 4773) rfl rfl (any_of HT_.out sqF) (fun _ _ _ h => h) (Or.inl ⟨by rfl, ?_⟩) ?_ ?_
        rotate_left
        ·intro w'
         go_simp; with_reducible rfl
        rotate_left
        ·simp only [Act.put, sqA, i64_w, i32_w]; rfl
        refine take_ (i := 1) (N := some 30) (v := ?_) (a' := ?_) (bm 16 4775) rfl rfl (take_ofW HT_.out HW_.out sqF) (fun _ _ _ h => h) (Or.inl ⟨by rfl, ?_⟩) hHeld ?_ ?_
        rotate_left
        ·rintro w' ⟨s0, s1, s2, s3, s4, s5⟩
         go_simp; with_reducible rfl
        rotate_left
        ·simp only [Act.put, sqA, i64_w, i32_w]; rfl
        refine pure_ (i := 3) (N := some 32) (v := ?_) (a' := ?_) (bm 16 4783) rfl rfl (any_of HT_.out sqF) (fun _ _ _ h => h) (Or.inl ⟨by rfl, ?_⟩) ?_ ?_
        rotate_left
        ·intro w'
         go_simp; with_reducible rfl
        rotate_left
        ·simp only [Act.put, sqA, i64_w, i32_w]; rfl
        refine take_ (i := 4) (N := some 33) (v := ?_) (a' := ?_) (bm 16 4799) rfl rfl (take_ofW HT_.out HW_.out sqF) (fun _ _ _ h => h) (Or.inl ⟨by rfl, ?_⟩) hHeld ?_ ?_
        rotate_left
        ·rintro w' ⟨s0, s1, s2, s3, s4, s5⟩
         go_simp; with_reducible rfl
        rotate_left
        ·simp only [Act.put, sqA, i64_w, i32_w]; rfl
        refine take_ (i := 8) (N := some 37) (v := ?_) (a' := ?_) (bm 16 5055) rfl rfl (take_ofW HT_.out HW_.out sqF) (fun _ _ _ h => h) (Or.inl ⟨by rfl, ?_⟩) hHeld ?_ ?_
        rotate_left
        ·rintro w' ⟨s0, s1, s2, s3, s4, s5⟩
         go_simp; with_reducible rfl
        rotate_left
        ·simp only [Act.put, sqA, i64_w, i32_w]; rfl
        refine pure_ (i := 10) (N := some 39) (v := ?_) (a' := ?_) (bm 16 6079) rfl rfl (any_of HT_.out sqF) (fun _ _ _ h => h) (Or.inl ⟨by rfl, ?_⟩) ?_ ?_
        rotate_left
        ·intro w'
         go_simp; with_reducible rfl
        rotate_left
        ·simp only [Act.put, sqA, i64_w, i32_w]; rfl
        refine take_ (i := 11) (N := some 40) (v := ?_) (a' := ?_) (bm 16 8127) rfl rfl (take_ofW HT_.out HW_.out sqF) (fun _ _ _ h => h) (Or.inl ⟨by rfl, ?_⟩) hHeld ?_ ?_
        rotate_left
        ·rintro w' ⟨s0, s1, s2, s3, s4, s5⟩
         go_simp; with_reducible rfl
        rotate_left
        ·simp only [Act.put, sqA, i64_w, i32_w]; rfl
        refine one_ (i := 6) (N := some 35) (bm 16 8191) rfl rfl (one_of HT_.out sqF) (by decide) (fun K hK => ?_); refine goes_ Tryd.func94 sqF rfl #[.agg #[.int .i64 ((rd_T41 l1_0 x12_1).f0), .int .i64 ((rd_T41 l1_0 x12_1).f1)], .int .i64 x11_1] (by rfl) rfl rfl sqM ?_
        with_reducible refine (lw_least.calls ((rd_T41 l1_0 x12_1).f0) ((rd_T41 l1_0 x12_1).f1) x11_1 t626 _ A13.out).mono ?_
        rintro e w33 ⟨rfl, hb⟩; refine ⟨_, rfl, ?_⟩; have n0_ := Aside0.mk (Kd.R_below (sqR HO_8) hb); have n1_ := Aside0.mk (Kd.R_below (sqR HO_9) hb); have n2_ := Aside0.mk (blk_below (g := gb620) (o := .cells #[.slice A0_0 l0_0.length c0_0, .int .u16 a0_1, .slice A0_2 l0_2.length c0_2, .slice A0_3 l0_3.length c0_3] 69 (0, 0)) (sqK BK620) hb); have n3_ := Aside0.mk (blk_below (g := gb621) (o := .cells #[.slice (some ad625) l1_0.length c1_0, .slice A1_1 l1_1.length c1_1] 25 (0, 0)) (sqK BK621) hb); have n4_ := Aside0.mk (below_step (sqB HB) hb); clear HO_8 HO_9 BK620 BK621 HB; have HO_8 := n0_; have HO_9 := n1_; have BK620 := n2_; have BK621 := n3_; have HB := n4_; clear n0_ n1_ n2_ n3_ n4_; (try clear hb); (try clear hb2); (try clear hk); (try clear hi); refine hK.out _ _ ⟨(blk_cell BK621.out 0).trans rfl, (blk_cell BK621.out 1).trans rfl, ((HB.out.cell (World.block_lt_of_cell? w _ hw625_0)).trans hw625_0), ((HB.out.cell (World.block_lt_of_cell? w _ hw625_1)).trans hw625_1), ((HB.out.cell (World.block_lt_of_cell? w _ hw627_0)).trans hw627_0), ((HB.out.cell (World.block_lt_of_cell? w _ hw627_1)).trans hw627_1)⟩ (fun hHeld => ?_); clear hK K; refine norm_ (a' := ?_) ?_ ?_
        rotate_left
        ·show Act.put _ (some 35) _ = _
         simp only [Act.put, sqA, i64_w, i32_w]; rfl
        refine one_ (i := 13) (N := some 42) (bm 16 16383) rfl rfl (one_of HT_.out sqF) (by decide) (fun K hK => ?_); refine goes_ Tryd.func53 sqF rfl #[.agg #[.int .i64 ((rd_T41 l1_0 x12_1).f0), .int .i64 ((rd_T41 l1_0 x12_1).f1)], .int .i64 x11_1] (by rfl) rfl rfl sqM ?_
        with_reducible refine (lw_most.calls ((rd_T41 l1_0 x12_1).f0) ((rd_T41 l1_0 x12_1).f1) x11_1 t628 _ A14.out).mono ?_
        rintro e w34 ⟨rfl, hb⟩; refine ⟨_, rfl, ?_⟩; have n0_ := Aside0.mk (Kd.R_below (sqR HO_8) hb); have n1_ := Aside0.mk (Kd.R_below (sqR HO_9) hb); have n2_ := Aside0.mk (blk_below (g := gb620) (o := .cells #[.slice A0_0 l0_0.length c0_0, .int .u16 a0_1, .slice A0_2 l0_2.length c0_2, .slice A0_3 l0_3.length c0_3] 69 (0, 0)) (sqK BK620) hb); have n3_ := Aside0.mk (blk_below (g := gb621) (o := .cells #[.slice (some ad625) l1_0.length c1_0, .slice A1_1 l1_1.length c1_1] 25 (0, 0)) (sqK BK621) hb); have n4_ := Aside0.mk (below_step (sqB HB) hb); clear HO_8 HO_9 BK620 BK621 HB; have HO_8 := n0_; have HO_9 := n1_; have BK620 := n2_; have BK621 := n3_; have HB := n4_; clear n0_ n1_ n2_ n3_ n4_; (try clear hb); (try clear hb2); (try clear hk); (try clear hi); refine hK.out _ _ ⟨(blk_cell BK621.out 0).trans rfl, (blk_cell BK621.out 1).trans rfl, ((HB.out.cell (World.block_lt_of_cell? w _ hw625_0)).trans hw625_0), ((HB.out.cell (World.block_lt_of_cell? w _ hw625_1)).trans hw625_1), ((HB.out.cell (World.block_lt_of_cell? w _ hw627_0)).trans hw627_0), ((HB.out.cell (World.block_lt_of_cell? w _ hw627_1)).trans hw627_1)⟩ (fun hHeld => ?_); clear hK K; refine norm_ (a' := ?_) ?_ ?_
        rotate_left
        ·show Act.put _ (some 42) _ = _
         simp only [Act.put, sqA, i64_w, i32_w]; rfl
        refine pure_ (i := 14) (N := some 13) (v := ?_) (a' := ?_) (bm 16 32767) rfl rfl (any_of HT_.out sqF) (fun _ _ _ h => h) (Or.inl ⟨by rfl, ?_⟩) ?_ ?_
        rotate_left
        ·intro w'
         go_simp; with_reducible rfl
        rotate_left
        ·simp only [Act.put, sqA, i64_w, i32_w]; rfl
        refine pure_ (i := 15) (N := some 14) (v := ?_) (a' := ?_) (bm 16 65535) rfl rfl (any_of HT_.out sqF) (fun _ _ _ h => h) (Or.inl ⟨by rfl, ?_⟩) ?_ ?_
        rotate_left
        ·intro w'
         go_simp; with_reducible rfl
        rotate_left
        ·simp only [Act.put, sqA, i64_w, i32_w]; rfl
        refine done_ (done_of HT_.out sqF) ?_; have hcz35_0 := sqc0 BK620; have hcz35_1 := sqc1 BK620; have hcz35_2 := sqc2 BK620; have hcz35_3 : w34.cell? ⟨gb620, 3, none⟩ = some (.slice A0_3 l0_3.length c0_3) := (blk_cell BK620.out 3).trans rfl; have hfz35_0 := blk_frozen BK620.out 0; have hfz35_1 := blk_frozen BK620.out 1; have hfz35_2 := blk_frozen BK620.out 2; have hfz35_3 := blk_frozen BK620.out 3
        try go_wp2_with (first | ((with_reducible refine gate_callee (f := 95) rfl ?_); refine goesL_ (some 47) rfl rfl Tryd.func95 sqF rfl #[.slice A0_2 l0_2.length c0_2, .int .i64 x12_1] rfl sqM ?_; (with_reducible refine (lw_by.calls _ _ l0_2 x12_1 t629 _ ?side1 ?side2 A15.out).mono ?_); (case side1 => exact sqQ HR0_2 HB); (case side2 => exact HC0_2.out); rintro e w' ⟨rfl, ⟨nd, rfl⟩⟩; refine ⟨_, rfl, ?_⟩) | ((with_reducible refine gate_builtin (b := .append) (xs := #[.tmp 66, .tmp 68]) rfl ?_); at_builtin; refine Kd.R_append (Kd.int .i64) (w0 := w) w.heap.size rfl (.tmp 66) (.tmp 68) 45 3 (.int .i64 0) 8 rfl Tryd.underlying45 info3 rfl (by decide) (by omega) u8 x8_1 (wrap64 (x11_1 - (wrap64 (t626 + (wrap64 (Int.tdiv (wrap64 (t629 * (wrap64 (t628 - t626)))) 255)))))) [.int .i64 (wrap64 (x11_1 - (wrap64 (t626 + (wrap64 (Int.tdiv (wrap64 (t629 * (wrap64 (t628 - t626)))) 255))))))] (fun k_ => some k_ ≠ (u9 : Value).ownBlock) (fun _ => False) rfl rfl ?aP (fun _ hk => hk.elim) ?aF ?aO ?aB ?aS ?aL ?_; (case aP => exact rfl); (case aB => exact (sqB HB)); (case aF => exact (fun k_ hk => Kd.fresh' (Kd.R_lt (sqR HO_9)) k_ hk)); (case aO => exact (sqR HO_8)); (case aS => exact (below_size (sqB HB))); (case aL => have := LMc28.out; omega); intro v637 w36 ho hb hg hat; rw [← Ny636.out] at ho; replace HO_9 := Aside0.mk (Kd.R_after (ok := (fun _ => True)) (by (with_reducible repeat (first | apply Kd.R_alloc | apply Kd.R_drewN | apply Kd.R_drew)); exact Kd.R_mono HO_9.out (fun _ hk => ⟨trivial, hk⟩)) hg hat); replace BK620 := Aside0.mk (blk_grown (g := gb620) (o := .cells #[.slice A0_0 l0_0.length c0_0, .int .u16 a0_1, .slice A0_2 l0_2.length c0_2, .slice A0_3 l0_3.length c0_3] 69 (0, 0)) (sqK BK620) hg (Kd.R_ne HO_8.out BK620.out (by decide))); replace BK621 := Aside0.mk (blk_grown (g := gb621) (o := .cells #[.slice (some ad625) l1_0.length c1_0, .slice A1_1 l1_1.length c1_1] 25 (0, 0)) (sqK BK621) hg (Kd.R_ne HO_8.out BK621.out (by decide))); replace HB := Aside0.mk (hb); have HO638 := Aside0.mk (ho); clear HO_8; clear ho hb hg hat) | ((with_reducible refine gate_builtin (b := .append) (xs := #[.tmp 70, .tmp 72]) rfl ?_); at_builtin; refine Kd.R_append (Kd.int .i64) (w0 := w) w.heap.size rfl (.tmp 70) (.tmp 72) 45 3 (.int .i64 0) 8 rfl Tryd.underlying45 info3 rfl (by decide) (by omega) u9 x9_1 (wrap64 (t626 + (wrap64 (Int.tdiv (wrap64 (t629 * (wrap64 (t628 - t626)))) 255)))) [.int .i64 (wrap64 (t626 + (wrap64 (Int.tdiv (wrap64 (t629 * (wrap64 (t628 - t626)))) 255))))] (fun k_ => some k_ ≠ (v637 : Value).ownBlock) (fun _ => False) rfl rfl ?aP (fun _ hk => hk.elim) ?aF ?aO ?aB ?aS ?aL ?_; (case aP => exact rfl); (case aB => exact (sqB HB)); (case aF => exact (fun k_ hk => Kd.fresh' (Kd.R_lt (sqR HO638)) k_ hk)); (case aO => exact (by (with_reducible repeat (first | apply Kd.R_alloc | apply Kd.R_drewN | apply Kd.R_drew)); exact Kd.R_mono HO_9.out (fun _ hk => hk.2))); (case aS => exact (below_size (sqB HB))); (case aL => have := LMc29.out; omega); intro v640 w37 ho hb hg hat; rw [← Ny639.out] at ho; replace BK620 := Aside0.mk (blk_grown (g := gb620) (o := .cells #[.slice A0_0 l0_0.length c0_0, .int .u16 a0_1, .slice A0_2 l0_2.length c0_2, .slice A0_3 l0_3.length c0_3] 69 (0, 0)) (sqK BK620) hg (Kd.R_ne HO_9.out BK620.out (by decide))); replace BK621 := Aside0.mk (blk_grown (g := gb621) (o := .cells #[.slice (some ad625) l1_0.length c1_0, .slice A1_1 l1_1.length c1_1] 25 (0, 0)) (sqK BK621) hg (Kd.R_ne HO_9.out BK621.out (by decide))); replace HO638 := Aside0.mk (Kd.R_after (ok := (fun _ => True)) (by (with_reducible repeat (first | apply Kd.R_alloc | apply Kd.R_drewN | apply Kd.R_drew)); exact Kd.R_mono HO638.out (fun _ hk => ⟨trivial, hk⟩)) hg hat); replace HB := Aside0.mk (hb); have HO641 := Aside0.mk (ho); clear HO_9; clear ho hb hg hat))
        go_roundg k1
        case measure => have := HK1.out; omega
        case rel => exact ⟨(y636), (y639), (x10_1), (wrap64 (x11_1 - (wrap64 (t626 + (wrap64 (Int.tdiv (wrap64 (t629 * (wrap64 (t628 - t626)))) 255)))))), (wrap64 (x12_1 + 1)), sqE, sqE, sqE, H', ⟨by have := HK1.out; omega⟩, ⟨by (with_reducible repeat (first | apply Kd.R_alloc | apply Kd.R_drewN | apply Kd.R_drew)); exact Kd.R_mono HO638.out (fun _ hk => hk.2)⟩, ⟨sqR HO641⟩, ⟨sqK BK620⟩, ⟨sqK BK621⟩, ⟨sqB HB⟩⟩
       ·rw [if_neg c29] at H
        exact absurd H (by simp)
      ·rw [if_neg c28] at H
       exact absurd H (by simp)
    ·rw [if_neg c12] at H
     exact absurd H (by simp)
   ·rw [if_neg c11] at H
    have c11b0 : decide (x12_1 < (l1_0.length : Int)) = false := decide_eq_false c11; clear c11; simp only [Option.some.injEq, Prod.mk.injEq] at H; obtain ⟨rfl, rfl, rfl⟩ := H; have hnb38 := NB621_620.out; have hnc38 := NB620_621.out; have hcz39_0 := sqc0 BK621; have hcz39_1 := sqc1 BK621; have hfz39_0 := blk_frozen BK621.out 0; have hfz39_1 := blk_frozen BK621.out 1
    go_wp2
    go_ret3
    exact ⟨_, _, by first | rfl | (simp [errW_none, errW_some] <;> rfl) | (simp [*, errW_none, errW_some] <;> rfl), by (with_reducible repeat (first | apply Kd.R_alloc | apply Kd.R_drewN | apply Kd.R_drew)); exact HO_8.out, by (with_reducible repeat (first | apply Kd.R_alloc | apply Kd.R_drewN | apply Kd.R_drew)); exact HO_9.out, sqB HB⟩
end Go.Proofs.YtemingmeidmjkaaDoor.Q
namespace Go.Proofs.YtemingmeidmjkaaDoor.Q
open Go.RowKit Go.Proofs.YtemingmeidmjkaaDoorW.PrintWords Go.Proofs.YtemingmeidmjkaaDoorW.PrintLast Go.Proofs.YtemingmeidmjkaaDoorW.PrintMore
attribute [local go_sem] max2_int min2_int max_two min_two max_three min_three max_four min_four   -- for this text's walks alone
set_option linter.unusedVariables false
set_option linter.unusedSimpArgs false
def lw_own.f (l0_0 : List (S41)) (l0_1 : List (S80)) : Option ((List (S41)) × (List (S80))) := (some (([] : List (S41)) : List (S41))).bind fun y644 => (if y644.length + l0_0.length < 8796093022208 then ((some (([] : List (S80)) : List (S80))).bind fun y650 => (if y650.length + l0_1.length < 5864062014805 then (some ((y644 ++ l0_0), (y650 ++ l0_1))) else (none))) else (none))
def lw_own.T1 : Bool × List (List Nat × List Nat) := (true, [([], []), ([], []), ([1], [1]), ([0, 2], [0, 2]), ([], []), ([], []), ([5], [5]), ([4, 6, 3], [4, 6]), ([3, 7], [3, 7]), ([8, 7, 0, 1, 2, 3, 4, 5, 6, 7, 8], [8])])
def lw_own.B1 : List Nat := [0, 0, 2, 7, 0, 0, 32, 127, 255, 511]
theorem lw_own.tab1 : rtab .any (opsOf Tryd.f48 1) = lw_own.T1 := by kernel_rfl
theorem lw_own.bits1 : waitsOk lw_own.T1.2 lw_own.B1 = true := by kernel_rfl
set_option maxHeartbeats 8000000 in
set_option maxRecDepth 100000 in
theorem lw_own.calls (A0_0 : Option Addr) (c0_0 : Nat) (l0_0 : List (S41)) (A0_1 : Option Addr) (c0_1 : Nat) (l0_1 : List (S80)) (r1 : List (S41)) (r2 : List (S80)) (w : World) (hr0_0 : Kd.C k41 w A0_0 l0_0.length l0_0) (hc0_0 : l0_0.length ≤ c0_0) (hr0_1 : Kd.C k80 w A0_1 l0_1.length l0_1) (hc0_1 : l0_1.length ≤ c0_1) (h : lw_own.f l0_0 l0_1 = some (r1, r2)) :
  Calls Tryd.prog 48 #[.agg #[.slice A0_0 l0_0.length c0_0, .slice A0_1 l0_1.length c0_1]] w fun e w' => ∃ v0_ v1_ : Value, e = .returned (.agg #[v0_, v1_]) ∧ Kd.R k41 41 w' w.heap.size (fun _ => True) v0_ r1 ∧ Kd.R k80 80 w' w.heap.size (fun _ => True) v1_ r2 ∧ Below w.heap.size w w' := by
 have hu25 := Tryd.underlying25; have HR0_0 := Aside0.mk hr0_0; have HC0_0 := Aside0.mk hc0_0; clear hr0_0 hc0_0; have HR0_1 := Aside0.mk hr0_1; have HC0_1 := Aside0.mk hc0_1; clear hr0_1 hc0_1; have HB := Aside0.mk (Below.refl w.heap.size w); have H : ((some (([] : List (S41)) : List (S41))).bind fun y644 => (if y644.length + l0_0.length < 8796093022208 then ((some (([] : List (S80)) : List (S80))).bind fun y650 => (if y650.length + l0_1.length < 5864062014805 then (some ((y644 ++ l0_0), (y650 ++ l0_1))) else (none))) else (none))) = some (r1, r2) := h; clear h; replace H : ∃ y_ : List (S41), y_ = (([] : List (S41))) ∧ (if y_.length + l0_0.length < 8796093022208 then ((some (([] : List (S80)) : List (S80))).bind fun y650 => (if y650.length + l0_1.length < 5864062014805 then (some ((y_ ++ l0_0), (y650 ++ l0_1))) else (none))) else (none)) = some (r1, r2) := ⟨_, rfl, sqJ H⟩; obtain ⟨y644, hy644, H⟩ := H; have Ny644 := Aside0.mk hy644; clear hy644
 by_cases c2 : y644.length + l0_0.length < 8796093022208
 ·rw [if_pos c2] at H
  have LMc2 := Aside0.mk c2; clear c2; replace H : ∃ y_ : List (S41), y_ = (y644 ++ l0_0) ∧ ((some (([] : List (S80)) : List (S80))).bind fun y650 => (if y650.length + l0_1.length < 5864062014805 then (some (y_, (y650 ++ l0_1))) else (none))) = some (r1, r2) := ⟨_, rfl, sqJ H⟩; obtain ⟨y647, hy647, H⟩ := H; have Ny647 := Aside0.mk hy647; clear hy647; replace H : ∃ y_ : List (S80), y_ = (([] : List (S80))) ∧ (if y_.length + l0_1.length < 5864062014805 then (some (y647, (y_ ++ l0_1))) else (none)) = some (r1, r2) := ⟨_, rfl, sqJ H⟩; obtain ⟨y650, hy650, H⟩ := H; have Ny650 := Aside0.mk hy650; clear hy650
  by_cases c3 : y650.length + l0_1.length < 5864062014805
  ·rw [if_pos c3] at H
   have LMc3 := Aside0.mk c3; clear c3; replace H : ∃ y_ : List (S80), y_ = (y650 ++ l0_1) ∧ (some (y647, y_)) = some (r1, r2) := ⟨_, rfl, sqJ H⟩; obtain ⟨y653, hy653, H⟩ := H; have Ny653 := Aside0.mk hy653; clear hy653; simp only [Option.some.injEq, Prod.mk.injEq] at H; obtain ⟨rfl, rfl⟩ := H
   go_enter Tryd.func48, Tryd.ntmps48
   try go_wp2_with (first | ((with_reducible refine gate_dst (N := 1) rfl ?_); refine box_event ?hg (N := 1) ?hd (cs := #[.slice A0_0 l0_0.length c0_0, .slice A0_1 l0_1.length c0_1]) (t := 25) ?hr ?_; (case hd => rfl); (case hg => rfl); (case hr => first | (go_simp; done) | (go_simp; rfl)); intro gb642 hg w4 hbox hb; have BK642 := Aside0.mk (hbox); have GW642 := Aside0.mk (sqZ hg HB); have GE642 := Aside0.mk (sqZ hg HB); replace HB := sqb hb HB; clear hb hbox hg) | ((with_reducible refine gate_dst (N := 2) rfl ?_); refine box_event ?hg (N := 2) ?hd (cs := #[.slice none 0 0, .slice none 0 0]) (t := 25) ?hr ?_; (case hd => rfl); (case hg => rfl); (case hr => first | (go_simp; done) | (go_simp; rfl)); intro gb643 hg w5 hbox hb; have BK643 := Aside0.mk (hbox); have GW643 := Aside0.mk (sqZ hg HB); have GE643 := Aside0.mk (sqZ hg HB); replace HB := sqb hb HB; have NB642_643 := Aside0.mk (sqL hg BK642); have NB643_642 := Aside0.mk (sqG hg BK642); replace BK642 := sqk BK642 hb; clear hb hbox hg))
   have n0_ := Aside0.mk (blk_drew BK642.out); have n1_ := Aside0.mk (blk_drew BK643.out); have n2_ := Aside0.mk (below_drew1 HB.out); clear BK642 BK643 HB; have BK642 := n0_; have BK643 := n1_; have HB := n2_; clear n0_ n1_ n2_; refine start_ (n := 10) (S := fun w' => w'.cell? ⟨gb642, 0, none⟩ = some (.slice A0_0 l0_0.length c0_0) ∧ w'.cell? ⟨gb642, 1, none⟩ = some (.slice A0_1 l0_1.length c0_1)) (ds := []) (bm 10 0) sqF rfl rfl ⟨(blk_cell BK642.out 0).trans rfl, (blk_cell BK642.out 1).trans rfl⟩ (fun hHeld => ?_); refine with_tabW lw_own.tab1 lw_own.bits1 (fun HT_ HW_ => ?_)
   generalize w5.drew = w6 at BK642 BK643 HB hHeld ⊢
   refine pure_ (i := 1) (N := some 4) (v := ?_) (a' := ?_) (bm 10 2) rfl rfl (any_of HT_.out sqF) (fun _ _ _ h => h) (Or.inl ⟨by rfl, ?_⟩) ?_ ?_
   rotate_left
   ·intro w'
    go_simp; with_reducible rfl
   rotate_left
   ·simp only [Act.put, sqA, i64_w, i32_w]; rfl
   refine pure_ (i := 5) (N := some 8) (v := ?_) (a' := ?_) (bm 10 34) rfl rfl (any_of HT_.out sqF) (fun _ _ _ h => h) (Or.inl ⟨by rfl, ?_⟩) ?_ ?_
   rotate_left
   ·intro w'
    go_simp; with_reducible rfl
   rotate_left
   ·simp only [Act.put, sqA, i64_w, i32_w]; rfl
   refine take_ (i := 2) (N := some 5) (v := ?_) (a' := ?_) (bm 10 38) rfl rfl (take_ofW HT_.out HW_.out sqF) (fun _ _ _ h => h) (Or.inl ⟨by rfl, ?_⟩) hHeld ?_ ?_
   rotate_left
   ·rintro w' ⟨s0, s1⟩
    go_simp; with_reducible rfl
   rotate_left
   ·simp only [Act.put, sqA, i64_w, i32_w]; rfl
   refine take_ (i := 6) (N := some 9) (v := ?_) (a' := ?_) (bm 10 102) rfl rfl (take_ofW HT_.out HW_.out sqF) (fun _ _ _ h => h) (Or.inl ⟨by rfl, ?_⟩) hHeld ?_ ?_
   rotate_left
   ·rintro w' ⟨s0, s1⟩
    go_simp; with_reducible rfl
   rotate_left
   ·simp only [Act.put, sqA, i64_w, i32_w]; rfl
   refine join_ (σ := Value × Value × Value) 3 #[true, true, true, true, true, true, true, false, false, false] (fun s_ => [(3, s_.1), (6, s_.2.1), (7, s_.2.2)]) (fun s_ w' => (w'.cell? ⟨gb642, 0, none⟩ = some (.slice A0_0 l0_0.length c0_0) ∧ w'.cell? ⟨gb642, 1, none⟩ = some (.slice A0_1 l0_1.length c0_1)) ∧ (Kd.R k41 41 w' w.heap.size (fun _ => True) s_.2.1 y647) ∧ (Kd.R k80 80 w' w.heap.size (fun _ => True) s_.2.2 y650) ∧ (w'.heap[gb642]? = some (.cells #[.slice A0_0 l0_0.length c0_0, .slice A0_1 l0_1.length c0_1] 25 (0, 0))) ∧ (w'.heap[gb643]? = some (.cells #[.slice none 0 0, .slice none 0 0] 25 (0, 0))) ∧ (Below w.heap.size w w')) ?_ ?_; rotate_left
   ·intro hCont
    refine two_ (i := 0) (j := 4) (Ni := some 3) (Nj := some 7) (bm 10 103) #[false, true, true, false, true, true, true, false, false, false] rfl rfl rfl rfl (two_of HT_.out sqF) (by decide) (by decide) (fun K hK => ?_) (fun K hK => ?_)
    ·skip
     refine Kd.R_lit_step k41 _ 41 ?hg (N := 3) ?hd (xs := ([] : List (S41))) (inner := []) (ok := fun _ => True) (okp := fun _ => True) ?hr ?hp (fun _ hk => hk) trivial (Below.refl _ _) (Nat.le_refl _) (by simp) ?_; (case hd => rfl); (case hg => rfl); (case hr => first | (go_simp; done) | (go_simp; rfl)); (case hp => exact (Reps.none _ _)); intro v645 w7 ho8 hb hg_ hnew_; clear hg_ hnew_
     (first | rw [← Ny644.out] at ho8 | (simp only [Int.reduceToNat] at ho8; rw [← Ny644.out] at ho8))
     have n0_ := Aside0.mk (Kd.R_lower ho8 (below_size (sqB HB))); have n1_ := Aside0.mk (blk_below (g := gb642) (o := .cells #[.slice A0_0 l0_0.length c0_0, .slice A0_1 l0_1.length c0_1] 25 (0, 0)) (sqK BK642) hb); have n2_ := Aside0.mk (blk_below (g := gb643) (o := .cells #[.slice none 0 0, .slice none 0 0] 25 (0, 0)) (sqK BK643) hb); have n3_ := Aside0.mk (below_step (sqB HB) hb); clear BK642 BK643 HB; have HO646 := n0_; have BK642 := n1_; have BK643 := n2_; have HB := n3_; clear n0_ n1_ n2_ n3_ hb ho8; refine hK.out _ _ ⟨(blk_cell BK642.out 0).trans rfl, (blk_cell BK642.out 1).trans rfl⟩ (fun hHeld => ?_); clear hK K; refine norm_ (a' := ?_) ?_ ?_
     rotate_left
     ·show Act.put _ (some 3) _ = _
      simp only [Act.put, sqA, i64_w, i32_w]; rfl
     refine two_ (i := 3) (j := 4) (Ni := some 6) (Nj := some 7) (bm 10 111) #[true, true, true, false, true, true, true, false, false, false] rfl rfl rfl rfl (two_of HT_.out sqF) (by decide) (by decide) (fun K hK => ?_) (fun K hK => ?_)
     ·skip
      refine Kd.R_append_rows_step k41 (w0 := w) w.heap.size (by rfl) (.tmp 3) (.tmp 5) 22 41 (.agg #[(.int .i64 0), (.int .i64 0)]) 16 rfl Tryd.underlying22 info41 rfl (by decide) (by omega) v645 y644 l0_0 _ _ _ (fun _ => True) (fun _ => False) rfl rfl ?aO ?aR (fun _ _ h => h) (fun _ h => h.elim) ?aF ?aB ?aS ?aL ?_
      (case aR => exact sqQ HR0_0 HB)
      (case aB => exact (sqB HB))
      (case aF => exact (fun _ _ => trivial))
      (case aO => exact (sqR HO646))
      (case aS => exact (below_size (sqB HB)))
      (case aL => have := LMc2.out; omega)
      intro v648 w9 ho hb hg hat; rw [← Ny647.out] at ho; have n0_ := Aside0.mk (blk_grown (g := gb642) (o := .cells #[.slice A0_0 l0_0.length c0_0, .slice A0_1 l0_1.length c0_1] 25 (0, 0)) (sqK BK642) hg (Kd.R_ne HO646.out BK642.out (by decide))); have n1_ := Aside0.mk (blk_grown (g := gb643) (o := .cells #[.slice none 0 0, .slice none 0 0] 25 (0, 0)) (sqK BK643) hg (Kd.R_ne HO646.out BK643.out (by decide))); have n2_ := Aside0.mk (hb); have n3_ := Aside0.mk (ho); clear BK642 BK643 HB HO646; have BK642 := n0_; have BK643 := n1_; have HB := n2_; have HO649 := n3_; clear n0_ n1_ n2_ n3_ ho hb hg hat; refine hK.out _ _ ⟨(blk_cell BK642.out 0).trans rfl, (blk_cell BK642.out 1).trans rfl⟩ (fun hHeld => ?_); clear hK K; refine norm_ (a' := ?_) ?_ ?_
      rotate_left
      ·show Act.put _ (some 6) _ = _
       simp only [Act.put, sqA, i64_w, i32_w]; rfl
      refine one_ (i := 4) (N := some 7) (bm 10 127) rfl rfl (one_of HT_.out sqF) (by decide) (fun K hK => ?_); refine Kd.R_lit_step k80 _ 80 ?hg (N := 7) ?hd (xs := ([] : List (S80))) (inner := []) (ok := fun _ => True) (okp := fun _ => True) ?hr ?hp (fun _ hk => hk) trivial (Below.refl _ _) (Nat.le_refl _) (by simp) ?_; (case hd => rfl); (case hg => rfl); (case hr => first | (go_simp; done) | (go_simp; rfl)); (case hp => exact (Reps.none _ _)); intro v651 w10 ho11 hb hg_ hnew_; clear hg_ hnew_
      (first | rw [← Ny650.out] at ho11 | (simp only [Int.reduceToNat] at ho11; rw [← Ny650.out] at ho11))
      have n0_ := Aside0.mk (Kd.R_below (sqR HO649) hb); have n1_ := Aside0.mk (Kd.R_lower ho11 (below_size (sqB HB))); have n2_ := Aside0.mk (blk_below (g := gb642) (o := .cells #[.slice A0_0 l0_0.length c0_0, .slice A0_1 l0_1.length c0_1] 25 (0, 0)) (sqK BK642) hb); have n3_ := Aside0.mk (blk_below (g := gb643) (o := .cells #[.slice none 0 0, .slice none 0 0] 25 (0, 0)) (sqK BK643) hb); have n4_ := Aside0.mk (below_step (sqB HB) hb); clear HO649 BK642 BK643 HB; have HO649 := n0_; have HO652 := n1_; have BK642 := n2_; have BK643 := n3_; have HB := n4_; clear n0_ n1_ n2_ n3_ n4_ hb ho11; refine hK.out _ _ ⟨(blk_cell BK642.out 0).trans rfl, (blk_cell BK642.out 1).trans rfl⟩ (fun hHeld => ?_); clear hK K; refine norm_ (a' := ?_) ?_ ?_
      rotate_left
      ·show Act.put _ (some 7) _ = _
       simp only [Act.put, sqA, i64_w, i32_w]; rfl
      exact norm_ (by simp only [putAll, Act.put, sqA]) (hCont (v645, v648, v651) _ ⟨hHeld, (sqR HO649), (sqR HO652), (sqK BK642), (sqK BK643), (sqB HB)⟩)
     ·skip
      refine Kd.R_lit_step k80 _ 80 ?hg (N := 7) ?hd (xs := ([] : List (S80))) (inner := []) (ok := fun _ => True) (okp := fun _ => True) ?hr ?hp (fun _ hk => hk) trivial (Below.refl _ _) (Nat.le_refl _) (by simp) ?_; (case hd => rfl); (case hg => rfl); (case hr => first | (go_simp; done) | (go_simp; rfl)); (case hp => exact (Reps.none _ _)); intro v651 w9 ho10 hb hg_ hnew_; clear hg_ hnew_
      (first | rw [← Ny650.out] at ho10 | (simp only [Int.reduceToNat] at ho10; rw [← Ny650.out] at ho10))
      have n0_ := Aside0.mk (Kd.R_below (sqR HO646) hb); have n1_ := Aside0.mk (Kd.R_lower ho10 (below_size (sqB HB))); have n2_ := Aside0.mk (blk_below (g := gb642) (o := .cells #[.slice A0_0 l0_0.length c0_0, .slice A0_1 l0_1.length c0_1] 25 (0, 0)) (sqK BK642) hb); have n3_ := Aside0.mk (blk_below (g := gb643) (o := .cells #[.slice none 0 0, .slice none 0 0] 25 (0, 0)) (sqK BK643) hb); have n4_ := Aside0.mk (below_step (sqB HB) hb); clear HO646 BK642 BK643 HB; have HO646 := n0_; have HO652 := n1_; have BK642 := n2_; have BK643 := n3_; have HB := n4_; clear n0_ n1_ n2_ n3_ n4_ hb ho10; refine hK.out _ _ ⟨(blk_cell BK642.out 0).trans rfl, (blk_cell BK642.out 1).trans rfl⟩ (fun hHeld => ?_); clear hK K; refine norm_ (a' := ?_) ?_ ?_
      rotate_left
      ·show Act.put _ (some 7) _ = _
       simp only [Act.put, sqA, i64_w, i32_w]; rfl
      refine one_ (i := 3) (N := some 6) (bm 10 127) rfl rfl (one_of HT_.out sqF) (by decide) (fun K hK => ?_); refine Kd.R_append_rows_step k41 (w0 := w) w.heap.size (by rfl) (.tmp 3) (.tmp 5) 22 41 (.agg #[(.int .i64 0), (.int .i64 0)]) 16 rfl Tryd.underlying22 info41 rfl (by decide) (by omega) v645 y644 l0_0 _ _ _ (fun _ => True) (fun _ => False) rfl rfl ?aO ?aR (fun _ _ h => h) (fun _ h => h.elim) ?aF ?aB ?aS ?aL ?_
      (case aR => exact sqQ HR0_0 HB)
      (case aB => exact (sqB HB))
      (case aF => exact (fun _ _ => trivial))
      (case aO => exact (sqR HO646))
      (case aS => exact (below_size (sqB HB)))
      (case aL => have := LMc2.out; omega)
      intro v648 w11 ho hb hg hat; rw [← Ny647.out] at ho; have n0_ := Aside0.mk (blk_grown (g := gb642) (o := .cells #[.slice A0_0 l0_0.length c0_0, .slice A0_1 l0_1.length c0_1] 25 (0, 0)) (sqK BK642) hg (Kd.R_ne HO646.out BK642.out (by decide))); have n1_ := Aside0.mk (blk_grown (g := gb643) (o := .cells #[.slice none 0 0, .slice none 0 0] 25 (0, 0)) (sqK BK643) hg (Kd.R_ne HO646.out BK643.out (by decide))); have n2_ := Aside0.mk (Kd.R_over' (sqR HO652) (Kd.R_typed (sqR HO646)) (by decide) hg); have n3_ := Aside0.mk (hb); have n4_ := Aside0.mk (ho); clear BK642 BK643 HO652 HB HO646; have BK642 := n0_; have BK643 := n1_; have HO652 := n2_; have HB := n3_; have HO649 := n4_; clear n0_ n1_ n2_ n3_ n4_ ho hb hg hat; refine hK.out _ _ ⟨(blk_cell BK642.out 0).trans rfl, (blk_cell BK642.out 1).trans rfl⟩ (fun hHeld => ?_); clear hK K; refine norm_ (a' := ?_) ?_ ?_
      rotate_left
      ·show Act.put _ (some 6) _ = _
       simp only [Act.put, sqA, i64_w, i32_w]; rfl
      exact norm_ (by simp only [putAll, Act.put, sqA]) (hCont (v645, v648, v651) _ ⟨hHeld, (sqR HO649), (sqR HO652), (sqK BK642), (sqK BK643), (sqB HB)⟩)
    ·skip
     refine Kd.R_lit_step k80 _ 80 ?hg (N := 7) ?hd (xs := ([] : List (S80))) (inner := []) (ok := fun _ => True) (okp := fun _ => True) ?hr ?hp (fun _ hk => hk) trivial (Below.refl _ _) (Nat.le_refl _) (by simp) ?_; (case hd => rfl); (case hg => rfl); (case hr => first | (go_simp; done) | (go_simp; rfl)); (case hp => exact (Reps.none _ _)); intro v651 w7 ho8 hb hg_ hnew_; clear hg_ hnew_
     (first | rw [← Ny650.out] at ho8 | (simp only [Int.reduceToNat] at ho8; rw [← Ny650.out] at ho8))
     have n0_ := Aside0.mk (Kd.R_lower ho8 (below_size (sqB HB))); have n1_ := Aside0.mk (blk_below (g := gb642) (o := .cells #[.slice A0_0 l0_0.length c0_0, .slice A0_1 l0_1.length c0_1] 25 (0, 0)) (sqK BK642) hb); have n2_ := Aside0.mk (blk_below (g := gb643) (o := .cells #[.slice none 0 0, .slice none 0 0] 25 (0, 0)) (sqK BK643) hb); have n3_ := Aside0.mk (below_step (sqB HB) hb); clear BK642 BK643 HB; have HO652 := n0_; have BK642 := n1_; have BK643 := n2_; have HB := n3_; clear n0_ n1_ n2_ n3_ hb ho8; refine hK.out _ _ ⟨(blk_cell BK642.out 0).trans rfl, (blk_cell BK642.out 1).trans rfl⟩ (fun hHeld => ?_); clear hK K; refine norm_ (a' := ?_) ?_ ?_
     rotate_left
     ·show Act.put _ (some 7) _ = _
      simp only [Act.put, sqA, i64_w, i32_w]; rfl
     refine one_ (i := 0) (N := some 3) (bm 10 119) rfl rfl (one_of HT_.out sqF) (by decide) (fun K hK => ?_); refine Kd.R_lit_step k41 _ 41 ?hg (N := 3) ?hd (xs := ([] : List (S41))) (inner := []) (ok := fun _ => True) (okp := fun _ => True) ?hr ?hp (fun _ hk => hk) trivial (Below.refl _ _) (Nat.le_refl _) (by simp) ?_; (case hd => rfl); (case hg => rfl); (case hr => first | (go_simp; done) | (go_simp; rfl)); (case hp => exact (Reps.none _ _)); intro v645 w9 ho10 hb hg_ hnew_; clear hg_ hnew_
     (first | rw [← Ny644.out] at ho10 | (simp only [Int.reduceToNat] at ho10; rw [← Ny644.out] at ho10))
     have n0_ := Aside0.mk (Kd.R_below (sqR HO652) hb); have n1_ := Aside0.mk (Kd.R_lower ho10 (below_size (sqB HB))); have n2_ := Aside0.mk (blk_below (g := gb642) (o := .cells #[.slice A0_0 l0_0.length c0_0, .slice A0_1 l0_1.length c0_1] 25 (0, 0)) (sqK BK642) hb); have n3_ := Aside0.mk (blk_below (g := gb643) (o := .cells #[.slice none 0 0, .slice none 0 0] 25 (0, 0)) (sqK BK643) hb); have n4_ := Aside0.mk (below_step (sqB HB) hb); clear HO652 BK642 BK643 HB; have HO652 := n0_; have HO646 := n1_; have BK642 := n2_; have BK643 := n3_; have HB := n4_; clear n0_ n1_ n2_ n3_ n4_ hb ho10; refine hK.out _ _ ⟨(blk_cell BK642.out 0).trans rfl, (blk_cell BK642.out 1).trans rfl⟩ (fun hHeld => ?_); clear hK K; refine norm_ (a' := ?_) ?_ ?_
     rotate_left
     ·show Act.put _ (some 3) _ = _
      simp only [Act.put, sqA, i64_w, i32_w]; rfl
     refine one_ (i := 3) (N := some 6) (bm 10 127) rfl rfl (one_of HT_.out sqF) (by decide) (fun K hK => ?_); refine Kd.R_append_rows_step k41 (w0 := w) w.heap.size (by rfl) (.tmp 3) (.tmp 5) 22 41 (.agg #[(.int .i64 0), (.int .i64 0)]) 16 rfl Tryd.underlying22 info41 rfl (by decide) (by omega) v645 y644 l0_0 _ _ _ (fun _ => True) (fun _ => False) rfl rfl ?aO ?aR (fun _ _ h => h) (fun _ h => h.elim) ?aF ?aB ?aS ?aL ?_
     (case aR => exact sqQ HR0_0 HB)
     (case aB => exact (sqB HB))
     (case aF => exact (fun _ _ => trivial))
     (case aO => exact (sqR HO646))
     (case aS => exact (below_size (sqB HB)))
     (case aL => have := LMc2.out; omega)
     intro v648 w11 ho hb hg hat; rw [← Ny647.out] at ho; have n0_ := Aside0.mk (blk_grown (g := gb642) (o := .cells #[.slice A0_0 l0_0.length c0_0, .slice A0_1 l0_1.length c0_1] 25 (0, 0)) (sqK BK642) hg (Kd.R_ne HO646.out BK642.out (by decide))); have n1_ := Aside0.mk (blk_grown (g := gb643) (o := .cells #[.slice none 0 0, .slice none 0 0] 25 (0, 0)) (sqK BK643) hg (Kd.R_ne HO646.out BK643.out (by decide))); have n2_ := Aside0.mk (Kd.R_over' (sqR HO652) (Kd.R_typed (sqR HO646)) (by decide) hg); have n3_ := Aside0.mk (hb); have n4_ := Aside0.mk (ho); clear BK642 BK643 HO652 HB HO646; have BK642 := n0_; have BK643 := n1_; have HO652 := n2_; have HB := n3_; have HO649 := n4_; clear n0_ n1_ n2_ n3_ n4_ ho hb hg hat; refine hK.out _ _ ⟨(blk_cell BK642.out 0).trans rfl, (blk_cell BK642.out 1).trans rfl⟩ (fun hHeld => ?_); clear hK K; refine norm_ (a' := ?_) ?_ ?_
     rotate_left
     ·show Act.put _ (some 6) _ = _
      simp only [Act.put, sqA, i64_w, i32_w]; rfl
     exact norm_ (by simp only [putAll, Act.put, sqA]) (hCont (v645, v648, v651) _ ⟨hHeld, (sqR HO649), (sqR HO652), (sqK BK642), (sqK BK643), (sqB HB)⟩)
   rintro ⟨v645, v648, v651⟩ w12 ⟨hS_, h0_, h1_, h2_, h3_, h4_⟩; have n0_ : Aside0 (Kd.R k41 41 w12 w.heap.size (fun _ => True) v648 y647) := ⟨h0_⟩; have n1_ : Aside0 (Kd.R k80 80 w12 w.heap.size (fun _ => True) v651 y650) := ⟨h1_⟩; have n2_ : Aside0 (w12.heap[gb642]? = some (.cells #[.slice A0_0 l0_0.length c0_0, .slice A0_1 l0_1.length c0_1] 25 (0, 0))) := ⟨h2_⟩; have n3_ : Aside0 (w12.heap[gb643]? = some (.cells #[.slice none 0 0, .slice none 0 0] 25 (0, 0))) := ⟨h3_⟩; have n4_ : Aside0 (Below w.heap.size w w12) := ⟨h4_⟩; clear BK642 BK643 HB h0_ h1_ h2_ h3_ h4_; have HO649 := n0_; have HO652 := n1_; have BK642 := n2_; have BK643 := n3_; have HB := n4_; clear n0_ n1_ n2_ n3_ n4_; have hHeld : w12.cell? ⟨gb642, 0, none⟩ = some (.slice A0_0 l0_0.length c0_0) ∧ w12.cell? ⟨gb642, 1, none⟩ = some (.slice A0_1 l0_1.length c0_1) := hS_
   refine norm_ (a' := ?_) ?_ ?_; rotate_left
   ·simp only [putAll, Act.put, sqA]; rfl
   refine one_ (i := 7) (N := some 10) (bm 10 255) rfl rfl (one_of HT_.out sqF) (by decide) (fun K hK => ?_); refine Kd.R_append_rows_step k80 (w0 := w) w.heap.size (by rfl) (.tmp 7) (.tmp 9) 23 80 (.agg #[(.int .i64 0), (.int .i64 0), (.int .i64 0)]) 24 rfl Tryd.underlying23 info80 rfl (by decide) (by omega) v651 y650 l0_1 _ _ _ (fun _ => True) (fun _ => False) rfl rfl ?aO ?aR (fun _ _ h => h) (fun _ h => h.elim) ?aF ?aB ?aS ?aL ?_
   (case aR => exact sqQ HR0_1 HB)
   (case aB => exact (sqB HB))
   (case aF => exact (fun _ _ => trivial))
   (case aO => exact (sqR HO652))
   (case aS => exact (below_size (sqB HB)))
   (case aL => have := LMc3.out; omega)
   intro v654 w13 ho hb hg hat; rw [← Ny653.out] at ho; have n0_ := Aside0.mk (blk_grown (g := gb642) (o := .cells #[.slice A0_0 l0_0.length c0_0, .slice A0_1 l0_1.length c0_1] 25 (0, 0)) (sqK BK642) hg (Kd.R_ne HO652.out BK642.out (by decide))); have n1_ := Aside0.mk (blk_grown (g := gb643) (o := .cells #[.slice none 0 0, .slice none 0 0] 25 (0, 0)) (sqK BK643) hg (Kd.R_ne HO652.out BK643.out (by decide))); have n2_ := Aside0.mk (Kd.R_over' (sqR HO649) (Kd.R_typed (sqR HO652)) (by decide) hg); have n3_ := Aside0.mk (hb); have n4_ := Aside0.mk (ho); clear BK642 BK643 HO649 HB HO652; have BK642 := n0_; have BK643 := n1_; have HO649 := n2_; have HB := n3_; have HO655 := n4_; clear n0_ n1_ n2_ n3_ n4_ ho hb hg hat; obtain ⟨Ao14, co14, eo14⟩ := Kd.R_slice HO655.out
   (first | subst eo14 | (injection eo14 with f1_ f2_ f3_; have f4_ := f1_.symm; have f5_ := f3_.symm; clear f1_ f2_ f3_; subst f4_; subst f5_))
   obtain ⟨Ao15, co15, eo15⟩ := Kd.R_slice HO649.out
   (first | subst eo15 | (injection eo15 with f1_ f2_ f3_; have f4_ := f1_.symm; have f5_ := f3_.symm; clear f1_ f2_ f3_; subst f4_; subst f5_))
   refine hK.out _ _ ⟨(blk_cell BK642.out 0).trans rfl, (blk_cell BK642.out 1).trans rfl⟩ (fun hHeld => ?_); clear hK K; refine norm_ (a' := ?_) ?_ ?_
   rotate_left
   ·show Act.put _ (some 10) _ = _
    simp only [Act.put, sqA, i64_w, i32_w]; rfl
   refine pure_ (i := 8) (N := some 11) (v := ?_) (a' := ?_) (bm 10 511) rfl rfl (any_of HT_.out sqF) (fun _ _ _ h => h) (Or.inl ⟨by rfl, ?_⟩) ?_ ?_
   rotate_left
   ·intro w'
    go_simp; with_reducible rfl
   rotate_left
   ·simp only [Act.put, sqA, i64_w, i32_w]; rfl
   refine one_ (i := 9) (N := none) (bm 10 1023) rfl rfl (one_of HT_.out sqF) (by decide) (fun K hK => ?_); have hs16 : w13.cell? ⟨gb643, 0, none⟩ = some (.slice none 0 0) := (blk_cell BK643.out 0).trans rfl; have hfs16 := blk_frozen BK643.out 0; have hns16_0 := NB642_643.out; have hms16_0 := NB643_642.out; have hs17 : w13.cell? ⟨gb643, 1, none⟩ = some (.slice none 0 0) := (blk_cell BK643.out 1).trans rfl; have hfs17 := blk_frozen BK643.out 1; have hns17_0 := NB642_643.out; have hms17_0 := NB643_642.out; refine skip_ (w1 := ?_) (by rfl) rfl ?_ ?_
   rotate_left
   ·go_simp
    rfl
   refine hK.out _ _ ⟨((cell_far (p := ⟨gb643, _, none⟩) NB642_643.out _).trans (((cell_far (p := ⟨gb643, _, none⟩) NB642_643.out _).trans (hHeld.1)))), ((cell_far (p := ⟨gb643, _, none⟩) NB642_643.out _).trans (((cell_far (p := ⟨gb643, _, none⟩) NB642_643.out _).trans (hHeld.2))))⟩ (fun hHeld => ?_); clear hK K; refine done_ (done_of HT_.out sqF) ?_
   try go_wp2
   refine bodyPost_ret (results_cell_row rfl _ _ gb643 25 #[.slice Ao15 y647.length co15, .slice Ao14 y653.length co14] (0, 0) _ rfl (by (with_reducible repeat (first | refine blk_drewN ?_ _ | refine blk_drew ?_ | refine blk_alloc ?_ _)); refine blk_put (cs := #[.slice Ao15 y647.length co15, .slice none 0 0]) ?_ 1 _ rfl; (with_reducible repeat (first | refine blk_drewN ?_ _ | refine blk_drew ?_ | refine blk_alloc ?_ _)); refine blk_put (cs := #[.slice none 0 0, .slice none 0 0]) ?_ 0 _ rfl; (with_reducible repeat (first | refine blk_drewN ?_ _ | refine blk_drew ?_ | refine blk_alloc ?_ _)); exact BK643.out) Tryd.underlying25 rfl sqF) rfl ?_; exact ⟨_, _, by first | rfl | (simp [errW_none, errW_some] <;> rfl) | (simp [*, errW_none, errW_some] <;> rfl), by (with_reducible repeat (first | apply Kd.R_alloc | apply Kd.R_drewN | apply Kd.R_drew)); exact Kd.R_mono (Kd.R_far (p := ⟨gb643, 1, none⟩) (Kd.R_far (p := ⟨gb643, 0, none⟩) (Kd.R_types HO649.out BK643.out (by decide)) (fun _ hk => hk.2) (.slice Ao15 y647.length co15)) (fun _ hk => hk.2) (.slice Ao14 y653.length co14)) (fun _ hk => trivial), by (with_reducible repeat (first | apply Kd.R_alloc | apply Kd.R_drewN | apply Kd.R_drew)); exact Kd.R_mono (Kd.R_far (p := ⟨gb643, 1, none⟩) (Kd.R_far (p := ⟨gb643, 0, none⟩) (Kd.R_types HO655.out BK643.out (by decide)) (fun _ hk => hk.2) (.slice Ao15 y647.length co15)) (fun _ hk => hk.2) (.slice Ao14 y653.length co14)) (fun _ hk => trivial), sqB HB⟩
  ·rw [if_neg c3] at H
   exact absurd H (by simp)
 ·rw [if_neg c2] at H
  exact absurd H (by simp)
end Go.Proofs.YtemingmeidmjkaaDoor.Q
namespace Go.Proofs.YtemingmeidmjkaaDoor.Q
open Go.RowKit Go.Proofs.YtemingmeidmjkaaDoorW.PrintWords Go.Proofs.YtemingmeidmjkaaDoorW.PrintLast Go.Proofs.YtemingmeidmjkaaDoorW.PrintMore
attribute [local go_sem] max2_int min2_int max_two min_two max_three min_three max_four min_four   -- for this text's walks alone
set_option linter.unusedVariables false
set_option linter.unusedSimpArgs false
mutual
def lw_WoolEnough.j0 : Nat → Int → Int → Int → Int → Bool → List (S76) → Int → List Int → List (S136) → List (S41) → List (S80) → Option (Bool)
 | 0, _, _, _, _, _, _, _, _, _, _, _ => none
 | k + 1, x2, x8, x9, x10, x56, x1103000, x1103001, x1103002, x1103003, x1110000, x1110001 => if x56 = true then (some false) else (lw_WoolEnough.l0 k x2 x8 x9 x10 0 x1103000 x1103001 x1103002 x1103003 x1110000 x1110001)
def lw_WoolEnough.l0 : Nat → Int → Int → Int → Int → Int → List (S76) → Int → List Int → List (S136) → List (S41) → List (S80) → Option (Bool)
 | 0, _, _, _, _, _, _, _, _, _, _, _ => none
 | k + 1, x2, x8, x9, x10, x11, x1103000, x1103001, x1103002, x1103003, x1110000, x1110001 => if x11 < 3 then (if x11 = 0 then (if x10 = 0 then (lw_WoolEnough.j2 k x2 x8 x9 x10 x11 x9 x1103000 x1103001 x1103002 x1103003 x1110000 x1110001) else (lw_WoolEnough.j2 k x2 x8 x9 x10 x11 400 x1103000 x1103001 x1103002 x1103003 x1110000 x1110001)) else (if x11 = 1 then (if x10 = 0 then (lw_WoolEnough.j5 k x2 x8 x9 x10 x11 (wrap64 (x9 - 1)) x1103000 x1103001 x1103002 x1103003 x1110000 x1110001) else (lw_WoolEnough.j5 k x2 x8 x9 x10 x11 400 x1103000 x1103001 x1103002 x1103003 x1110000 x1110001)) else (if x11 = 2 then (if x10 = 0 then (lw_WoolEnough.j6 k x2 x8 x9 x10 x11 (mn 400 (wrap64 (x9 + (wrap64 (x2))))) x1103000 x1103001 x1103002 x1103003 x1110000 x1110001) else (lw_WoolEnough.j6 k x2 x8 x9 x10 x11 400 x1103000 x1103001 x1103002 x1103003 x1110000 x1110001)) else (none)))) else ((lw_known.f).bind fun t1118 => (some t1118))
def lw_WoolEnough.j2 : Nat → Int → Int → Int → Int → Int → Int → List (S76) → Int → List Int → List (S136) → List (S41) → List (S80) → Option (Bool)
 | 0, _, _, _, _, _, _, _, _, _, _, _, _ => none
 | k + 1, x2, x8, x9, x10, x11, x12, x1103000, x1103001, x1103002, x1103003, x1110000, x1110001 => if x12 < 0 then (lw_WoolEnough.l0 k x2 x8 x9 x10 (wrap64 (x11 + 1)) x1103000 x1103001 x1103002 x1103003 x1110000 x1110001) else (lw_WoolEnough.l1 k x2 x8 x9 x10 x11 x12 x12 0 x1103000 x1103001 x1103002 x1103003 x1110000 x1110001)
def lw_WoolEnough.l1 : Nat → Int → Int → Int → Int → Int → Int → Int → Int → List (S76) → Int → List Int → List (S136) → List (S41) → List (S80) → Option (Bool)
 | 0, _, _, _, _, _, _, _, _, _, _, _, _, _, _ => none
 | k + 1, x2, x8, x9, x10, x11, x12, x13, x14, x1103000, x1103001, x1103002, x1103003, x1110000, x1110001 => if x14 < (x1110000.length : Int) then (if 0 ≤ x14 then ((lw_most.f ((rd_T41 x1110000 x14).f0) ((rd_T41 x1110000 x14).f1) x13).bind fun t1120 => (lw_WoolEnough.l1 k x2 x8 x9 x10 x11 x12 (wrap64 (x13 - t1120)) (wrap64 (x14 + 1)) x1103000 x1103001 x1103002 x1103003 x1110000 x1110001)) else (none)) else (if x10 = 0 then (lw_WoolEnough.j4 k x2 x8 x9 x10 x11 x12 x13 ((decide (x13 ≥ x8)) != (x11 != 1)) x1103000 x1103001 x1103002 x1103003 x1110000 x1110001) else (lw_WoolEnough.j4 k x2 x8 x9 x10 x11 x12 x13 ((decide (x13 ≥ x8)) != false) x1103000 x1103001 x1103002 x1103003 x1110000 x1110001))
def lw_WoolEnough.j4 : Nat → Int → Int → Int → Int → Int → Int → Int → Bool → List (S76) → Int → List Int → List (S136) → List (S41) → List (S80) → Option (Bool)
 | 0, _, _, _, _, _, _, _, _, _, _, _, _, _, _ => none
 | k + 1, x2, x8, x9, x10, x11, x12, x13, x102, x1103000, x1103001, x1103002, x1103003, x1110000, x1110001 => if x102 = true then (some false) else ((lw_Cart_lived.f k x1103000 (IntKind.u16.wrap (x12)) x1103002 x1103003 x1110000 x1110001 (-1) 0).bind fun bt1121 => (if 0 ≤ (wrap64 ((bt1121.1.length : Int) - 1)) then (if (wrap64 ((bt1121.1.length : Int) - 1)) < (bt1121.1.length : Int) then (if (rd bt1121.1 (wrap64 ((bt1121.1.length : Int) - 1))) < x13 then (some false) else (lw_WoolEnough.l0 k x2 x8 x9 x10 (wrap64 (x11 + 1)) x1103000 (IntKind.u16.wrap (x12)) x1103002 x1103003 x1110000 x1110001)) else (none)) else (none)))
def lw_WoolEnough.j5 : Nat → Int → Int → Int → Int → Int → Int → List (S76) → Int → List Int → List (S136) → List (S41) → List (S80) → Option (Bool)
 | 0, _, _, _, _, _, _, _, _, _, _, _, _ => none
 | k + 1, x2, x8, x9, x10, x11, x12, x1103000, x1103001, x1103002, x1103003, x1110000, x1110001 => if x12 < 0 then (lw_WoolEnough.l0 k x2 x8 x9 x10 (wrap64 (x11 + 1)) x1103000 x1103001 x1103002 x1103003 x1110000 x1110001) else (lw_WoolEnough.l1 k x2 x8 x9 x10 x11 x12 x12 0 x1103000 x1103001 x1103002 x1103003 x1110000 x1110001)
def lw_WoolEnough.j6 : Nat → Int → Int → Int → Int → Int → Int → List (S76) → Int → List Int → List (S136) → List (S41) → List (S80) → Option (Bool)
 | 0, _, _, _, _, _, _, _, _, _, _, _, _ => none
 | k + 1, x2, x8, x9, x10, x11, x12, x1103000, x1103001, x1103002, x1103003, x1110000, x1110001 => if x12 < 0 then (lw_WoolEnough.l0 k x2 x8 x9 x10 (wrap64 (x11 + 1)) x1103000 x1103001 x1103002 x1103003 x1110000 x1110001) else (lw_WoolEnough.l1 k x2 x8 x9 x10 x11 x12 x12 0 x1103000 x1103001 x1103002 x1103003 x1110000 x1110001)
end
def lw_WoolEnough.f (k : Nat) (l0_0 : List (S76)) (a0_1 : Int) (l0_2 : List Int) (l0_3 : List (S136)) (a1 : Int) (a2 : Int) : Option (Bool) := (lw_Cart_road.f k l0_0 a0_1 l0_2 l0_3).bind fun bt1103 => ((lw_own.f bt1103.1 bt1103.2).bind fun bt1110 => ((wool_Need.f bt1110.1 bt1110.2 (Int.tmod (wrap64 (a1)) 401)).bind fun bt1116 => (if bt1116.2 = 0 then (if bt1116.1 < 0 then (lw_WoolEnough.j0 k a2 (Int.tmod (wrap64 (a1)) 401) bt1116.1 bt1116.2 true l0_0 a0_1 l0_2 l0_3 bt1103.1 bt1103.2) else (if bt1116.1 > 400 then (lw_WoolEnough.j0 k a2 (Int.tmod (wrap64 (a1)) 401) bt1116.1 bt1116.2 true l0_0 a0_1 l0_2 l0_3 bt1103.1 bt1103.2) else (lw_WoolEnough.j0 k a2 (Int.tmod (wrap64 (a1)) 401) bt1116.1 bt1116.2 (decide (bt1116.1 < (Int.tmod (wrap64 (a1)) 401))) l0_0 a0_1 l0_2 l0_3 bt1103.1 bt1103.2))) else (if bt1116.2 = 7 then (if bt1116.1 = 0 then (if bt1116.1 < 0 then (lw_WoolEnough.j0 k a2 (Int.tmod (wrap64 (a1)) 401) bt1116.1 bt1116.2 true l0_0 a0_1 l0_2 l0_3 bt1103.1 bt1103.2) else (if bt1116.1 > 400 then (lw_WoolEnough.j0 k a2 (Int.tmod (wrap64 (a1)) 401) bt1116.1 bt1116.2 true l0_0 a0_1 l0_2 l0_3 bt1103.1 bt1103.2) else (lw_WoolEnough.j0 k a2 (Int.tmod (wrap64 (a1)) 401) bt1116.1 bt1116.2 false l0_0 a0_1 l0_2 l0_3 bt1103.1 bt1103.2))) else (lw_WoolEnough.j0 k a2 (Int.tmod (wrap64 (a1)) 401) bt1116.1 bt1116.2 true l0_0 a0_1 l0_2 l0_3 bt1103.1 bt1103.2)) else (lw_WoolEnough.j0 k a2 (Int.tmod (wrap64 (a1)) 401) bt1116.1 bt1116.2 true l0_0 a0_1 l0_2 l0_3 bt1103.1 bt1103.2)))))
set_option maxHeartbeats 8000000 in
set_option maxRecDepth 100000 in
theorem lw_WoolEnough.calls (k : Nat) (A0_0 : Option Addr) (c0_0 : Nat) (l0_0 : List (S76)) (a0_1 : Int) (A0_2 : Option Addr) (c0_2 : Nat) (l0_2 : List Int) (A0_3 : Option Addr) (c0_3 : Nat) (l0_3 : List (S136)) (a1 : Int) (a2 : Int) (r : Bool) (w : World) (hG : GL w) (hr0_0 : Kd.C k76 w A0_0 l0_0.length l0_0) (hc0_0 : l0_0.length ≤ c0_0) (hr0_2 : Kd.C (Kd.int .u8) w A0_2 l0_2.length l0_2) (hc0_2 : l0_2.length ≤ c0_2) (hr0_3 : Kd.C k136 w A0_3 l0_3.length l0_3) (hc0_3 : l0_3.length ≤ c0_3) (h : lw_WoolEnough.f k l0_0 a0_1 l0_2 l0_3 a1 a2 = some r) :
  Calls Tryd.prog 15 #[.agg #[.slice A0_0 l0_0.length c0_0, .int .u16 a0_1, .slice A0_2 l0_2.length c0_2, .slice A0_3 l0_3.length c0_3], .int .u16 a1, .int .u8 a2] w fun e w' => e = .returned (.bool r) ∧ Below w.heap.size w w' := by
 have hu69 := Tryd.underlying69; have hu25 := Tryd.underlying25; have hu85 := Tryd.underlying85; have hu41 := Tryd.underlying41; have HR0_0 := Aside0.mk hr0_0; have HC0_0 := Aside0.mk hc0_0; clear hr0_0 hc0_0; have HR0_2 := Aside0.mk hr0_2; have HC0_2 := Aside0.mk hc0_2; clear hr0_2 hc0_2; have HR0_3 := Aside0.mk hr0_3; have HC0_3 := Aside0.mk hc0_3; clear hr0_3 hc0_3; have HB := Aside0.mk (Below.refl w.heap.size w); have HGL := Aside0.mk hG; clear hG; have H : ((lw_Cart_road.f k l0_0 a0_1 l0_2 l0_3).bind fun bt1103 => ((lw_own.f bt1103.1 bt1103.2).bind fun bt1110 => ((wool_Need.f bt1110.1 bt1110.2 (Int.tmod (wrap64 (a1)) 401)).bind fun bt1116 => (if bt1116.2 = 0 then (if bt1116.1 < 0 then (lw_WoolEnough.j0 k a2 (Int.tmod (wrap64 (a1)) 401) bt1116.1 bt1116.2 true l0_0 a0_1 l0_2 l0_3 bt1103.1 bt1103.2) else (if bt1116.1 > 400 then (lw_WoolEnough.j0 k a2 (Int.tmod (wrap64 (a1)) 401) bt1116.1 bt1116.2 true l0_0 a0_1 l0_2 l0_3 bt1103.1 bt1103.2) else (lw_WoolEnough.j0 k a2 (Int.tmod (wrap64 (a1)) 401) bt1116.1 bt1116.2 (decide (bt1116.1 < (Int.tmod (wrap64 (a1)) 401))) l0_0 a0_1 l0_2 l0_3 bt1103.1 bt1103.2))) else (if bt1116.2 = 7 then (if bt1116.1 = 0 then (if bt1116.1 < 0 then (lw_WoolEnough.j0 k a2 (Int.tmod (wrap64 (a1)) 401) bt1116.1 bt1116.2 true l0_0 a0_1 l0_2 l0_3 bt1103.1 bt1103.2) else (if bt1116.1 > 400 then (lw_WoolEnough.j0 k a2 (Int.tmod (wrap64 (a1)) 401) bt1116.1 bt1116.2 true l0_0 a0_1 l0_2 l0_3 bt1103.1 bt1103.2) else (lw_WoolEnough.j0 k a2 (Int.tmod (wrap64 (a1)) 401) bt1116.1 bt1116.2 false l0_0 a0_1 l0_2 l0_3 bt1103.1 bt1103.2))) else (lw_WoolEnough.j0 k a2 (Int.tmod (wrap64 (a1)) 401) bt1116.1 bt1116.2 true l0_0 a0_1 l0_2 l0_3 bt1103.1 bt1103.2)) else (lw_WoolEnough.j0 k a2 (Int.tmod (wrap64 (a1)) 401) bt1116.1 bt1116.2 true l0_0 a0_1 l0_2 l0_3 bt1103.1 bt1103.2)))))) = some r := h; clear h; obtain ⟨⟨t1103, t1106⟩, A40, H⟩ := Option.bind_eq_some_iff.mp H; replace H : ((lw_own.f t1103 t1106).bind fun bt1110 => ((wool_Need.f bt1110.1 bt1110.2 (Int.tmod (wrap64 (a1)) 401)).bind fun bt1116 => (if bt1116.2 = 0 then (if bt1116.1 < 0 then (lw_WoolEnough.j0 k a2 (Int.tmod (wrap64 (a1)) 401) bt1116.1 bt1116.2 true l0_0 a0_1 l0_2 l0_3 t1103 t1106) else (if bt1116.1 > 400 then (lw_WoolEnough.j0 k a2 (Int.tmod (wrap64 (a1)) 401) bt1116.1 bt1116.2 true l0_0 a0_1 l0_2 l0_3 t1103 t1106) else (lw_WoolEnough.j0 k a2 (Int.tmod (wrap64 (a1)) 401) bt1116.1 bt1116.2 (decide (bt1116.1 < (Int.tmod (wrap64 (a1)) 401))) l0_0 a0_1 l0_2 l0_3 t1103 t1106))) else (if bt1116.2 = 7 then (if bt1116.1 = 0 then (if bt1116.1 < 0 then (lw_WoolEnough.j0 k a2 (Int.tmod (wrap64 (a1)) 401) bt1116.1 bt1116.2 true l0_0 a0_1 l0_2 l0_3 t1103 t1106) else (if bt1116.1 > 400 then (lw_WoolEnough.j0 k a2 (Int.tmod (wrap64 (a1)) 401) bt1116.1 bt1116.2 true l0_0 a0_1 l0_2 l0_3 t1103 t1106) else (lw_WoolEnough.j0 k a2 (Int.tmod (wrap64 (a1)) 401) bt1116.1 bt1116.2 false l0_0 a0_1 l0_2 l0_3 t1103 t1106))) else (lw_WoolEnough.j0 k a2 (Int.tmod (wrap64 (a1)) 401) bt1116.1 bt1116.2 true l0_0 a0_1 l0_2 l0_3 t1103 t1106)) else (lw_WoolEnough.j0 k a2 (Int.tmod (wrap64 (a1)) 401) bt1116.1 bt1116.2 true l0_0 a0_1 l0_2 l0_3 t1103 t1106))))) = some r := H
 have A4 := Aside0.mk A40; clear A40; obtain ⟨⟨t1110, t1113⟩, A50, H⟩ := Option.bind_eq_some_iff.mp H; replace H : ((wool_Need.f t1110 t1113 (Int.tmod (wrap64 (a1)) 401)).bind fun bt1116 => (if bt1116.2 = 0 then (if bt1116.1 < 0 then (lw_WoolEnough.j0 k a2 (Int.tmod (wrap64 (a1)) 401) bt1116.1 bt1116.2 true l0_0 a0_1 l0_2 l0_3 t1103 t1106) else (if bt1116.1 > 400 then (lw_WoolEnough.j0 k a2 (Int.tmod (wrap64 (a1)) 401) bt1116.1 bt1116.2 true l0_0 a0_1 l0_2 l0_3 t1103 t1106) else (lw_WoolEnough.j0 k a2 (Int.tmod (wrap64 (a1)) 401) bt1116.1 bt1116.2 (decide (bt1116.1 < (Int.tmod (wrap64 (a1)) 401))) l0_0 a0_1 l0_2 l0_3 t1103 t1106))) else (if bt1116.2 = 7 then (if bt1116.1 = 0 then (if bt1116.1 < 0 then (lw_WoolEnough.j0 k a2 (Int.tmod (wrap64 (a1)) 401) bt1116.1 bt1116.2 true l0_0 a0_1 l0_2 l0_3 t1103 t1106) else (if bt1116.1 > 400 then (lw_WoolEnough.j0 k a2 (Int.tmod (wrap64 (a1)) 401) bt1116.1 bt1116.2 true l0_0 a0_1 l0_2 l0_3 t1103 t1106) else (lw_WoolEnough.j0 k a2 (Int.tmod (wrap64 (a1)) 401) bt1116.1 bt1116.2 false l0_0 a0_1 l0_2 l0_3 t1103 t1106))) else (lw_WoolEnough.j0 k a2 (Int.tmod (wrap64 (a1)) 401) bt1116.1 bt1116.2 true l0_0 a0_1 l0_2 l0_3 t1103 t1106)) else (lw_WoolEnough.j0 k a2 (Int.tmod (wrap64 (a1)) 401) bt1116.1 bt1116.2 true l0_0 a0_1 l0_2 l0_3 t1103 t1106)))) = some r := H; have A5 := Aside0.mk A50; clear A50; obtain ⟨⟨t1116, t1117⟩, A60, H⟩ := Option.bind_eq_some_iff.mp H; replace H : (if t1117 = 0 then (if t1116 < 0 then (lw_WoolEnough.j0 k a2 (Int.tmod (wrap64 (a1)) 401) t1116 t1117 true l0_0 a0_1 l0_2 l0_3 t1103 t1106) else (if t1116 > 400 then (lw_WoolEnough.j0 k a2 (Int.tmod (wrap64 (a1)) 401) t1116 t1117 true l0_0 a0_1 l0_2 l0_3 t1103 t1106) else (lw_WoolEnough.j0 k a2 (Int.tmod (wrap64 (a1)) 401) t1116 t1117 (decide (t1116 < (Int.tmod (wrap64 (a1)) 401))) l0_0 a0_1 l0_2 l0_3 t1103 t1106))) else (if t1117 = 7 then (if t1116 = 0 then (if t1116 < 0 then (lw_WoolEnough.j0 k a2 (Int.tmod (wrap64 (a1)) 401) t1116 t1117 true l0_0 a0_1 l0_2 l0_3 t1103 t1106) else (if t1116 > 400 then (lw_WoolEnough.j0 k a2 (Int.tmod (wrap64 (a1)) 401) t1116 t1117 true l0_0 a0_1 l0_2 l0_3 t1103 t1106) else (lw_WoolEnough.j0 k a2 (Int.tmod (wrap64 (a1)) 401) t1116 t1117 false l0_0 a0_1 l0_2 l0_3 t1103 t1106))) else (lw_WoolEnough.j0 k a2 (Int.tmod (wrap64 (a1)) 401) t1116 t1117 true l0_0 a0_1 l0_2 l0_3 t1103 t1106)) else (lw_WoolEnough.j0 k a2 (Int.tmod (wrap64 (a1)) 401) t1116 t1117 true l0_0 a0_1 l0_2 l0_3 t1103 t1106))) = some r := H; have A6 := Aside0.mk A60; clear A60; have HC7 := Aside0.mk H; clear H; go_enter Tryd.func15, Tryd.ntmps15
 go_upto_region 3 with (first | ((with_reducible refine gate_dst (N := 3) rfl ?_); refine box_event ?hg (N := 3) ?hd (cs := #[.slice A0_0 l0_0.length c0_0, .int .u16 a0_1, .slice A0_2 l0_2.length c0_2, .slice A0_3 l0_3.length c0_3]) (t := 69) ?hr ?_; (case hd => rfl); (case hg => rfl); (case hr => first | (go_simp; done) | (go_simp; rfl)); intro gb1102 hg w8 hbox hb; have BK1102 := Aside0.mk (hbox); have GW1102 := Aside0.mk (sqZ hg HB); have GE1102 := Aside0.mk (sqZ hg HB); replace HB := sqb hb HB; clear hb hbox hg; have hcz9_0 := sqc0 BK1102; have hcz9_1 := sqc1 BK1102; have hcz9_2 := sqc2 BK1102; have hcz9_3 : w8.cell? ⟨gb1102, 3, none⟩ = some (.slice A0_3 l0_3.length c0_3) := (blk_cell BK1102.out 3).trans rfl; have hfz9_0 := blk_frozen BK1102.out 0; have hfz9_1 := blk_frozen BK1102.out 1; have hfz9_2 := blk_frozen BK1102.out 2; have hfz9_3 := blk_frozen BK1102.out 3) | ((with_reducible refine gate_callee (f := 45) rfl ?_); refine goesL_ (some 19) rfl rfl Tryd.func45 sqF rfl #[.agg #[.slice A0_0 l0_0.length c0_0, .int .u16 a0_1, .slice A0_2 l0_2.length c0_2, .slice A0_3 l0_3.length c0_3]] rfl sqM ?_; (with_reducible refine (lw_Cart_road.calls k _ _ l0_0 a0_1 _ _ l0_2 _ _ l0_3 t1103 t1106 _ ?side1 ?side2 ?side3 ?side4 ?side5 ?side6 A4.out).mono ?_); (case side1 => exact sqQ HR0_0 HB); (case side2 => exact HC0_0.out); (case side3 => exact sqQ HR0_2 HB); (case side4 => exact HC0_2.out); (case side5 => exact sqQ HR0_3 HB); (case side6 => exact HC0_3.out); rintro e w10 ⟨v1104, v1107, rfl, ho0, ho1, hb⟩; refine ⟨_, rfl, ?_⟩; have HO1105 := Aside0.mk (Kd.R_lower ho0 (below_size (sqB HB))); have HO1108 := Aside0.mk (Kd.R_lower ho1 (below_size (sqB HB))); replace BK1102 := sqk BK1102 hb; replace HB := sqb hb HB; (try clear hb); (try clear hb2); (try clear hk); (try clear hi); (try clear ho0); (try clear ho1)) | ((with_reducible refine gate_dst (N := 7) rfl ?_); refine box_event ?hg (N := 7) ?hd (cs := #[.slice none 0 0, .slice none 0 0]) (t := 25) ?hr ?_; (case hd => rfl); (case hg => rfl); (case hr => first | (go_simp; done) | (go_simp; rfl)); intro gb1109 hg w11 hbox hb; replace HO1105 := Aside0.mk (Kd.R_below (sqR HO1105) hb); replace HO1108 := Aside0.mk (Kd.R_below (sqR HO1108) hb); have BK1109 := Aside0.mk (hbox); have GW1109 := Aside0.mk (sqZ hg HB); have GE1109 := Aside0.mk (sqZ hg HB); replace HB := sqb hb HB; have NB1102_1109 := Aside0.mk (sqL hg BK1102); have NB1109_1102 := Aside0.mk (sqG hg BK1102); replace BK1102 := sqk BK1102 hb; clear hb hbox hg; obtain ⟨Ao12, co12, eo12⟩ := Kd.R_slice HO1105.out; subst eo12; have hnb13 := NB1109_1102.out; have hnc13 := NB1102_1109.out; have hcz14_0 := sqc0 BK1109; have hcz14_1 := sqc1 BK1109; have hfz14_0 := blk_frozen BK1109.out 0; have hfz14_1 := blk_frozen BK1109.out 1; obtain ⟨Ao15, co15, eo15⟩ := Kd.R_slice HO1108.out; subst eo15) | ((with_reducible refine gate_callee (f := 48) rfl ?_); refine goesL_ (some 25) rfl rfl Tryd.func48 sqF rfl #[.agg #[.slice Ao12 t1103.length co12, .slice Ao15 t1106.length co15]] rfl sqM ?_; (with_reducible refine (lw_own.calls _ _ t1103 _ _ t1106 t1110 t1113 _ ?side1 ?side2 ?side3 ?side4 A5.out).mono ?_); (case side1 => refine (Kd.R_reads' (e := 41) (base := w.heap.size) (ok := fun k_ => True) (n := t1103.length) (c := co12) ?_).2.2; exact (by (with_reducible repeat (first | apply Kd.R_alloc | apply Kd.R_drewN | apply Kd.R_drew)); exact (Kd.R_mono (Kd.R_far (p := ⟨gb1109, 1, none⟩) (Kd.R_far (p := ⟨gb1109, 0, none⟩) (Kd.R_types HO1105.out BK1109.out (by decide)) (fun _ hk => hk.2) (.slice Ao12 t1103.length co12)) (fun _ hk => hk.2) (.slice Ao15 t1106.length co15)) (fun _ h_ => h_.1)))); (case side2 => exact (Kd.R_reads' HO1105.out).2.1); (case side3 => refine (Kd.R_reads' (e := 80) (base := w.heap.size) (ok := fun k_ => True) (n := t1106.length) (c := co15) ?_).2.2; exact (by (with_reducible repeat (first | apply Kd.R_alloc | apply Kd.R_drewN | apply Kd.R_drew)); exact (Kd.R_mono (Kd.R_far (p := ⟨gb1109, 1, none⟩) (Kd.R_far (p := ⟨gb1109, 0, none⟩) (Kd.R_types HO1108.out BK1109.out (by decide)) (fun _ hk => hk.2) (.slice Ao12 t1103.length co12)) (fun _ hk => hk.2) (.slice Ao15 t1106.length co15)) (fun _ h_ => h_.1)))); (case side4 => exact (Kd.R_reads' HO1108.out).2.1); rintro e w16 ⟨v1111, v1114, rfl, ho0, ho1, hb⟩; refine ⟨_, rfl, ?_⟩; have HO1112 := Aside0.mk (Kd.R_lower (Kd.R_new' ho0 (Kd.R_lt (by (with_reducible repeat (first | apply Kd.R_alloc | apply Kd.R_drewN | apply Kd.R_drew)); exact (Kd.R_mono (Kd.R_far (p := ⟨gb1109, 1, none⟩) (Kd.R_far (p := ⟨gb1109, 0, none⟩) (Kd.R_types HO1105.out BK1109.out (by decide)) (fun _ hk => hk.2) (.slice Ao12 t1103.length co12)) (fun _ hk => hk.2) (.slice Ao15 t1106.length co15)) (fun _ h_ => h_.1))))) (below_size (sqB HB))); replace HO1105 := Aside0.mk (Kd.R_elder' (by (with_reducible repeat (first | apply Kd.R_alloc | apply Kd.R_drewN | apply Kd.R_drew)); exact (Kd.R_mono (Kd.R_far (p := ⟨gb1109, 1, none⟩) (Kd.R_far (p := ⟨gb1109, 0, none⟩) (Kd.R_types HO1105.out BK1109.out (by decide)) (fun _ hk => hk.2) (.slice Ao12 t1103.length co12)) (fun _ hk => hk.2) (.slice Ao15 t1106.length co15)) (fun _ h_ => h_.1))) (Kd.R_base ho0) hb); have HO1115 := Aside0.mk (Kd.R_lower (Kd.R_new' ho1 (Kd.R_lt (by (with_reducible repeat (first | apply Kd.R_alloc | apply Kd.R_drewN | apply Kd.R_drew)); exact (Kd.R_mono (Kd.R_far (p := ⟨gb1109, 1, none⟩) (Kd.R_far (p := ⟨gb1109, 0, none⟩) (Kd.R_types HO1108.out BK1109.out (by decide)) (fun _ hk => hk.2) (.slice Ao12 t1103.length co12)) (fun _ hk => hk.2) (.slice Ao15 t1106.length co15)) (fun _ h_ => h_.1))))) (below_size (sqB HB))); replace HO1108 := Aside0.mk (Kd.R_elder' (by (with_reducible repeat (first | apply Kd.R_alloc | apply Kd.R_drewN | apply Kd.R_drew)); exact (Kd.R_mono (Kd.R_far (p := ⟨gb1109, 1, none⟩) (Kd.R_far (p := ⟨gb1109, 0, none⟩) (Kd.R_types HO1108.out BK1109.out (by decide)) (fun _ hk => hk.2) (.slice Ao12 t1103.length co12)) (fun _ hk => hk.2) (.slice Ao15 t1106.length co15)) (fun _ h_ => h_.1))) (Kd.R_base ho1) hb); replace BK1102 := Aside0.mk (blk_below (g := gb1102) (o := .cells #[.slice A0_0 l0_0.length c0_0, .int .u16 a0_1, .slice A0_2 l0_2.length c0_2, .slice A0_3 l0_3.length c0_3] 69 (0, 0)) sqX hb); replace BK1109 := Aside0.mk (blk_below (g := gb1109) (o := .cells #[.slice Ao12 t1103.length co12, .slice Ao15 t1106.length co15] 25 (0, 0)) (by (with_reducible repeat (first | refine blk_drewN ?_ _ | refine blk_drew ?_ | refine blk_alloc ?_ _)); refine blk_put (cs := #[.slice Ao12 t1103.length co12, .slice none 0 0]) ?_ 1 _ rfl; (with_reducible repeat (first | refine blk_drewN ?_ _ | refine blk_drew ?_ | refine blk_alloc ?_ _)); refine blk_put (cs := #[.slice none 0 0, .slice none 0 0]) ?_ 0 _ rfl; (with_reducible repeat (first | refine blk_drewN ?_ _ | refine blk_drew ?_ | refine blk_alloc ?_ _)); exact BK1109.out) hb); replace HB := sqb hb HB; (try clear hb); (try clear hb2); (try clear hk); (try clear hi); (try clear ho0); (try clear ho1); obtain ⟨Ao17, co17, eo17⟩ := Kd.R_slice HO1112.out; subst eo17; obtain ⟨Ao18, co18, eo18⟩ := Kd.R_slice HO1115.out; subst eo18) | ((with_reducible refine gate_callee (f := 43) rfl ?_); refine goesL_ (some 27) rfl rfl Tryd.func43 sqF rfl #[.agg #[.slice Ao17 t1110.length co17, .slice Ao18 t1113.length co18], .int .i64 (Int.tmod (wrap64 (a1)) 401)] rfl sqM ?_; (with_reducible refine (wool_Need.calls _ _ t1110 _ _ t1113 (Int.tmod (wrap64 (a1)) 401) t1116 t1117 _ ?side1 ?side2 ?side3 ?side4 A6.out).mono ?_); (case side1 => repeat (first | exact (Kd.R_reads' HO1112.out).2.2 | (with_reducible refine Kd.C_alloc ?_ _) | (with_reducible refine Kd.C_drewN ?_ _) | (with_reducible refine Kd.C_drew ?_))); (case side2 => exact (Kd.R_reads' HO1112.out).2.1); (case side3 => repeat (first | exact (Kd.R_reads' HO1115.out).2.2 | (with_reducible refine Kd.C_alloc ?_ _) | (with_reducible refine Kd.C_drewN ?_ _) | (with_reducible refine Kd.C_drew ?_))); (case side4 => exact (Kd.R_reads' HO1115.out).2.1); rintro e w19 ⟨rfl, hb⟩; refine ⟨_, rfl, ?_⟩; replace HO1105 := Aside0.mk (Kd.R_below (sqR HO1105) hb); replace HO1108 := Aside0.mk (Kd.R_below (sqR HO1108) hb); replace HO1112 := Aside0.mk (Kd.R_below (sqR HO1112) hb); replace HO1115 := Aside0.mk (Kd.R_below (sqR HO1115) hb); replace BK1102 := sqk BK1102 hb; replace BK1109 := sqk BK1109 hb; replace HB := sqb hb HB; (try clear hb); (try clear hb2); (try clear hk); (try clear hi)))
 (try simp only [Act.put, sqA])
 go_cut [56] (fun v56 wc => ∃ (kq : Nat) (x56_6 : Bool), v56 = .bool x56_6 ∧ Aside0 (lw_WoolEnough.j0 kq a2 (Int.tmod (wrap64 (a1)) 401) t1116 t1117 x56_6 l0_0 a0_1 l0_2 l0_3 t1103 t1106 = some r) ∧ Aside0 (kq ≤ k) ∧ Aside0 (Kd.R k41 41 wc w.heap.size (fun _ => True) (.slice Ao12 t1103.length co12) t1103) ∧ Aside0 (Kd.R k80 80 wc w.heap.size (fun _ => True) (.slice Ao15 t1106.length co15) t1106) ∧ Aside0 (wc.heap[gb1102]? = some (.cells #[(.slice A0_0 l0_0.length c0_0), .int .u16 a0_1, (.slice A0_2 l0_2.length c0_2), (.slice A0_3 l0_3.length c0_3)] 69 (0, 0))) ∧ Aside0 (wc.heap[gb1109]? = some (.cells #[(.slice Ao12 t1103.length co12), (.slice Ao15 t1106.length co15)] 25 (0, 0))) ∧ Aside0 (Below w.heap.size w wc))
 case first =>
  have H := HC7.out; clear HC7
  by_cases c20 : t1117 = 0
  ·rw [if_pos c20] at H
   have c20b0 : (t1117 == 0) = true := beq_iff_eq.mpr c20; have c20b1 : (t1117 != 0) = false := bne_eq_false_iff_eq.mpr c20; clear c20
   (first | rw [c20b0] | (simp only [i64_w, i32_w]; rw [c20b0]) | skip)
   by_cases c21 : t1116 < 0
   ·rw [if_pos c21] at H
    have c21b0 : decide (t1116 < 0) = true := decide_eq_true c21; clear c21; have H' := Aside0.mk H; clear H; go_wp2
    go_meet
    case rel => exact ⟨_, (true), sqE, H', ⟨by first | omega | exact Nat.le_refl _⟩, ⟨by (with_reducible repeat (first | apply Kd.R_alloc | apply Kd.R_drewN | apply Kd.R_drew)); exact Kd.R_mono HO1105.out (fun _ hk => trivial)⟩, ⟨by (with_reducible repeat (first | apply Kd.R_alloc | apply Kd.R_drewN | apply Kd.R_drew)); exact Kd.R_mono HO1108.out (fun _ hk => trivial)⟩, ⟨sqK BK1102⟩, ⟨sqK BK1109⟩, ⟨sqB HB⟩⟩
   ·rw [if_neg c21] at H
    have c21b0 : decide (t1116 < 0) = false := decide_eq_false c21; clear c21
    by_cases c22 : t1116 > 400
    ·rw [if_pos c22] at H
     have c22b0 : decide (400 < t1116) = true := decide_eq_true c22; clear c22; have H' := Aside0.mk H; clear H; go_wp2
     go_meet
     case rel => exact ⟨_, (true), sqE, H', ⟨by first | omega | exact Nat.le_refl _⟩, ⟨by (with_reducible repeat (first | apply Kd.R_alloc | apply Kd.R_drewN | apply Kd.R_drew)); exact Kd.R_mono HO1105.out (fun _ hk => trivial)⟩, ⟨by (with_reducible repeat (first | apply Kd.R_alloc | apply Kd.R_drewN | apply Kd.R_drew)); exact Kd.R_mono HO1108.out (fun _ hk => trivial)⟩, ⟨sqK BK1102⟩, ⟨sqK BK1109⟩, ⟨sqB HB⟩⟩
    ·rw [if_neg c22] at H
     have c22b0 : decide (400 < t1116) = false := decide_eq_false c22; clear c22; have H' := Aside0.mk H; clear H; go_wp2
     go_meet
     case rel => exact ⟨_, (decide (t1116 < (Int.tmod (wrap64 (a1)) 401))), sqE, H', ⟨by first | omega | exact Nat.le_refl _⟩, ⟨by (with_reducible repeat (first | apply Kd.R_alloc | apply Kd.R_drewN | apply Kd.R_drew)); exact Kd.R_mono HO1105.out (fun _ hk => trivial)⟩, ⟨by (with_reducible repeat (first | apply Kd.R_alloc | apply Kd.R_drewN | apply Kd.R_drew)); exact Kd.R_mono HO1108.out (fun _ hk => trivial)⟩, ⟨sqK BK1102⟩, ⟨sqK BK1109⟩, ⟨sqB HB⟩⟩
  ·rw [if_neg c20] at H
   have c20b0 : (t1117 == 0) = false := beq_eq_false_iff_ne.mpr c20; have c20b1 : (t1117 != 0) = true := bne_iff_ne.mpr c20
   (first | rw [c20b0] | (simp only [i64_w, i32_w]; rw [c20b0]) | skip)
   by_cases c23 : t1117 = 7
   ·rw [if_pos c23] at H
    have c23b0 : (t1117 == 7) = true := beq_iff_eq.mpr c23; have c23b1 : (t1117 != 7) = false := bne_eq_false_iff_eq.mpr c23; clear c23
    by_cases c24 : t1116 = 0
    ·rw [if_pos c24] at H
     have c24b0 : (t1116 == 0) = true := beq_iff_eq.mpr c24; have c24b1 : (t1116 != 0) = false := bne_eq_false_iff_eq.mpr c24; clear c24
     by_cases c25 : t1116 < 0
     ·rw [if_pos c25] at H
      have c25b0 : decide (t1116 < 0) = true := decide_eq_true c25; clear c25; have H' := Aside0.mk H; clear H; go_wp2
      go_meet
      case rel => exact ⟨_, (true), sqE, H', ⟨by first | omega | exact Nat.le_refl _⟩, ⟨by (with_reducible repeat (first | apply Kd.R_alloc | apply Kd.R_drewN | apply Kd.R_drew)); exact Kd.R_mono HO1105.out (fun _ hk => trivial)⟩, ⟨by (with_reducible repeat (first | apply Kd.R_alloc | apply Kd.R_drewN | apply Kd.R_drew)); exact Kd.R_mono HO1108.out (fun _ hk => trivial)⟩, ⟨sqK BK1102⟩, ⟨sqK BK1109⟩, ⟨sqB HB⟩⟩
     ·rw [if_neg c25] at H
      have c25b0 : decide (t1116 < 0) = false := decide_eq_false c25; clear c25
      by_cases c26 : t1116 > 400
      ·rw [if_pos c26] at H
       have c26b0 : decide (400 < t1116) = true := decide_eq_true c26; clear c26; have H' := Aside0.mk H; clear H; go_wp2
       go_meet
       case rel => exact ⟨_, (true), sqE, H', ⟨by first | omega | exact Nat.le_refl _⟩, ⟨by (with_reducible repeat (first | apply Kd.R_alloc | apply Kd.R_drewN | apply Kd.R_drew)); exact Kd.R_mono HO1105.out (fun _ hk => trivial)⟩, ⟨by (with_reducible repeat (first | apply Kd.R_alloc | apply Kd.R_drewN | apply Kd.R_drew)); exact Kd.R_mono HO1108.out (fun _ hk => trivial)⟩, ⟨sqK BK1102⟩, ⟨sqK BK1109⟩, ⟨sqB HB⟩⟩
      ·rw [if_neg c26] at H
       have c26b0 : decide (400 < t1116) = false := decide_eq_false c26; clear c26; have H' := Aside0.mk H; clear H; go_wp2
       go_meet
       case rel => exact ⟨_, (false), sqE, H', ⟨by first | omega | exact Nat.le_refl _⟩, ⟨by (with_reducible repeat (first | apply Kd.R_alloc | apply Kd.R_drewN | apply Kd.R_drew)); exact Kd.R_mono HO1105.out (fun _ hk => trivial)⟩, ⟨by (with_reducible repeat (first | apply Kd.R_alloc | apply Kd.R_drewN | apply Kd.R_drew)); exact Kd.R_mono HO1108.out (fun _ hk => trivial)⟩, ⟨sqK BK1102⟩, ⟨sqK BK1109⟩, ⟨sqB HB⟩⟩
    ·rw [if_neg c24] at H
     have c24b0 : (t1116 == 0) = false := beq_eq_false_iff_ne.mpr c24; have c24b1 : (t1116 != 0) = true := bne_iff_ne.mpr c24; have H' := Aside0.mk H; clear H; go_wp2
     go_meet
     case rel => exact ⟨_, (true), sqE, H', ⟨by first | omega | exact Nat.le_refl _⟩, ⟨by (with_reducible repeat (first | apply Kd.R_alloc | apply Kd.R_drewN | apply Kd.R_drew)); exact Kd.R_mono HO1105.out (fun _ hk => trivial)⟩, ⟨by (with_reducible repeat (first | apply Kd.R_alloc | apply Kd.R_drewN | apply Kd.R_drew)); exact Kd.R_mono HO1108.out (fun _ hk => trivial)⟩, ⟨sqK BK1102⟩, ⟨sqK BK1109⟩, ⟨sqB HB⟩⟩
   ·rw [if_neg c23] at H
    have c23b0 : (t1117 == 7) = false := beq_eq_false_iff_ne.mpr c23; have c23b1 : (t1117 != 7) = true := bne_iff_ne.mpr c23; have H' := Aside0.mk H; clear H; go_wp2
    go_meet
    case rel => exact ⟨_, (true), sqE, H', ⟨by first | omega | exact Nat.le_refl _⟩, ⟨by (with_reducible repeat (first | apply Kd.R_alloc | apply Kd.R_drewN | apply Kd.R_drew)); exact Kd.R_mono HO1105.out (fun _ hk => trivial)⟩, ⟨by (with_reducible repeat (first | apply Kd.R_alloc | apply Kd.R_drewN | apply Kd.R_drew)); exact Kd.R_mono HO1108.out (fun _ hk => trivial)⟩, ⟨sqK BK1102⟩, ⟨sqK BK1109⟩, ⟨sqB HB⟩⟩
 case rest =>
  clear HC7; try clear hcz14_0
  (try clear hcz14_1); (try clear hcz9_0); (try clear hcz9_1); (try clear hcz9_2); (try clear hcz9_3); (try clear hfz14_0); (try clear hfz14_1); (try clear hfz9_0); (try clear hfz9_1); (try clear hfz9_2); (try clear hfz9_3); obtain ⟨kq, x56_6, rfl, HA, HJ6, HO_1110000, HO_1110001, BK1102, BK1109, HB⟩ := hcut
  cases kq with
  | zero => exact absurd HA.out (by simp [lw_WoolEnough.j0])
  | succ kj6 =>
   have H := HA.out; clear HA; simp only [lw_WoolEnough.j0] at H
   by_cases c27 : x56_6 = true
   ·subst c27
    rw [if_pos rfl] at H; obtain rfl := Option.some.inj H
    go_wp2
    go_ret
    exact ⟨by first | rfl | (simp [errW_none, errW_some] <;> rfl) | (simp [*, errW_none, errW_some] <;> rfl), sqB HB⟩
   ·replace c27 := Bool.eq_false_iff.mpr c27
    subst c27; rw [if_neg Bool.false_ne_true] at H; have H' := Aside0.mk H; clear H; go_wp2
    go_loopg [11] kj6 (fun kq v11 w' => ∃ (x11_2 : Int) (x1103001_2 : Int), v11 = .int .i64 x11_2 ∧ Aside0 (lw_WoolEnough.l0 kq a2 (Int.tmod (wrap64 (a1)) 401) t1116 t1117 x11_2 l0_0 x1103001_2 l0_2 l0_3 t1103 t1106 = some r) ∧ Aside0 (kq ≤ kj6) ∧ Aside0 (Kd.R k41 41 w' w.heap.size (fun _ => True) (.slice Ao12 t1103.length co12) t1103) ∧ Aside0 (Kd.R k80 80 w' w.heap.size (fun _ => True) (.slice Ao15 t1106.length co15) t1106) ∧ Aside0 (w'.heap[gb1102]? = some (.cells #[(.slice A0_0 l0_0.length c0_0), .int .u16 x1103001_2, (.slice A0_2 l0_2.length c0_2), (.slice A0_3 l0_3.length c0_3)] 69 (0, 0))) ∧ Aside0 (w'.heap[gb1109]? = some (.cells #[(.slice Ao12 t1103.length co12), (.slice Ao15 t1106.length co15)] 25 (0, 0))) ∧ Aside0 (Below w.heap.size w w'))
    case atStart => exact ⟨(0), (a0_1), sqE, H', ⟨Nat.le_refl _⟩, ⟨sqR HO_1110000⟩, ⟨sqR HO_1110001⟩, ⟨sqK BK1102⟩, ⟨sqK BK1109⟩, ⟨sqB HB⟩⟩
    case round =>
     clear H'; try clear c27
     obtain ⟨x11_2, x1103001_2, rfl, HA, HK2, HO_1110000, HO_1110001, BK1102, BK1109, HB⟩ := hrel
     cases gk with
     | zero => exact absurd HA.out (by simp [lw_WoolEnough.l0])
     | succ k2 =>
      have H := HA.out; clear HA; simp only [lw_WoolEnough.l0] at H
      by_cases c28 : x11_2 < 3
      ·rw [if_pos c28] at H
       have c28b0 : decide (x11_2 < 3) = true := decide_eq_true c28; clear c28; obtain ⟨ji29, hji29⟩ : ∃ j_ : Int, (mn 400 (wrap64 (t1116 + (wrap64 (a2))))) = j_ := ⟨_, rfl⟩
       replace H : (if x11_2 = 0 then (if t1117 = 0 then (lw_WoolEnough.j2 k2 a2 (Int.tmod (wrap64 (a1)) 401) t1116 t1117 x11_2 t1116 l0_0 x1103001_2 l0_2 l0_3 t1103 t1106) else (lw_WoolEnough.j2 k2 a2 (Int.tmod (wrap64 (a1)) 401) t1116 t1117 x11_2 400 l0_0 x1103001_2 l0_2 l0_3 t1103 t1106)) else (if x11_2 = 1 then (if t1117 = 0 then (lw_WoolEnough.j5 k2 a2 (Int.tmod (wrap64 (a1)) 401) t1116 t1117 x11_2 (wrap64 (t1116 - 1)) l0_0 x1103001_2 l0_2 l0_3 t1103 t1106) else (lw_WoolEnough.j5 k2 a2 (Int.tmod (wrap64 (a1)) 401) t1116 t1117 x11_2 400 l0_0 x1103001_2 l0_2 l0_3 t1103 t1106)) else (if x11_2 = 2 then (if t1117 = 0 then (lw_WoolEnough.j6 k2 a2 (Int.tmod (wrap64 (a1)) 401) t1116 t1117 x11_2 ji29 l0_0 x1103001_2 l0_2 l0_3 t1103 t1106) else (lw_WoolEnough.j6 k2 a2 (Int.tmod (wrap64 (a1)) 401) t1116 t1117 x11_2 400 l0_0 x1103001_2 l0_2 l0_3 t1103 t1106)) else (none)))) = some r := by first | (rw [hji29] at H; exact H) | (simp only [hji29] at H ⊢; exact H)
       have hji29_ : (if (wrap64 (t1116 + (wrap64 (a2)))) < 400 then (wrap64 (t1116 + (wrap64 (a2)))) else 400) = ji29 := hji29
       by_cases c30 : x11_2 = 0
       ·rw [if_pos c30] at H
        have c30b0 : (x11_2 == 0) = true := beq_iff_eq.mpr c30; have c30b1 : (x11_2 != 0) = false := bne_eq_false_iff_eq.mpr c30; clear c30; have HC32 := Aside0.mk H
        clear H; have hix31 : ∀ (w_ : World) (a0_ a1_ a2_ : Int), (Instr.index 85 (.agg #[.int .i64 a0_, .int .i64 a1_, .int .i64 a2_]) (.int .i64 x11_2)).run Tryd.prog w_ = .ok (.int .i64 a0_) w_ := by rw [show (x11_2 : Int) = 0 from sqD]; intros; kernel_rfl
        go_upto_if 73 with (fail)
        go_cut [12] (fun v12 wc => ∃ (kq : Nat) (x12_31 : Int), v12 = .int .i64 x12_31 ∧ Aside0 (lw_WoolEnough.j2 kq a2 (Int.tmod (wrap64 (a1)) 401) t1116 t1117 x11_2 x12_31 l0_0 x1103001_2 l0_2 l0_3 t1103 t1106 = some r) ∧ Aside0 (kq ≤ k2) ∧ Aside0 (Kd.R k41 41 wc w.heap.size (fun _ => True) (.slice Ao12 t1103.length co12) t1103) ∧ Aside0 (Kd.R k80 80 wc w.heap.size (fun _ => True) (.slice Ao15 t1106.length co15) t1106) ∧ Aside0 (wc.heap[gb1102]? = some (.cells #[(.slice A0_0 l0_0.length c0_0), .int .u16 x1103001_2, (.slice A0_2 l0_2.length c0_2), (.slice A0_3 l0_3.length c0_3)] 69 (0, 0))) ∧ Aside0 (wc.heap[gb1109]? = some (.cells #[(.slice Ao12 t1103.length co12), (.slice Ao15 t1106.length co15)] 25 (0, 0))) ∧ Aside0 (Below w.heap.size w wc))
        case first =>
         have H := HC32.out; clear HC32
         by_cases c33 : t1117 = 0
         ·rw [if_pos c33] at H
          have c33b0 : (t1117 == 0) = true := beq_iff_eq.mpr c33; have c33b1 : (t1117 != 0) = false := bne_eq_false_iff_eq.mpr c33; clear c33
          (first | rw [c33b0] | (simp only [i64_w, i32_w]; rw [c33b0]) | skip)
          have H' := Aside0.mk H; clear H; go_wp2
          go_meet
          case rel => exact ⟨_, (t1116), sqE, H', ⟨by have := HJ6.out; have := HK2.out; first | omega | exact Nat.le_refl _⟩, ⟨sqR HO_1110000⟩, ⟨sqR HO_1110001⟩, ⟨sqK BK1102⟩, ⟨sqK BK1109⟩, ⟨sqB HB⟩⟩
         ·rw [if_neg c33] at H
          have c33b0 : (t1117 == 0) = false := beq_eq_false_iff_ne.mpr c33; have c33b1 : (t1117 != 0) = true := bne_iff_ne.mpr c33
          (first | rw [c33b0] | (simp only [i64_w, i32_w]; rw [c33b0]) | skip)
          have H' := Aside0.mk H; clear H; go_wp2
          go_meet
          case rel => exact ⟨_, (400), sqE, H', ⟨by have := HJ6.out; have := HK2.out; first | omega | exact Nat.le_refl _⟩, ⟨sqR HO_1110000⟩, ⟨sqR HO_1110001⟩, ⟨sqK BK1102⟩, ⟨sqK BK1109⟩, ⟨sqB HB⟩⟩
        case rest =>
         clear HC32; try clear c28b0
         (try clear c30b0); (try clear c30b1); obtain ⟨kq, x12_31, rfl, HA, HJ31, HO_1110000, HO_1110001, BK1102, BK1109, HB⟩ := hcut
         cases kq with
         | zero => exact absurd HA.out (by simp [lw_WoolEnough.j2])
         | succ kj31 =>
          have H := HA.out; clear HA; simp only [lw_WoolEnough.j2] at H
          by_cases c34 : x12_31 < 0
          ·rw [if_pos c34] at H
           have c34b0 : decide (x12_31 < 0) = true := decide_eq_true c34; clear c34; have H' := Aside0.mk H; clear H; go_wp2
           go_roundg kj31
           case measure => have := HJ6.out; have := HK2.out; have := HJ31.out; omega
           case rel => exact ⟨(wrap64 (x11_2 + 1)), (x1103001_2), sqE, H', ⟨by have := HJ6.out; have := HK2.out; have := HJ31.out; omega⟩, ⟨sqR HO_1110000⟩, ⟨sqR HO_1110001⟩, ⟨sqK BK1102⟩, ⟨sqK BK1109⟩, ⟨sqB HB⟩⟩
          ·rw [if_neg c34] at H
           have c34b0 : decide (x12_31 < 0) = false := decide_eq_false c34; clear c34; have H' := Aside0.mk H; clear H; go_wp2
           go_loopg [13, 14] kj31 (fun kq v13 v14 w' => ∃ (x13_4 : Int) (x14_4 : Int), v13 = .int .i64 x13_4 ∧ v14 = .int .i64 x14_4 ∧ Aside0 (lw_WoolEnough.l1 kq a2 (Int.tmod (wrap64 (a1)) 401) t1116 t1117 x11_2 x12_31 x13_4 x14_4 l0_0 x1103001_2 l0_2 l0_3 t1103 t1106 = some r) ∧ Aside0 (kq ≤ kj31) ∧ Aside0 (Kd.R k41 41 w' w.heap.size (fun _ => True) (.slice Ao12 t1103.length co12) t1103) ∧ Aside0 (Kd.R k80 80 w' w.heap.size (fun _ => True) (.slice Ao15 t1106.length co15) t1106) ∧ Aside0 (w'.heap[gb1102]? = some (.cells #[(.slice A0_0 l0_0.length c0_0), .int .u16 x1103001_2, (.slice A0_2 l0_2.length c0_2), (.slice A0_3 l0_3.length c0_3)] 69 (0, 0))) ∧ Aside0 (w'.heap[gb1109]? = some (.cells #[(.slice Ao12 t1103.length co12), (.slice Ao15 t1106.length co15)] 25 (0, 0))) ∧ Aside0 (Below w.heap.size w w'))
           case atStart => exact ⟨(x12_31), (0), sqE, sqE, H', ⟨Nat.le_refl _⟩, ⟨sqR HO_1110000⟩, ⟨sqR HO_1110001⟩, ⟨sqK BK1102⟩, ⟨sqK BK1109⟩, ⟨sqB HB⟩⟩
           case round =>
            clear H'; try clear c34b0
            obtain ⟨x13_4, x14_4, rfl, rfl, HA, HK4, HO_1110000, HO_1110001, BK1102, BK1109, HB⟩ := hrel
            cases gk with
            | zero => exact absurd HA.out (by simp [lw_WoolEnough.l1])
            | succ k4 =>
             have H := HA.out; clear HA; simp only [lw_WoolEnough.l1] at H
             by_cases c35 : x14_4 < (t1103.length : Int)
             ·rw [if_pos c35] at H
              have c35b0 : decide (x14_4 < (t1103.length : Int)) = true := decide_eq_true c35; clear c35
              by_cases c36 : 0 ≤ x14_4
              ·rw [if_pos c36] at H
               have c36b0 : decide (0 ≤ x14_4) = true := decide_eq_true c36; clear c36; obtain ⟨t1120, A370, H⟩ := Option.bind_eq_some_iff.mp H; have A37 := Aside0.mk A370; clear A370; have H' := Aside0.mk H; clear H; have hnb38 := NB1109_1102.out; have hnc38 := NB1102_1109.out; have hcz39_0 := sqc0 BK1109; have hcz39_1 := sqc1 BK1109; have hfz39_0 := blk_frozen BK1109.out 0; have hfz39_1 := blk_frozen BK1109.out 1; have p1119 : 0 ≤ (x14_4 : Int) := sqD; have q1119 : x14_4 < (t1103.length : Int) := sqD; obtain ⟨ad1119, e1119, hx1119_0, hx1119_1⟩ := at_T41 (Kd.R_reads' HO_1110000.out).2.2 x14_4 p1119 q1119
               cases e1119
               replace p1119 := eq_true p1119; replace q1119 := eq_true q1119
               go_wp2_with (first | ((with_reducible refine gate_callee (f := 53) rfl ?_); refine goesL_ (some 91) rfl rfl Tryd.func53 sqF rfl #[.agg #[.int .i64 ((rd_T41 t1103 x14_4).f0), .int .i64 ((rd_T41 t1103 x14_4).f1)], .int .i64 x13_4] rfl sqM ?_; (with_reducible refine (lw_most.calls ((rd_T41 t1103 x14_4).f0) ((rd_T41 t1103 x14_4).f1) x13_4 t1120 _ A37.out).mono ?_); rintro e w40 ⟨rfl, hb⟩; refine ⟨_, rfl, ?_⟩; replace HO_1110000 := Aside0.mk (Kd.R_below (sqR HO_1110000) hb); replace HO_1110001 := Aside0.mk (Kd.R_below (sqR HO_1110001) hb); replace BK1102 := sqk BK1102 hb; replace BK1109 := sqk BK1109 hb; replace HB := sqb hb HB; (try clear hb); (try clear hb2); (try clear hk); (try clear hi)))
               go_roundg k4
               case measure => have := HJ6.out; have := HK2.out; have := HJ31.out; have := HK4.out; omega
               case rel => exact ⟨(wrap64 (x13_4 - t1120)), (wrap64 (x14_4 + 1)), sqE, sqE, H', ⟨by have := HJ6.out; have := HK2.out; have := HJ31.out; have := HK4.out; omega⟩, ⟨sqR HO_1110000⟩, ⟨sqR HO_1110001⟩, ⟨sqK BK1102⟩, ⟨sqK BK1109⟩, ⟨sqB HB⟩⟩
              ·rw [if_neg c36] at H
               exact absurd H (by simp)
             ·rw [if_neg c35] at H
              have c35b0 : decide (x14_4 < (t1103.length : Int)) = false := decide_eq_false c35; clear c35; have HC41 := Aside0.mk H; clear H; have hnb42 := NB1109_1102.out; have hnc42 := NB1102_1109.out; have hcz43_0 := sqc0 BK1109; have hcz43_1 := sqc1 BK1109; have hfz43_0 := blk_frozen BK1109.out 0; have hfz43_1 := blk_frozen BK1109.out 1
              go_upto_region 17 with (fail)
              go_cut [102] (fun v102 wc => ∃ (kq : Nat) (x102_40 : Bool), v102 = .bool x102_40 ∧ Aside0 (lw_WoolEnough.j4 kq a2 (Int.tmod (wrap64 (a1)) 401) t1116 t1117 x11_2 x12_31 x13_4 x102_40 l0_0 x1103001_2 l0_2 l0_3 t1103 t1106 = some r) ∧ Aside0 (kq ≤ k4) ∧ Aside0 (Kd.R k41 41 wc w.heap.size (fun _ => True) (.slice Ao12 t1103.length co12) t1103) ∧ Aside0 (Kd.R k80 80 wc w.heap.size (fun _ => True) (.slice Ao15 t1106.length co15) t1106) ∧ Aside0 (wc.heap[gb1102]? = some (.cells #[(.slice A0_0 l0_0.length c0_0), .int .u16 x1103001_2, (.slice A0_2 l0_2.length c0_2), (.slice A0_3 l0_3.length c0_3)] 69 (0, 0))) ∧ Aside0 (wc.heap[gb1109]? = some (.cells #[(.slice Ao12 t1103.length co12), (.slice Ao15 t1106.length co15)] 25 (0, 0))) ∧ Aside0 (Below w.heap.size w wc))
              case first =>
               have H := HC41.out; clear HC41
               by_cases c44 : t1117 = 0
               ·rw [if_pos c44] at H
                have c44b0 : (t1117 == 0) = true := beq_iff_eq.mpr c44; have c44b1 : (t1117 != 0) = false := bne_eq_false_iff_eq.mpr c44; clear c44
                (first | rw [c44b0] | (simp only [i64_w, i32_w]; rw [c44b0]) | skip)
                have H' := Aside0.mk H; clear H; go_wp2
                go_meet
                case rel => exact ⟨_, (((decide (x13_4 ≥ (Int.tmod (wrap64 (a1)) 401))) != (x11_2 != 1))), sqE, H', ⟨by have := HJ6.out; have := HK2.out; have := HJ31.out; have := HK4.out; first | omega | exact Nat.le_refl _⟩, ⟨sqR HO_1110000⟩, ⟨sqR HO_1110001⟩, ⟨sqK BK1102⟩, ⟨sqK BK1109⟩, ⟨sqB HB⟩⟩
               ·rw [if_neg c44] at H
                have c44b0 : (t1117 == 0) = false := beq_eq_false_iff_ne.mpr c44; have c44b1 : (t1117 != 0) = true := bne_iff_ne.mpr c44
                (first | rw [c44b0] | (simp only [i64_w, i32_w]; rw [c44b0]) | skip)
                have H' := Aside0.mk H; clear H; go_wp2
                go_meet
                case rel => exact ⟨_, (((decide (x13_4 ≥ (Int.tmod (wrap64 (a1)) 401))) != false)), sqE, H', ⟨by have := HJ6.out; have := HK2.out; have := HJ31.out; have := HK4.out; first | omega | exact Nat.le_refl _⟩, ⟨sqR HO_1110000⟩, ⟨sqR HO_1110001⟩, ⟨sqK BK1102⟩, ⟨sqK BK1109⟩, ⟨sqB HB⟩⟩
              case rest =>
               clear HC41; try clear c35b0
               (try clear hcz43_0); (try clear hcz43_1); (try clear hfz43_0); (try clear hfz43_1); obtain ⟨kq, x102_40, rfl, HA, HJ40, HO_1110000, HO_1110001, BK1102, BK1109, HB⟩ := hcut
               cases kq with
               | zero => exact absurd HA.out (by simp [lw_WoolEnough.j4])
               | succ kj40 =>
                have H := HA.out; clear HA; simp only [lw_WoolEnough.j4] at H
                by_cases c45 : x102_40 = true
                ·subst c45
                 rw [if_pos rfl] at H; obtain rfl := Option.some.inj H
                 go_wp2
                 go_ret
                 exact ⟨by first | rfl | (simp [errW_none, errW_some] <;> rfl) | (simp only [← hji29]; first | rfl | (simp [errW_none, errW_some] <;> rfl)) | (simp [*, errW_none, errW_some] <;> rfl), sqB HB⟩
                ·replace c45 := Bool.eq_false_iff.mpr c45
                 subst c45; rw [if_neg Bool.false_ne_true] at H; obtain ⟨⟨t1121, t1124, t1127⟩, A460, H⟩ := Option.bind_eq_some_iff.mp H; replace H : (if 0 ≤ (wrap64 ((t1121.length : Int) - 1)) then (if (wrap64 ((t1121.length : Int) - 1)) < (t1121.length : Int) then (if (rd t1121 (wrap64 ((t1121.length : Int) - 1))) < x13_4 then (some false) else (lw_WoolEnough.l0 kj40 a2 (Int.tmod (wrap64 (a1)) 401) t1116 t1117 (wrap64 (x11_2 + 1)) l0_0 (IntKind.u16.wrap (x12_31)) l0_2 l0_3 t1103 t1106)) else (none)) else (none)) = some r := H; have A46 := Aside0.mk A460; clear A460; obtain ⟨ji47, hji47⟩ : ∃ j_ : Int, (wrap64 ((t1121.length : Int) - 1)) = j_ := ⟨_, rfl⟩
                 replace H : (if 0 ≤ (ji47) then (if (ji47) < (t1121.length : Int) then (if (rd t1121 (ji47)) < x13_4 then (some false) else (lw_WoolEnough.l0 kj40 a2 (Int.tmod (wrap64 (a1)) 401) t1116 t1117 (wrap64 (x11_2 + 1)) l0_0 (IntKind.u16.wrap (x12_31)) l0_2 l0_3 t1103 t1106)) else (none)) else (none)) = some r := by first | (rw [hji47] at H; exact H) | (simp only [hji47] at H ⊢; exact H)
                 (try rw [hji47] at A46)
                 have hji47w : (IntKind.i64.wrap ((t1121.length : Int) - 1)) = ji47 := (i64_w _).trans hji47
                 by_cases c48 : 0 ≤ (ji47)
                 ·rw [if_pos c48] at H
                  have c48b0 : decide (0 ≤ (ji47)) = true := decide_eq_true c48; clear c48
                  by_cases c49 : (ji47) < (t1121.length : Int)
                  ·rw [if_pos c49] at H
                   have c49b0 : decide ((ji47) < (t1121.length : Int)) = true := decide_eq_true c49; clear c49
                   by_cases c50 : (rd t1121 (ji47)) < x13_4
                   ·rw [if_pos c50] at H
                    have c50b0 : decide ((rd t1121 (ji47)) < x13_4) = true := decide_eq_true c50; clear c50; obtain rfl := Option.some.inj H; have hnb51 := NB1102_1109.out; have hnc51 := NB1109_1102.out; have hcz52_0 := sqc0 BK1102; have hcz52_1 := sqc1 BK1102; have hcz52_2 := sqc2 BK1102; have hcz52_3 : wc.cell? ⟨gb1102, 3, none⟩ = some (.slice A0_3 l0_3.length c0_3) := (blk_cell BK1102.out 3).trans rfl; have hfz52_0 := blk_frozen BK1102.out 0; have hfz52_1 := blk_frozen BK1102.out 1; have hfz52_2 := blk_frozen BK1102.out 2; have hfz52_3 := blk_frozen BK1102.out 3; have hcz53_0 := sqc0 BK1109; have hcz53_1 := sqc1 BK1109; have hfz53_0 := blk_frozen BK1109.out 0; have hfz53_1 := blk_frozen BK1109.out 1
                    go_wp2_with (first | ((with_reducible refine gate_callee (f := 46) rfl ?_); refine goesL_ (some 109) rfl rfl Tryd.func46 sqF rfl #[.agg #[.slice A0_0 l0_0.length c0_0, .int .u16 (IntKind.u16.wrap (x12_31)), .slice A0_2 l0_2.length c0_2, .slice A0_3 l0_3.length c0_3], .agg #[.slice Ao12 t1103.length co12, .slice Ao15 t1106.length co15], .int .i64 (-1), .int .i64 0] rfl sqM ?_; (with_reducible refine (lw_Cart_lived.calls kj40 _ _ l0_0 (IntKind.u16.wrap (x12_31)) _ _ l0_2 _ _ l0_3 _ _ t1103 _ _ t1106 (-1) 0 t1121 t1124 t1127 _ ?side1 ?side2 ?side3 ?side4 ?side5 ?side6 ?side7 ?side8 ?side9 ?side10 A46.out).mono ?_); (case side1 => exact Kd.C_below HR0_0.out (sqB HB)); (case side2 => exact HC0_0.out); (case side3 => exact Kd.C_below HR0_2.out (sqB HB)); (case side4 => exact HC0_2.out); (case side5 => exact Kd.C_below HR0_3.out (sqB HB)); (case side6 => exact HC0_3.out); (case side7 => refine (Kd.R_reads' (e := 41) (base := w.heap.size) (ok := fun k_ => True) (n := t1103.length) (c := co12) ?_).2.2; exact (by (with_reducible repeat (first | apply Kd.R_alloc | apply Kd.R_drewN | apply Kd.R_drew)); exact (Kd.R_mono (Kd.R_far (p := ⟨gb1102, 1, none⟩) (Kd.R_types HO_1110000.out BK1102.out (by decide)) (fun _ hk => hk.2) (.int .u16 (IntKind.u16.wrap (x12_31)))) (fun _ h_ => h_.1)))); (case side8 => exact (Kd.R_reads' HO_1110000.out).2.1); (case side9 => refine (Kd.R_reads' (e := 80) (base := w.heap.size) (ok := fun k_ => True) (n := t1106.length) (c := co15) ?_).2.2; exact (by (with_reducible repeat (first | apply Kd.R_alloc | apply Kd.R_drewN | apply Kd.R_drew)); exact (Kd.R_mono (Kd.R_far (p := ⟨gb1102, 1, none⟩) (Kd.R_types HO_1110001.out BK1102.out (by decide)) (fun _ hk => hk.2) (.int .u16 (IntKind.u16.wrap (x12_31)))) (fun _ h_ => h_.1)))); (case side10 => exact (Kd.R_reads' HO_1110001.out).2.1); rintro e w54 ⟨v1122, v1125, rfl, ho0, ho1, hb⟩; refine ⟨_, rfl, ?_⟩; replace HO_1110000 := Aside0.mk (Kd.R_below (by (with_reducible repeat (first | apply Kd.R_alloc | apply Kd.R_drewN | apply Kd.R_drew)); exact (Kd.R_mono (Kd.R_far (p := ⟨gb1102, 1, none⟩) (Kd.R_types HO_1110000.out BK1102.out (by decide)) (fun _ hk => hk.2) (.int .u16 (IntKind.u16.wrap (x12_31)))) (fun _ h_ => h_.1))) hb); replace HO_1110001 := Aside0.mk (Kd.R_below (by (with_reducible repeat (first | apply Kd.R_alloc | apply Kd.R_drewN | apply Kd.R_drew)); exact (Kd.R_mono (Kd.R_far (p := ⟨gb1102, 1, none⟩) (Kd.R_types HO_1110001.out BK1102.out (by decide)) (fun _ hk => hk.2) (.int .u16 (IntKind.u16.wrap (x12_31)))) (fun _ h_ => h_.1))) hb); have HO1123 := Aside0.mk (Kd.R_lower ho0 (below_size (sqB HB))); have HO1126 := Aside0.mk (Kd.R_lower ho1 (below_size (sqB HB))); replace BK1102 := Aside0.mk (blk_below (g := gb1102) (o := .cells #[.slice A0_0 l0_0.length c0_0, .int .u16 (IntKind.u16.wrap (x12_31)), .slice A0_2 l0_2.length c0_2, .slice A0_3 l0_3.length c0_3] 69 (0, 0)) (by (with_reducible repeat (first | refine blk_drewN ?_ _ | refine blk_drew ?_ | refine blk_alloc ?_ _)); refine blk_put (cs := #[.slice A0_0 l0_0.length c0_0, .int .u16 x1103001_2, .slice A0_2 l0_2.length c0_2, .slice A0_3 l0_3.length c0_3]) ?_ 1 _ rfl; (with_reducible repeat (first | refine blk_drewN ?_ _ | refine blk_drew ?_ | refine blk_alloc ?_ _)); exact BK1102.out) hb); replace BK1109 := Aside0.mk (blk_below (g := gb1109) (o := .cells #[.slice Ao12 t1103.length co12, .slice Ao15 t1106.length co15] 25 (0, 0)) sqX hb); replace HB := sqb hb HB; (try clear hb); (try clear hb2); (try clear hk); (try clear hi); (try clear ho0); (try clear ho1); obtain ⟨Ao55, co55, eo55⟩ := Kd.R_slice HO1123.out; subst eo55; have p1128 : 0 ≤ ((ji47) : Int) := sqD; have q1128 : (ji47) < (t1121.length : Int) := sqD; obtain ⟨ad1128, e1128, hx1128_0⟩ := Kd.at_int (Kd.R_reads' HO1123.out).2.2 (ji47) p1128 q1128; cases e1128; replace p1128 := eq_true p1128; replace q1128 := eq_true q1128))
                    go_ret
                    exact ⟨by first | rfl | (simp [errW_none, errW_some] <;> rfl) | (simp only [← hji29, ← hji47]; first | rfl | (simp [errW_none, errW_some] <;> rfl)) | (simp [*, errW_none, errW_some] <;> rfl), sqB HB⟩
                   ·rw [if_neg c50] at H
                    have c50b0 : decide ((rd t1121 (ji47)) < x13_4) = false := decide_eq_false c50; clear c50; have H' := Aside0.mk H; clear H; have hnb56 := NB1102_1109.out; have hnc56 := NB1109_1102.out; have hcz57_0 := sqc0 BK1102; have hcz57_1 := sqc1 BK1102; have hcz57_2 := sqc2 BK1102; have hcz57_3 : wc.cell? ⟨gb1102, 3, none⟩ = some (.slice A0_3 l0_3.length c0_3) := (blk_cell BK1102.out 3).trans rfl; have hfz57_0 := blk_frozen BK1102.out 0; have hfz57_1 := blk_frozen BK1102.out 1; have hfz57_2 := blk_frozen BK1102.out 2; have hfz57_3 := blk_frozen BK1102.out 3; have hcz58_0 := sqc0 BK1109; have hcz58_1 := sqc1 BK1109; have hfz58_0 := blk_frozen BK1109.out 0; have hfz58_1 := blk_frozen BK1109.out 1
                    go_wp2_with (first | ((with_reducible refine gate_callee (f := 46) rfl ?_); refine goesL_ (some 109) rfl rfl Tryd.func46 sqF rfl #[.agg #[.slice A0_0 l0_0.length c0_0, .int .u16 (IntKind.u16.wrap (x12_31)), .slice A0_2 l0_2.length c0_2, .slice A0_3 l0_3.length c0_3], .agg #[.slice Ao12 t1103.length co12, .slice Ao15 t1106.length co15], .int .i64 (-1), .int .i64 0] rfl sqM ?_; (with_reducible refine (lw_Cart_lived.calls kj40 _ _ l0_0 (IntKind.u16.wrap (x12_31)) _ _ l0_2 _ _ l0_3 _ _ t1103 _ _ t1106 (-1) 0 t1121 t1124 t1127 _ ?side1 ?side2 ?side3 ?side4 ?side5 ?side6 ?side7 ?side8 ?side9 ?side10 A46.out).mono ?_); (case side1 => exact Kd.C_below HR0_0.out (sqB HB)); (case side2 => exact HC0_0.out); (case side3 => exact Kd.C_below HR0_2.out (sqB HB)); (case side4 => exact HC0_2.out); (case side5 => exact Kd.C_below HR0_3.out (sqB HB)); (case side6 => exact HC0_3.out); (case side7 => refine (Kd.R_reads' (e := 41) (base := w.heap.size) (ok := fun k_ => True) (n := t1103.length) (c := co12) ?_).2.2; exact (by (with_reducible repeat (first | apply Kd.R_alloc | apply Kd.R_drewN | apply Kd.R_drew)); exact (Kd.R_mono (Kd.R_far (p := ⟨gb1102, 1, none⟩) (Kd.R_types HO_1110000.out BK1102.out (by decide)) (fun _ hk => hk.2) (.int .u16 (IntKind.u16.wrap (x12_31)))) (fun _ h_ => h_.1)))); (case side8 => exact (Kd.R_reads' HO_1110000.out).2.1); (case side9 => refine (Kd.R_reads' (e := 80) (base := w.heap.size) (ok := fun k_ => True) (n := t1106.length) (c := co15) ?_).2.2; exact (by (with_reducible repeat (first | apply Kd.R_alloc | apply Kd.R_drewN | apply Kd.R_drew)); exact (Kd.R_mono (Kd.R_far (p := ⟨gb1102, 1, none⟩) (Kd.R_types HO_1110001.out BK1102.out (by decide)) (fun _ hk => hk.2) (.int .u16 (IntKind.u16.wrap (x12_31)))) (fun _ h_ => h_.1)))); (case side10 => exact (Kd.R_reads' HO_1110001.out).2.1); rintro e w59 ⟨v1122, v1125, rfl, ho0, ho1, hb⟩; refine ⟨_, rfl, ?_⟩; replace HO_1110000 := Aside0.mk (Kd.R_below (by (with_reducible repeat (first | apply Kd.R_alloc | apply Kd.R_drewN | apply Kd.R_drew)); exact (Kd.R_mono (Kd.R_far (p := ⟨gb1102, 1, none⟩) (Kd.R_types HO_1110000.out BK1102.out (by decide)) (fun _ hk => hk.2) (.int .u16 (IntKind.u16.wrap (x12_31)))) (fun _ h_ => h_.1))) hb); replace HO_1110001 := Aside0.mk (Kd.R_below (by (with_reducible repeat (first | apply Kd.R_alloc | apply Kd.R_drewN | apply Kd.R_drew)); exact (Kd.R_mono (Kd.R_far (p := ⟨gb1102, 1, none⟩) (Kd.R_types HO_1110001.out BK1102.out (by decide)) (fun _ hk => hk.2) (.int .u16 (IntKind.u16.wrap (x12_31)))) (fun _ h_ => h_.1))) hb); have HO1123 := Aside0.mk (Kd.R_lower ho0 (below_size (sqB HB))); have HO1126 := Aside0.mk (Kd.R_lower ho1 (below_size (sqB HB))); replace BK1102 := Aside0.mk (blk_below (g := gb1102) (o := .cells #[.slice A0_0 l0_0.length c0_0, .int .u16 (IntKind.u16.wrap (x12_31)), .slice A0_2 l0_2.length c0_2, .slice A0_3 l0_3.length c0_3] 69 (0, 0)) (by (with_reducible repeat (first | refine blk_drewN ?_ _ | refine blk_drew ?_ | refine blk_alloc ?_ _)); refine blk_put (cs := #[.slice A0_0 l0_0.length c0_0, .int .u16 x1103001_2, .slice A0_2 l0_2.length c0_2, .slice A0_3 l0_3.length c0_3]) ?_ 1 _ rfl; (with_reducible repeat (first | refine blk_drewN ?_ _ | refine blk_drew ?_ | refine blk_alloc ?_ _)); exact BK1102.out) hb); replace BK1109 := Aside0.mk (blk_below (g := gb1109) (o := .cells #[.slice Ao12 t1103.length co12, .slice Ao15 t1106.length co15] 25 (0, 0)) sqX hb); replace HB := sqb hb HB; (try clear hb); (try clear hb2); (try clear hk); (try clear hi); (try clear ho0); (try clear ho1); obtain ⟨Ao60, co60, eo60⟩ := Kd.R_slice HO1123.out; subst eo60; have p1128 : 0 ≤ ((ji47) : Int) := sqD; have q1128 : (ji47) < (t1121.length : Int) := sqD; obtain ⟨ad1128, e1128, hx1128_0⟩ := Kd.at_int (Kd.R_reads' HO1123.out).2.2 (ji47) p1128 q1128; cases e1128; replace p1128 := eq_true p1128; replace q1128 := eq_true q1128))
                    go_roundg kj40
                    case measure => have := HJ6.out; have := HK2.out; have := HJ31.out; have := HK4.out; have := HJ40.out; omega
                    case rel => exact ⟨(wrap64 (x11_2 + 1)), (IntKind.u16.wrap (x12_31)), sqE, H', ⟨by have := HJ6.out; have := HK2.out; have := HJ31.out; have := HK4.out; have := HJ40.out; omega⟩, ⟨sqR HO_1110000⟩, ⟨sqR HO_1110001⟩, ⟨sqK BK1102⟩, ⟨sqK BK1109⟩, ⟨sqB HB⟩⟩
                  ·rw [if_neg c49] at H
                   exact absurd H (by simp)
                 ·rw [if_neg c48] at H
                  exact absurd H (by simp)
       ·rw [if_neg c30] at H
        have c30b0 : (x11_2 == 0) = false := beq_eq_false_iff_ne.mpr c30; have c30b1 : (x11_2 != 0) = true := bne_iff_ne.mpr c30
        by_cases c61 : x11_2 = 1
        ·rw [if_pos c61] at H
         have c61b0 : (x11_2 == 1) = true := beq_iff_eq.mpr c61; have c61b1 : (x11_2 != 1) = false := bne_eq_false_iff_eq.mpr c61; clear c61; have HC63 := Aside0.mk H
         clear H; have hix62 : ∀ (w_ : World) (a0_ a1_ a2_ : Int), (Instr.index 85 (.agg #[.int .i64 a0_, .int .i64 a1_, .int .i64 a2_]) (.int .i64 x11_2)).run Tryd.prog w_ = .ok (.int .i64 a1_) w_ := by rw [show (x11_2 : Int) = 1 from sqD]; intros; kernel_rfl
         go_upto_if 73 with (fail)
         go_cut [12] (fun v12 wc => ∃ (kq : Nat) (x12_62 : Int), v12 = .int .i64 x12_62 ∧ Aside0 (lw_WoolEnough.j5 kq a2 (Int.tmod (wrap64 (a1)) 401) t1116 t1117 x11_2 x12_62 l0_0 x1103001_2 l0_2 l0_3 t1103 t1106 = some r) ∧ Aside0 (kq ≤ k2) ∧ Aside0 (Kd.R k41 41 wc w.heap.size (fun _ => True) (.slice Ao12 t1103.length co12) t1103) ∧ Aside0 (Kd.R k80 80 wc w.heap.size (fun _ => True) (.slice Ao15 t1106.length co15) t1106) ∧ Aside0 (wc.heap[gb1102]? = some (.cells #[(.slice A0_0 l0_0.length c0_0), .int .u16 x1103001_2, (.slice A0_2 l0_2.length c0_2), (.slice A0_3 l0_3.length c0_3)] 69 (0, 0))) ∧ Aside0 (wc.heap[gb1109]? = some (.cells #[(.slice Ao12 t1103.length co12), (.slice Ao15 t1106.length co15)] 25 (0, 0))) ∧ Aside0 (Below w.heap.size w wc))
         case first =>
          have H := HC63.out; clear HC63
          by_cases c64 : t1117 = 0
          ·rw [if_pos c64] at H
           have c64b0 : (t1117 == 0) = true := beq_iff_eq.mpr c64; have c64b1 : (t1117 != 0) = false := bne_eq_false_iff_eq.mpr c64; clear c64
           (first | rw [c64b0] | (simp only [i64_w, i32_w]; rw [c64b0]) | skip)
           have H' := Aside0.mk H; clear H; go_wp2
           go_meet
           case rel => exact ⟨_, (wrap64 (t1116 - 1)), sqE, H', ⟨by have := HJ6.out; have := HK2.out; first | omega | exact Nat.le_refl _⟩, ⟨sqR HO_1110000⟩, ⟨sqR HO_1110001⟩, ⟨sqK BK1102⟩, ⟨sqK BK1109⟩, ⟨sqB HB⟩⟩
          ·rw [if_neg c64] at H
           have c64b0 : (t1117 == 0) = false := beq_eq_false_iff_ne.mpr c64; have c64b1 : (t1117 != 0) = true := bne_iff_ne.mpr c64
           (first | rw [c64b0] | (simp only [i64_w, i32_w]; rw [c64b0]) | skip)
           have H' := Aside0.mk H; clear H; go_wp2
           go_meet
           case rel => exact ⟨_, (400), sqE, H', ⟨by have := HJ6.out; have := HK2.out; first | omega | exact Nat.le_refl _⟩, ⟨sqR HO_1110000⟩, ⟨sqR HO_1110001⟩, ⟨sqK BK1102⟩, ⟨sqK BK1109⟩, ⟨sqB HB⟩⟩
         case rest =>
          clear HC63; try clear c28b0
          (try clear c30); (try clear c30b0); (try clear c30b1); (try clear c61b0); (try clear c61b1); obtain ⟨kq, x12_62, rfl, HA, HJ62, HO_1110000, HO_1110001, BK1102, BK1109, HB⟩ := hcut
          cases kq with
          | zero => exact absurd HA.out (by simp [lw_WoolEnough.j5])
          | succ kj62 =>
           have H := HA.out; clear HA; simp only [lw_WoolEnough.j5] at H
           by_cases c65 : x12_62 < 0
           ·rw [if_pos c65] at H
            have c65b0 : decide (x12_62 < 0) = true := decide_eq_true c65; clear c65; have H' := Aside0.mk H; clear H; go_wp2
            go_roundg kj62
            case measure => have := HJ6.out; have := HK2.out; have := HJ62.out; omega
            case rel => exact ⟨(wrap64 (x11_2 + 1)), (x1103001_2), sqE, H', ⟨by have := HJ6.out; have := HK2.out; have := HJ62.out; omega⟩, ⟨sqR HO_1110000⟩, ⟨sqR HO_1110001⟩, ⟨sqK BK1102⟩, ⟨sqK BK1109⟩, ⟨sqB HB⟩⟩
           ·rw [if_neg c65] at H
            have c65b0 : decide (x12_62 < 0) = false := decide_eq_false c65; clear c65; have H' := Aside0.mk H; clear H; go_wp2
            go_loopg [13, 14] kj62 (fun kq v13 v14 w' => ∃ (x13_4 : Int) (x14_4 : Int), v13 = .int .i64 x13_4 ∧ v14 = .int .i64 x14_4 ∧ Aside0 (lw_WoolEnough.l1 kq a2 (Int.tmod (wrap64 (a1)) 401) t1116 t1117 x11_2 x12_62 x13_4 x14_4 l0_0 x1103001_2 l0_2 l0_3 t1103 t1106 = some r) ∧ Aside0 (kq ≤ kj62) ∧ Aside0 (Kd.R k41 41 w' w.heap.size (fun _ => True) (.slice Ao12 t1103.length co12) t1103) ∧ Aside0 (Kd.R k80 80 w' w.heap.size (fun _ => True) (.slice Ao15 t1106.length co15) t1106) ∧ Aside0 (w'.heap[gb1102]? = some (.cells #[(.slice A0_0 l0_0.length c0_0), .int .u16 x1103001_2, (.slice A0_2 l0_2.length c0_2), (.slice A0_3 l0_3.length c0_3)] 69 (0, 0))) ∧ Aside0 (w'.heap[gb1109]? = some (.cells #[(.slice Ao12 t1103.length co12), (.slice Ao15 t1106.length co15)] 25 (0, 0))) ∧ Aside0 (Below w.heap.size w w'))
            case atStart => exact ⟨(x12_62), (0), sqE, sqE, H', ⟨Nat.le_refl _⟩, ⟨sqR HO_1110000⟩, ⟨sqR HO_1110001⟩, ⟨sqK BK1102⟩, ⟨sqK BK1109⟩, ⟨sqB HB⟩⟩
            case round =>
             clear H'; try clear c65b0
             obtain ⟨x13_4, x14_4, rfl, rfl, HA, HK4, HO_1110000, HO_1110001, BK1102, BK1109, HB⟩ := hrel
             cases gk with
             | zero => exact absurd HA.out (by simp [lw_WoolEnough.l1])
             | succ k4 =>
              have H := HA.out; clear HA; simp only [lw_WoolEnough.l1] at H
              by_cases c66 : x14_4 < (t1103.length : Int)
              ·rw [if_pos c66] at H
               have c66b0 : decide (x14_4 < (t1103.length : Int)) = true := decide_eq_true c66; clear c66
               by_cases c67 : 0 ≤ x14_4
               ·rw [if_pos c67] at H
                have c67b0 : decide (0 ≤ x14_4) = true := decide_eq_true c67; clear c67; obtain ⟨t1120, A680, H⟩ := Option.bind_eq_some_iff.mp H; have A68 := Aside0.mk A680; clear A680; have H' := Aside0.mk H; clear H; have hnb69 := NB1109_1102.out; have hnc69 := NB1102_1109.out; have hcz70_0 := sqc0 BK1109; have hcz70_1 := sqc1 BK1109; have hfz70_0 := blk_frozen BK1109.out 0; have hfz70_1 := blk_frozen BK1109.out 1; have p1119 : 0 ≤ (x14_4 : Int) := sqD; have q1119 : x14_4 < (t1103.length : Int) := sqD; obtain ⟨ad1119, e1119, hx1119_0, hx1119_1⟩ := at_T41 (Kd.R_reads' HO_1110000.out).2.2 x14_4 p1119 q1119
                cases e1119
                replace p1119 := eq_true p1119; replace q1119 := eq_true q1119
                go_wp2_with (first | ((with_reducible refine gate_callee (f := 53) rfl ?_); refine goesL_ (some 91) rfl rfl Tryd.func53 sqF rfl #[.agg #[.int .i64 ((rd_T41 t1103 x14_4).f0), .int .i64 ((rd_T41 t1103 x14_4).f1)], .int .i64 x13_4] rfl sqM ?_; (with_reducible refine (lw_most.calls ((rd_T41 t1103 x14_4).f0) ((rd_T41 t1103 x14_4).f1) x13_4 t1120 _ A68.out).mono ?_); rintro e w71 ⟨rfl, hb⟩; refine ⟨_, rfl, ?_⟩; replace HO_1110000 := Aside0.mk (Kd.R_below (sqR HO_1110000) hb); replace HO_1110001 := Aside0.mk (Kd.R_below (sqR HO_1110001) hb); replace BK1102 := sqk BK1102 hb; replace BK1109 := sqk BK1109 hb; replace HB := sqb hb HB; (try clear hb); (try clear hb2); (try clear hk); (try clear hi)))
                go_roundg k4
                case measure => have := HJ6.out; have := HK2.out; have := HJ62.out; have := HK4.out; omega
                case rel => exact ⟨(wrap64 (x13_4 - t1120)), (wrap64 (x14_4 + 1)), sqE, sqE, H', ⟨by have := HJ6.out; have := HK2.out; have := HJ62.out; have := HK4.out; omega⟩, ⟨sqR HO_1110000⟩, ⟨sqR HO_1110001⟩, ⟨sqK BK1102⟩, ⟨sqK BK1109⟩, ⟨sqB HB⟩⟩
               ·rw [if_neg c67] at H
                exact absurd H (by simp)
              ·rw [if_neg c66] at H
               have c66b0 : decide (x14_4 < (t1103.length : Int)) = false := decide_eq_false c66; clear c66; have HC72 := Aside0.mk H; clear H; have hnb73 := NB1109_1102.out; have hnc73 := NB1102_1109.out; have hcz74_0 := sqc0 BK1109; have hcz74_1 := sqc1 BK1109; have hfz74_0 := blk_frozen BK1109.out 0; have hfz74_1 := blk_frozen BK1109.out 1
               go_upto_region 17 with (fail)
               go_cut [102] (fun v102 wc => ∃ (kq : Nat) (x102_71 : Bool), v102 = .bool x102_71 ∧ Aside0 (lw_WoolEnough.j4 kq a2 (Int.tmod (wrap64 (a1)) 401) t1116 t1117 x11_2 x12_62 x13_4 x102_71 l0_0 x1103001_2 l0_2 l0_3 t1103 t1106 = some r) ∧ Aside0 (kq ≤ k4) ∧ Aside0 (Kd.R k41 41 wc w.heap.size (fun _ => True) (.slice Ao12 t1103.length co12) t1103) ∧ Aside0 (Kd.R k80 80 wc w.heap.size (fun _ => True) (.slice Ao15 t1106.length co15) t1106) ∧ Aside0 (wc.heap[gb1102]? = some (.cells #[(.slice A0_0 l0_0.length c0_0), .int .u16 x1103001_2, (.slice A0_2 l0_2.length c0_2), (.slice A0_3 l0_3.length c0_3)] 69 (0, 0))) ∧ Aside0 (wc.heap[gb1109]? = some (.cells #[(.slice Ao12 t1103.length co12), (.slice Ao15 t1106.length co15)] 25 (0, 0))) ∧ Aside0 (Below w.heap.size w wc))
               case first =>
                have H := HC72.out; clear HC72
                by_cases c75 : t1117 = 0
                ·rw [if_pos c75] at H
                 have c75b0 : (t1117 == 0) = true := beq_iff_eq.mpr c75; have c75b1 : (t1117 != 0) = false := bne_eq_false_iff_eq.mpr c75; clear c75
                 (first | rw [c75b0] | (simp only [i64_w, i32_w]; rw [c75b0]) | skip)
                 have H' := Aside0.mk H; clear H; go_wp2
                 go_meet
                 case rel => exact ⟨_, (((decide (x13_4 ≥ (Int.tmod (wrap64 (a1)) 401))) != (x11_2 != 1))), sqE, H', ⟨by have := HJ6.out; have := HK2.out; have := HJ62.out; have := HK4.out; first | omega | exact Nat.le_refl _⟩, ⟨sqR HO_1110000⟩, ⟨sqR HO_1110001⟩, ⟨sqK BK1102⟩, ⟨sqK BK1109⟩, ⟨sqB HB⟩⟩
                ·rw [if_neg c75] at H
                 have c75b0 : (t1117 == 0) = false := beq_eq_false_iff_ne.mpr c75; have c75b1 : (t1117 != 0) = true := bne_iff_ne.mpr c75
                 (first | rw [c75b0] | (simp only [i64_w, i32_w]; rw [c75b0]) | skip)
                 have H' := Aside0.mk H; clear H; go_wp2
                 go_meet
                 case rel => exact ⟨_, (((decide (x13_4 ≥ (Int.tmod (wrap64 (a1)) 401))) != false)), sqE, H', ⟨by have := HJ6.out; have := HK2.out; have := HJ62.out; have := HK4.out; first | omega | exact Nat.le_refl _⟩, ⟨sqR HO_1110000⟩, ⟨sqR HO_1110001⟩, ⟨sqK BK1102⟩, ⟨sqK BK1109⟩, ⟨sqB HB⟩⟩
               case rest =>
                clear HC72; try clear c66b0
                (try clear hcz74_0); (try clear hcz74_1); (try clear hfz74_0); (try clear hfz74_1); obtain ⟨kq, x102_71, rfl, HA, HJ71, HO_1110000, HO_1110001, BK1102, BK1109, HB⟩ := hcut
                cases kq with
                | zero => exact absurd HA.out (by simp [lw_WoolEnough.j4])
                | succ kj71 =>
                 have H := HA.out; clear HA; simp only [lw_WoolEnough.j4] at H
                 by_cases c76 : x102_71 = true
                 ·subst c76
                  rw [if_pos rfl] at H; obtain rfl := Option.some.inj H
                  go_wp2
                  go_ret
                  exact ⟨by first | rfl | (simp [errW_none, errW_some] <;> rfl) | (simp only [← hji29]; first | rfl | (simp [errW_none, errW_some] <;> rfl)) | (simp [*, errW_none, errW_some] <;> rfl), sqB HB⟩
                 ·replace c76 := Bool.eq_false_iff.mpr c76
                  subst c76; rw [if_neg Bool.false_ne_true] at H; obtain ⟨⟨t1121, t1124, t1127⟩, A770, H⟩ := Option.bind_eq_some_iff.mp H; replace H : (if 0 ≤ (wrap64 ((t1121.length : Int) - 1)) then (if (wrap64 ((t1121.length : Int) - 1)) < (t1121.length : Int) then (if (rd t1121 (wrap64 ((t1121.length : Int) - 1))) < x13_4 then (some false) else (lw_WoolEnough.l0 kj71 a2 (Int.tmod (wrap64 (a1)) 401) t1116 t1117 (wrap64 (x11_2 + 1)) l0_0 (IntKind.u16.wrap (x12_62)) l0_2 l0_3 t1103 t1106)) else (none)) else (none)) = some r := H; have A77 := Aside0.mk A770; clear A770; obtain ⟨ji78, hji78⟩ : ∃ j_ : Int, (wrap64 ((t1121.length : Int) - 1)) = j_ := ⟨_, rfl⟩
                  replace H : (if 0 ≤ (ji78) then (if (ji78) < (t1121.length : Int) then (if (rd t1121 (ji78)) < x13_4 then (some false) else (lw_WoolEnough.l0 kj71 a2 (Int.tmod (wrap64 (a1)) 401) t1116 t1117 (wrap64 (x11_2 + 1)) l0_0 (IntKind.u16.wrap (x12_62)) l0_2 l0_3 t1103 t1106)) else (none)) else (none)) = some r := by first | (rw [hji78] at H; exact H) | (simp only [hji78] at H ⊢; exact H)
                  (try rw [hji78] at A77)
                  have hji78w : (IntKind.i64.wrap ((t1121.length : Int) - 1)) = ji78 := (i64_w _).trans hji78
                  by_cases c79 : 0 ≤ (ji78)
                  ·rw [if_pos c79] at H
                   have c79b0 : decide (0 ≤ (ji78)) = true := decide_eq_true c79; clear c79
                   by_cases c80 : (ji78) < (t1121.length : Int)
                   ·rw [if_pos c80] at H
                    have c80b0 : decide ((ji78) < (t1121.length : Int)) = true := decide_eq_true c80; clear c80
                    by_cases c81 : (rd t1121 (ji78)) < x13_4
                    ·rw [if_pos c81] at H
                     have c81b0 : decide ((rd t1121 (ji78)) < x13_4) = true := decide_eq_true c81; clear c81; obtain rfl := Option.some.inj H; have hnb82 := NB1102_1109.out; have hnc82 := NB1109_1102.out; have hcz83_0 := sqc0 BK1102; have hcz83_1 := sqc1 BK1102; have hcz83_2 := sqc2 BK1102; have hcz83_3 : wc.cell? ⟨gb1102, 3, none⟩ = some (.slice A0_3 l0_3.length c0_3) := (blk_cell BK1102.out 3).trans rfl; have hfz83_0 := blk_frozen BK1102.out 0; have hfz83_1 := blk_frozen BK1102.out 1; have hfz83_2 := blk_frozen BK1102.out 2; have hfz83_3 := blk_frozen BK1102.out 3; have hcz84_0 := sqc0 BK1109; have hcz84_1 := sqc1 BK1109; have hfz84_0 := blk_frozen BK1109.out 0; have hfz84_1 := blk_frozen BK1109.out 1
                     go_wp2_with (first | ((with_reducible refine gate_callee (f := 46) rfl ?_); refine goesL_ (some 109) rfl rfl Tryd.func46 sqF rfl #[.agg #[.slice A0_0 l0_0.length c0_0, .int .u16 (IntKind.u16.wrap (x12_62)), .slice A0_2 l0_2.length c0_2, .slice A0_3 l0_3.length c0_3], .agg #[.slice Ao12 t1103.length co12, .slice Ao15 t1106.length co15], .int .i64 (-1), .int .i64 0] rfl sqM ?_; (with_reducible refine (lw_Cart_lived.calls kj71 _ _ l0_0 (IntKind.u16.wrap (x12_62)) _ _ l0_2 _ _ l0_3 _ _ t1103 _ _ t1106 (-1) 0 t1121 t1124 t1127 _ ?side1 ?side2 ?side3 ?side4 ?side5 ?side6 ?side7 ?side8 ?side9 ?side10 A77.out).mono ?_); (case side1 => exact Kd.C_below HR0_0.out (sqB HB)); (case side2 => exact HC0_0.out); (case side3 => exact Kd.C_below HR0_2.out (sqB HB)); (case side4 => exact HC0_2.out); (case side5 => exact Kd.C_below HR0_3.out (sqB HB)); (case side6 => exact HC0_3.out); (case side7 => refine (Kd.R_reads' (e := 41) (base := w.heap.size) (ok := fun k_ => True) (n := t1103.length) (c := co12) ?_).2.2; exact (by (with_reducible repeat (first | apply Kd.R_alloc | apply Kd.R_drewN | apply Kd.R_drew)); exact (Kd.R_mono (Kd.R_far (p := ⟨gb1102, 1, none⟩) (Kd.R_types HO_1110000.out BK1102.out (by decide)) (fun _ hk => hk.2) (.int .u16 (IntKind.u16.wrap (x12_62)))) (fun _ h_ => h_.1)))); (case side8 => exact (Kd.R_reads' HO_1110000.out).2.1); (case side9 => refine (Kd.R_reads' (e := 80) (base := w.heap.size) (ok := fun k_ => True) (n := t1106.length) (c := co15) ?_).2.2; exact (by (with_reducible repeat (first | apply Kd.R_alloc | apply Kd.R_drewN | apply Kd.R_drew)); exact (Kd.R_mono (Kd.R_far (p := ⟨gb1102, 1, none⟩) (Kd.R_types HO_1110001.out BK1102.out (by decide)) (fun _ hk => hk.2) (.int .u16 (IntKind.u16.wrap (x12_62)))) (fun _ h_ => h_.1)))); (case side10 => exact (Kd.R_reads' HO_1110001.out).2.1); rintro e w85 ⟨v1122, v1125, rfl, ho0, ho1, hb⟩; refine ⟨_, rfl, ?_⟩; replace HO_1110000 := Aside0.mk (Kd.R_below (by (with_reducible repeat (first | apply Kd.R_alloc | apply Kd.R_drewN | apply Kd.R_drew)); exact (Kd.R_mono (Kd.R_far (p := ⟨gb1102, 1, none⟩) (Kd.R_types HO_1110000.out BK1102.out (by decide)) (fun _ hk => hk.2) (.int .u16 (IntKind.u16.wrap (x12_62)))) (fun _ h_ => h_.1))) hb); replace HO_1110001 := Aside0.mk (Kd.R_below (by (with_reducible repeat (first | apply Kd.R_alloc | apply Kd.R_drewN | apply Kd.R_drew)); exact (Kd.R_mono (Kd.R_far (p := ⟨gb1102, 1, none⟩) (Kd.R_types HO_1110001.out BK1102.out (by decide)) (fun _ hk => hk.2) (.int .u16 (IntKind.u16.wrap (x12_62)))) (fun _ h_ => h_.1))) hb); have HO1123 := Aside0.mk (Kd.R_lower ho0 (below_size (sqB HB))); have HO1126 := Aside0.mk (Kd.R_lower ho1 (below_size (sqB HB))); replace BK1102 := Aside0.mk (blk_below (g := gb1102) (o := .cells #[.slice A0_0 l0_0.length c0_0, .int .u16 (IntKind.u16.wrap (x12_62)), .slice A0_2 l0_2.length c0_2, .slice A0_3 l0_3.length c0_3] 69 (0, 0)) (by (with_reducible repeat (first | refine blk_drewN ?_ _ | refine blk_drew ?_ | refine blk_alloc ?_ _)); refine blk_put (cs := #[.slice A0_0 l0_0.length c0_0, .int .u16 x1103001_2, .slice A0_2 l0_2.length c0_2, .slice A0_3 l0_3.length c0_3]) ?_ 1 _ rfl; (with_reducible repeat (first | refine blk_drewN ?_ _ | refine blk_drew ?_ | refine blk_alloc ?_ _)); exact BK1102.out) hb); replace BK1109 := Aside0.mk (blk_below (g := gb1109) (o := .cells #[.slice Ao12 t1103.length co12, .slice Ao15 t1106.length co15] 25 (0, 0)) sqX hb); replace HB := sqb hb HB; (try clear hb); (try clear hb2); (try clear hk); (try clear hi); (try clear ho0); (try clear ho1); obtain ⟨Ao86, co86, eo86⟩ := Kd.R_slice HO1123.out; subst eo86; have p1128 : 0 ≤ ((ji78) : Int) := sqD; have q1128 : (ji78) < (t1121.length : Int) := sqD; obtain ⟨ad1128, e1128, hx1128_0⟩ := Kd.at_int (Kd.R_reads' HO1123.out).2.2 (ji78) p1128 q1128; cases e1128; replace p1128 := eq_true p1128; replace q1128 := eq_true q1128))
                     go_ret
                     exact ⟨by first | rfl | (simp [errW_none, errW_some] <;> rfl) | (simp only [← hji29, ← hji78]; first | rfl | (simp [errW_none, errW_some] <;> rfl)) | (simp [*, errW_none, errW_some] <;> rfl), sqB HB⟩
                    ·rw [if_neg c81] at H
                     have c81b0 : decide ((rd t1121 (ji78)) < x13_4) = false := decide_eq_false c81; clear c81; have H' := Aside0.mk H; clear H; have hnb87 := NB1102_1109.out; have hnc87 := NB1109_1102.out; have hcz88_0 := sqc0 BK1102; have hcz88_1 := sqc1 BK1102; have hcz88_2 := sqc2 BK1102; have hcz88_3 : wc.cell? ⟨gb1102, 3, none⟩ = some (.slice A0_3 l0_3.length c0_3) := (blk_cell BK1102.out 3).trans rfl; have hfz88_0 := blk_frozen BK1102.out 0; have hfz88_1 := blk_frozen BK1102.out 1; have hfz88_2 := blk_frozen BK1102.out 2; have hfz88_3 := blk_frozen BK1102.out 3; have hcz89_0 := sqc0 BK1109; have hcz89_1 := sqc1 BK1109; have hfz89_0 := blk_frozen BK1109.out 0; have hfz89_1 := blk_frozen BK1109.out 1
                     go_wp2_with (first | ((with_reducible refine gate_callee (f := 46) rfl ?_); refine goesL_ (some 109) rfl rfl Tryd.func46 sqF rfl #[.agg #[.slice A0_0 l0_0.length c0_0, .int .u16 (IntKind.u16.wrap (x12_62)), .slice A0_2 l0_2.length c0_2, .slice A0_3 l0_3.length c0_3], .agg #[.slice Ao12 t1103.length co12, .slice Ao15 t1106.length co15], .int .i64 (-1), .int .i64 0] rfl sqM ?_; (with_reducible refine (lw_Cart_lived.calls kj71 _ _ l0_0 (IntKind.u16.wrap (x12_62)) _ _ l0_2 _ _ l0_3 _ _ t1103 _ _ t1106 (-1) 0 t1121 t1124 t1127 _ ?side1 ?side2 ?side3 ?side4 ?side5 ?side6 ?side7 ?side8 ?side9 ?side10 A77.out).mono ?_); (case side1 => exact Kd.C_below HR0_0.out (sqB HB)); (case side2 => exact HC0_0.out); (case side3 => exact Kd.C_below HR0_2.out (sqB HB)); (case side4 => exact HC0_2.out); (case side5 => exact Kd.C_below HR0_3.out (sqB HB)); (case side6 => exact HC0_3.out); (case side7 => refine (Kd.R_reads' (e := 41) (base := w.heap.size) (ok := fun k_ => True) (n := t1103.length) (c := co12) ?_).2.2; exact (by (with_reducible repeat (first | apply Kd.R_alloc | apply Kd.R_drewN | apply Kd.R_drew)); exact (Kd.R_mono (Kd.R_far (p := ⟨gb1102, 1, none⟩) (Kd.R_types HO_1110000.out BK1102.out (by decide)) (fun _ hk => hk.2) (.int .u16 (IntKind.u16.wrap (x12_62)))) (fun _ h_ => h_.1)))); (case side8 => exact (Kd.R_reads' HO_1110000.out).2.1); (case side9 => refine (Kd.R_reads' (e := 80) (base := w.heap.size) (ok := fun k_ => True) (n := t1106.length) (c := co15) ?_).2.2; exact (by (with_reducible repeat (first | apply Kd.R_alloc | apply Kd.R_drewN | apply Kd.R_drew)); exact (Kd.R_mono (Kd.R_far (p := ⟨gb1102, 1, none⟩) (Kd.R_types HO_1110001.out BK1102.out (by decide)) (fun _ hk => hk.2) (.int .u16 (IntKind.u16.wrap (x12_62)))) (fun _ h_ => h_.1)))); (case side10 => exact (Kd.R_reads' HO_1110001.out).2.1); rintro e w90 ⟨v1122, v1125, rfl, ho0, ho1, hb⟩; refine ⟨_, rfl, ?_⟩; replace HO_1110000 := Aside0.mk (Kd.R_below (by (with_reducible repeat (first | apply Kd.R_alloc | apply Kd.R_drewN | apply Kd.R_drew)); exact (Kd.R_mono (Kd.R_far (p := ⟨gb1102, 1, none⟩) (Kd.R_types HO_1110000.out BK1102.out (by decide)) (fun _ hk => hk.2) (.int .u16 (IntKind.u16.wrap (x12_62)))) (fun _ h_ => h_.1))) hb); replace HO_1110001 := Aside0.mk (Kd.R_below (by (with_reducible repeat (first | apply Kd.R_alloc | apply Kd.R_drewN | apply Kd.R_drew)); exact (Kd.R_mono (Kd.R_far (p := ⟨gb1102, 1, none⟩) (Kd.R_types HO_1110001.out BK1102.out (by decide)) (fun _ hk => hk.2) (.int .u16 (IntKind.u16.wrap (x12_62)))) (fun _ h_ => h_.1))) hb); have HO1123 := Aside0.mk (Kd.R_lower ho0 (below_size (sqB HB))); have HO1126 := Aside0.mk (Kd.R_lower ho1 (below_size (sqB HB))); replace BK1102 := Aside0.mk (blk_below (g := gb1102) (o := .cells #[.slice A0_0 l0_0.length c0_0, .int .u16 (IntKind.u16.wrap (x12_62)), .slice A0_2 l0_2.length c0_2, .slice A0_3 l0_3.length c0_3] 69 (0, 0)) (by (with_reducible repeat (first | refine blk_drewN ?_ _ | refine blk_drew ?_ | refine blk_alloc ?_ _)); refine blk_put (cs := #[.slice A0_0 l0_0.length c0_0, .int .u16 x1103001_2, .slice A0_2 l0_2.length c0_2, .slice A0_3 l0_3.length c0_3]) ?_ 1 _ rfl; (with_reducible repeat (first | refine blk_drewN ?_ _ | refine blk_drew ?_ | refine blk_alloc ?_ _)); exact BK1102.out) hb); replace BK1109 := Aside0.mk (blk_below (g := gb1109) (o := .cells #[.slice Ao12 t1103.length co12, .slice Ao15 t1106.length co15] 25 (0, 0)) sqX hb); replace HB := sqb hb HB; (try clear hb); (try clear hb2); (try clear hk); (try clear hi); (try clear ho0); (try clear ho1); obtain ⟨Ao91, co91, eo91⟩ := Kd.R_slice HO1123.out; subst eo91; have p1128 : 0 ≤ ((ji78) : Int) := sqD; have q1128 : (ji78) < (t1121.length : Int) := sqD; obtain ⟨ad1128, e1128, hx1128_0⟩ := Kd.at_int (Kd.R_reads' HO1123.out).2.2 (ji78) p1128 q1128; cases e1128; replace p1128 := eq_true p1128; replace q1128 := eq_true q1128))
                     go_roundg kj71
                     case measure => have := HJ6.out; have := HK2.out; have := HJ62.out; have := HK4.out; have := HJ71.out; omega
                     case rel => exact ⟨(wrap64 (x11_2 + 1)), (IntKind.u16.wrap (x12_62)), sqE, H', ⟨by have := HJ6.out; have := HK2.out; have := HJ62.out; have := HK4.out; have := HJ71.out; omega⟩, ⟨sqR HO_1110000⟩, ⟨sqR HO_1110001⟩, ⟨sqK BK1102⟩, ⟨sqK BK1109⟩, ⟨sqB HB⟩⟩
                   ·rw [if_neg c80] at H
                    exact absurd H (by simp)
                  ·rw [if_neg c79] at H
                   exact absurd H (by simp)
        ·rw [if_neg c61] at H
         have c61b0 : (x11_2 == 1) = false := beq_eq_false_iff_ne.mpr c61; have c61b1 : (x11_2 != 1) = true := bne_iff_ne.mpr c61
         by_cases c92 : x11_2 = 2
         ·rw [if_pos c92] at H
          have c92b0 : (x11_2 == 2) = true := beq_iff_eq.mpr c92; have c92b1 : (x11_2 != 2) = false := bne_eq_false_iff_eq.mpr c92; clear c92; have HC94 := Aside0.mk H
          clear H; have hix93 : ∀ (w_ : World) (a0_ a1_ a2_ : Int), (Instr.index 85 (.agg #[.int .i64 a0_, .int .i64 a1_, .int .i64 a2_]) (.int .i64 x11_2)).run Tryd.prog w_ = .ok (.int .i64 a2_) w_ := by rw [show (x11_2 : Int) = 2 from sqD]; intros; kernel_rfl
          go_upto_if 73 with (fail)
          go_cut [12] (fun v12 wc => ∃ (kq : Nat) (x12_93 : Int), v12 = .int .i64 x12_93 ∧ Aside0 (lw_WoolEnough.j6 kq a2 (Int.tmod (wrap64 (a1)) 401) t1116 t1117 x11_2 x12_93 l0_0 x1103001_2 l0_2 l0_3 t1103 t1106 = some r) ∧ Aside0 (kq ≤ k2) ∧ Aside0 (Kd.R k41 41 wc w.heap.size (fun _ => True) (.slice Ao12 t1103.length co12) t1103) ∧ Aside0 (Kd.R k80 80 wc w.heap.size (fun _ => True) (.slice Ao15 t1106.length co15) t1106) ∧ Aside0 (wc.heap[gb1102]? = some (.cells #[(.slice A0_0 l0_0.length c0_0), .int .u16 x1103001_2, (.slice A0_2 l0_2.length c0_2), (.slice A0_3 l0_3.length c0_3)] 69 (0, 0))) ∧ Aside0 (wc.heap[gb1109]? = some (.cells #[(.slice Ao12 t1103.length co12), (.slice Ao15 t1106.length co15)] 25 (0, 0))) ∧ Aside0 (Below w.heap.size w wc))
          case first =>
           have H := HC94.out; clear HC94
           by_cases c95 : t1117 = 0
           ·rw [if_pos c95] at H
            have c95b0 : (t1117 == 0) = true := beq_iff_eq.mpr c95; have c95b1 : (t1117 != 0) = false := bne_eq_false_iff_eq.mpr c95; clear c95
            (first | rw [c95b0] | (simp only [i64_w, i32_w]; rw [c95b0]) | skip)
            have H' := Aside0.mk H; clear H; go_wp2
            go_meet
            case rel => exact ⟨_, (ji29), (by first | rfl | (simp; done) | (simp only [← hji29] <;> (first | rfl | simp)) | (simp [*]; done)), H', ⟨by have := HJ6.out; have := HK2.out; first | omega | exact Nat.le_refl _⟩, ⟨sqR HO_1110000⟩, ⟨sqR HO_1110001⟩, ⟨sqK BK1102⟩, ⟨sqK BK1109⟩, ⟨sqB HB⟩⟩
           ·rw [if_neg c95] at H
            have c95b0 : (t1117 == 0) = false := beq_eq_false_iff_ne.mpr c95; have c95b1 : (t1117 != 0) = true := bne_iff_ne.mpr c95
            (first | rw [c95b0] | (simp only [i64_w, i32_w]; rw [c95b0]) | skip)
            have H' := Aside0.mk H; clear H; go_wp2
            go_meet
            case rel => exact ⟨_, (400), sqE, H', ⟨by have := HJ6.out; have := HK2.out; first | omega | exact Nat.le_refl _⟩, ⟨sqR HO_1110000⟩, ⟨sqR HO_1110001⟩, ⟨sqK BK1102⟩, ⟨sqK BK1109⟩, ⟨sqB HB⟩⟩
          case rest =>
           clear HC94; try clear c28b0
           (try clear c30); (try clear c30b0); (try clear c30b1); (try clear c61); (try clear c61b0); (try clear c61b1); (try clear c92b0); (try clear c92b1); obtain ⟨kq, x12_93, rfl, HA, HJ93, HO_1110000, HO_1110001, BK1102, BK1109, HB⟩ := hcut
           cases kq with
           | zero => exact absurd HA.out (by simp [lw_WoolEnough.j6])
           | succ kj93 =>
            have H := HA.out; clear HA; simp only [lw_WoolEnough.j6] at H
            by_cases c96 : x12_93 < 0
            ·rw [if_pos c96] at H
             have c96b0 : decide (x12_93 < 0) = true := decide_eq_true c96; clear c96; have H' := Aside0.mk H; clear H; go_wp2
             go_roundg kj93
             case measure => have := HJ6.out; have := HK2.out; have := HJ93.out; omega
             case rel => exact ⟨(wrap64 (x11_2 + 1)), (x1103001_2), sqE, H', ⟨by have := HJ6.out; have := HK2.out; have := HJ93.out; omega⟩, ⟨sqR HO_1110000⟩, ⟨sqR HO_1110001⟩, ⟨sqK BK1102⟩, ⟨sqK BK1109⟩, ⟨sqB HB⟩⟩
            ·rw [if_neg c96] at H
             have c96b0 : decide (x12_93 < 0) = false := decide_eq_false c96; clear c96; have H' := Aside0.mk H; clear H; go_wp2
             go_loopg [13, 14] kj93 (fun kq v13 v14 w' => ∃ (x13_4 : Int) (x14_4 : Int), v13 = .int .i64 x13_4 ∧ v14 = .int .i64 x14_4 ∧ Aside0 (lw_WoolEnough.l1 kq a2 (Int.tmod (wrap64 (a1)) 401) t1116 t1117 x11_2 x12_93 x13_4 x14_4 l0_0 x1103001_2 l0_2 l0_3 t1103 t1106 = some r) ∧ Aside0 (kq ≤ kj93) ∧ Aside0 (Kd.R k41 41 w' w.heap.size (fun _ => True) (.slice Ao12 t1103.length co12) t1103) ∧ Aside0 (Kd.R k80 80 w' w.heap.size (fun _ => True) (.slice Ao15 t1106.length co15) t1106) ∧ Aside0 (w'.heap[gb1102]? = some (.cells #[(.slice A0_0 l0_0.length c0_0), .int .u16 x1103001_2, (.slice A0_2 l0_2.length c0_2), (.slice A0_3 l0_3.length c0_3)] 69 (0, 0))) ∧ Aside0 (w'.heap[gb1109]? = some (.cells #[(.slice Ao12 t1103.length co12), (.slice Ao15 t1106.length co15)] 25 (0, 0))) ∧ Aside0 (Below w.heap.size w w'))
             case atStart => exact ⟨(x12_93), (0), sqE, sqE, H', ⟨Nat.le_refl _⟩, ⟨sqR HO_1110000⟩, ⟨sqR HO_1110001⟩, ⟨sqK BK1102⟩, ⟨sqK BK1109⟩, ⟨sqB HB⟩⟩
             case round =>
              clear H'; try clear c96b0
              obtain ⟨x13_4, x14_4, rfl, rfl, HA, HK4, HO_1110000, HO_1110001, BK1102, BK1109, HB⟩ := hrel
              cases gk with
              | zero => exact absurd HA.out (by simp [lw_WoolEnough.l1])
              | succ k4 =>
               have H := HA.out; clear HA; simp only [lw_WoolEnough.l1] at H
               by_cases c97 : x14_4 < (t1103.length : Int)
               ·rw [if_pos c97] at H
                have c97b0 : decide (x14_4 < (t1103.length : Int)) = true := decide_eq_true c97; clear c97
                by_cases c98 : 0 ≤ x14_4
                ·rw [if_pos c98] at H
                 have c98b0 : decide (0 ≤ x14_4) = true := decide_eq_true c98; clear c98; obtain ⟨t1120, A990, H⟩ := Option.bind_eq_some_iff.mp H; have A99 := Aside0.mk A990; clear A990; have H' := Aside0.mk H; clear H; have hnb100 := NB1109_1102.out; have hnc100 := NB1102_1109.out; have hcz101_0 := sqc0 BK1109; have hcz101_1 := sqc1 BK1109; have hfz101_0 := blk_frozen BK1109.out 0; have hfz101_1 := blk_frozen BK1109.out 1; have p1119 : 0 ≤ (x14_4 : Int) := sqD; have q1119 : x14_4 < (t1103.length : Int) := sqD; obtain ⟨ad1119, e1119, hx1119_0, hx1119_1⟩ := at_T41 (Kd.R_reads' HO_1110000.out).2.2 x14_4 p1119 q1119
                 cases e1119
                 replace p1119 := eq_true p1119; replace q1119 := eq_true q1119
                 go_wp2_with (first | ((with_reducible refine gate_callee (f := 53) rfl ?_); refine goesL_ (some 91) rfl rfl Tryd.func53 sqF rfl #[.agg #[.int .i64 ((rd_T41 t1103 x14_4).f0), .int .i64 ((rd_T41 t1103 x14_4).f1)], .int .i64 x13_4] rfl sqM ?_; (with_reducible refine (lw_most.calls ((rd_T41 t1103 x14_4).f0) ((rd_T41 t1103 x14_4).f1) x13_4 t1120 _ A99.out).mono ?_); rintro e w102 ⟨rfl, hb⟩; refine ⟨_, rfl, ?_⟩; replace HO_1110000 := Aside0.mk (Kd.R_below (sqR HO_1110000) hb); replace HO_1110001 := Aside0.mk (Kd.R_below (sqR HO_1110001) hb); replace BK1102 := sqk BK1102 hb; replace BK1109 := sqk BK1109 hb; replace HB := sqb hb HB; (try clear hb); (try clear hb2); (try clear hk); (try clear hi)))
                 go_roundg k4
                 case measure => have := HJ6.out; have := HK2.out; have := HJ93.out; have := HK4.out; omega
                 case rel => exact ⟨(wrap64 (x13_4 - t1120)), (wrap64 (x14_4 + 1)), sqE, sqE, H', ⟨by have := HJ6.out; have := HK2.out; have := HJ93.out; have := HK4.out; omega⟩, ⟨sqR HO_1110000⟩, ⟨sqR HO_1110001⟩, ⟨sqK BK1102⟩, ⟨sqK BK1109⟩, ⟨sqB HB⟩⟩
                ·rw [if_neg c98] at H
                 exact absurd H (by simp)
               ·rw [if_neg c97] at H
                have c97b0 : decide (x14_4 < (t1103.length : Int)) = false := decide_eq_false c97; clear c97; have HC103 := Aside0.mk H; clear H; have hnb104 := NB1109_1102.out; have hnc104 := NB1102_1109.out; have hcz105_0 := sqc0 BK1109; have hcz105_1 := sqc1 BK1109; have hfz105_0 := blk_frozen BK1109.out 0; have hfz105_1 := blk_frozen BK1109.out 1
                go_upto_region 17 with (fail)
                go_cut [102] (fun v102 wc => ∃ (kq : Nat) (x102_102 : Bool), v102 = .bool x102_102 ∧ Aside0 (lw_WoolEnough.j4 kq a2 (Int.tmod (wrap64 (a1)) 401) t1116 t1117 x11_2 x12_93 x13_4 x102_102 l0_0 x1103001_2 l0_2 l0_3 t1103 t1106 = some r) ∧ Aside0 (kq ≤ k4) ∧ Aside0 (Kd.R k41 41 wc w.heap.size (fun _ => True) (.slice Ao12 t1103.length co12) t1103) ∧ Aside0 (Kd.R k80 80 wc w.heap.size (fun _ => True) (.slice Ao15 t1106.length co15) t1106) ∧ Aside0 (wc.heap[gb1102]? = some (.cells #[(.slice A0_0 l0_0.length c0_0), .int .u16 x1103001_2, (.slice A0_2 l0_2.length c0_2), (.slice A0_3 l0_3.length c0_3)] 69 (0, 0))) ∧ Aside0 (wc.heap[gb1109]? = some (.cells #[(.slice Ao12 t1103.length co12), (.slice Ao15 t1106.length co15)] 25 (0, 0))) ∧ Aside0 (Below w.heap.size w wc))
                case first =>
                 have H := HC103.out; clear HC103
                 by_cases c106 : t1117 = 0
                 ·rw [if_pos c106] at H
                  have c106b0 : (t1117 == 0) = true := beq_iff_eq.mpr c106; have c106b1 : (t1117 != 0) = false := bne_eq_false_iff_eq.mpr c106; clear c106
                  (first | rw [c106b0] | (simp only [i64_w, i32_w]; rw [c106b0]) | skip)
                  have H' := Aside0.mk H; clear H; go_wp2
                  go_meet
                  case rel => exact ⟨_, (((decide (x13_4 ≥ (Int.tmod (wrap64 (a1)) 401))) != (x11_2 != 1))), sqE, H', ⟨by have := HJ6.out; have := HK2.out; have := HJ93.out; have := HK4.out; first | omega | exact Nat.le_refl _⟩, ⟨sqR HO_1110000⟩, ⟨sqR HO_1110001⟩, ⟨sqK BK1102⟩, ⟨sqK BK1109⟩, ⟨sqB HB⟩⟩
                 ·rw [if_neg c106] at H
                  have c106b0 : (t1117 == 0) = false := beq_eq_false_iff_ne.mpr c106; have c106b1 : (t1117 != 0) = true := bne_iff_ne.mpr c106
                  (first | rw [c106b0] | (simp only [i64_w, i32_w]; rw [c106b0]) | skip)
                  have H' := Aside0.mk H; clear H; go_wp2
                  go_meet
                  case rel => exact ⟨_, (((decide (x13_4 ≥ (Int.tmod (wrap64 (a1)) 401))) != false)), sqE, H', ⟨by have := HJ6.out; have := HK2.out; have := HJ93.out; have := HK4.out; first | omega | exact Nat.le_refl _⟩, ⟨sqR HO_1110000⟩, ⟨sqR HO_1110001⟩, ⟨sqK BK1102⟩, ⟨sqK BK1109⟩, ⟨sqB HB⟩⟩
                case rest =>
                 clear HC103; try clear c97b0
                 (try clear hcz105_0); (try clear hcz105_1); (try clear hfz105_0); (try clear hfz105_1); obtain ⟨kq, x102_102, rfl, HA, HJ102, HO_1110000, HO_1110001, BK1102, BK1109, HB⟩ := hcut
                 cases kq with
                 | zero => exact absurd HA.out (by simp [lw_WoolEnough.j4])
                 | succ kj102 =>
                  have H := HA.out; clear HA; simp only [lw_WoolEnough.j4] at H
                  by_cases c107 : x102_102 = true
                  ·subst c107
                   rw [if_pos rfl] at H; obtain rfl := Option.some.inj H
                   go_wp2
                   go_ret
                   exact ⟨by first | rfl | (simp [errW_none, errW_some] <;> rfl) | (simp only [← hji29]; first | rfl | (simp [errW_none, errW_some] <;> rfl)) | (simp [*, errW_none, errW_some] <;> rfl), sqB HB⟩
                  ·replace c107 := Bool.eq_false_iff.mpr c107
                   subst c107; rw [if_neg Bool.false_ne_true] at H; obtain ⟨⟨t1121, t1124, t1127⟩, A1080, H⟩ := Option.bind_eq_some_iff.mp H; replace H : (if 0 ≤ (wrap64 ((t1121.length : Int) - 1)) then (if (wrap64 ((t1121.length : Int) - 1)) < (t1121.length : Int) then (if (rd t1121 (wrap64 ((t1121.length : Int) - 1))) < x13_4 then (some false) else (lw_WoolEnough.l0 kj102 a2 (Int.tmod (wrap64 (a1)) 401) t1116 t1117 (wrap64 (x11_2 + 1)) l0_0 (IntKind.u16.wrap (x12_93)) l0_2 l0_3 t1103 t1106)) else (none)) else (none)) = some r := H; have A108 := Aside0.mk A1080; clear A1080; obtain ⟨ji109, hji109⟩ : ∃ j_ : Int, (wrap64 ((t1121.length : Int) - 1)) = j_ := ⟨_, rfl⟩
                   replace H : (if 0 ≤ (ji109) then (if (ji109) < (t1121.length : Int) then (if (rd t1121 (ji109)) < x13_4 then (some false) else (lw_WoolEnough.l0 kj102 a2 (Int.tmod (wrap64 (a1)) 401) t1116 t1117 (wrap64 (x11_2 + 1)) l0_0 (IntKind.u16.wrap (x12_93)) l0_2 l0_3 t1103 t1106)) else (none)) else (none)) = some r := by first | (rw [hji109] at H; exact H) | (simp only [hji109] at H ⊢; exact H)
                   (try rw [hji109] at A108)
                   have hji109w : (IntKind.i64.wrap ((t1121.length : Int) - 1)) = ji109 := (i64_w _).trans hji109
                   by_cases c110 : 0 ≤ (ji109)
                   ·rw [if_pos c110] at H
                    have c110b0 : decide (0 ≤ (ji109)) = true := decide_eq_true c110; clear c110
                    by_cases c111 : (ji109) < (t1121.length : Int)
                    ·rw [if_pos c111] at H
                     have c111b0 : decide ((ji109) < (t1121.length : Int)) = true := decide_eq_true c111; clear c111
                     by_cases c112 : (rd t1121 (ji109)) < x13_4
                     ·rw [if_pos c112] at H
                      have c112b0 : decide ((rd t1121 (ji109)) < x13_4) = true := decide_eq_true c112; clear c112; obtain rfl := Option.some.inj H; have hnb113 := NB1102_1109.out; have hnc113 := NB1109_1102.out; have hcz114_0 := sqc0 BK1102; have hcz114_1 := sqc1 BK1102; have hcz114_2 := sqc2 BK1102; have hcz114_3 : wc.cell? ⟨gb1102, 3, none⟩ = some (.slice A0_3 l0_3.length c0_3) := (blk_cell BK1102.out 3).trans rfl; have hfz114_0 := blk_frozen BK1102.out 0; have hfz114_1 := blk_frozen BK1102.out 1; have hfz114_2 := blk_frozen BK1102.out 2; have hfz114_3 := blk_frozen BK1102.out 3; have hcz115_0 := sqc0 BK1109; have hcz115_1 := sqc1 BK1109; have hfz115_0 := blk_frozen BK1109.out 0; have hfz115_1 := blk_frozen BK1109.out 1
                      go_wp2_with (first | ((with_reducible refine gate_callee (f := 46) rfl ?_); refine goesL_ (some 109) rfl rfl Tryd.func46 sqF rfl #[.agg #[.slice A0_0 l0_0.length c0_0, .int .u16 (IntKind.u16.wrap (x12_93)), .slice A0_2 l0_2.length c0_2, .slice A0_3 l0_3.length c0_3], .agg #[.slice Ao12 t1103.length co12, .slice Ao15 t1106.length co15], .int .i64 (-1), .int .i64 0] rfl sqM ?_; (with_reducible refine (lw_Cart_lived.calls kj102 _ _ l0_0 (IntKind.u16.wrap (x12_93)) _ _ l0_2 _ _ l0_3 _ _ t1103 _ _ t1106 (-1) 0 t1121 t1124 t1127 _ ?side1 ?side2 ?side3 ?side4 ?side5 ?side6 ?side7 ?side8 ?side9 ?side10 A108.out).mono ?_); (case side1 => exact Kd.C_below HR0_0.out (sqB HB)); (case side2 => exact HC0_0.out); (case side3 => exact Kd.C_below HR0_2.out (sqB HB)); (case side4 => exact HC0_2.out); (case side5 => exact Kd.C_below HR0_3.out (sqB HB)); (case side6 => exact HC0_3.out); (case side7 => refine (Kd.R_reads' (e := 41) (base := w.heap.size) (ok := fun k_ => True) (n := t1103.length) (c := co12) ?_).2.2; exact (by (with_reducible repeat (first | apply Kd.R_alloc | apply Kd.R_drewN | apply Kd.R_drew)); exact (Kd.R_mono (Kd.R_far (p := ⟨gb1102, 1, none⟩) (Kd.R_types HO_1110000.out BK1102.out (by decide)) (fun _ hk => hk.2) (.int .u16 (IntKind.u16.wrap (x12_93)))) (fun _ h_ => h_.1)))); (case side8 => exact (Kd.R_reads' HO_1110000.out).2.1); (case side9 => refine (Kd.R_reads' (e := 80) (base := w.heap.size) (ok := fun k_ => True) (n := t1106.length) (c := co15) ?_).2.2; exact (by (with_reducible repeat (first | apply Kd.R_alloc | apply Kd.R_drewN | apply Kd.R_drew)); exact (Kd.R_mono (Kd.R_far (p := ⟨gb1102, 1, none⟩) (Kd.R_types HO_1110001.out BK1102.out (by decide)) (fun _ hk => hk.2) (.int .u16 (IntKind.u16.wrap (x12_93)))) (fun _ h_ => h_.1)))); (case side10 => exact (Kd.R_reads' HO_1110001.out).2.1); rintro e w116 ⟨v1122, v1125, rfl, ho0, ho1, hb⟩; refine ⟨_, rfl, ?_⟩; replace HO_1110000 := Aside0.mk (Kd.R_below (by (with_reducible repeat (first | apply Kd.R_alloc | apply Kd.R_drewN | apply Kd.R_drew)); exact (Kd.R_mono (Kd.R_far (p := ⟨gb1102, 1, none⟩) (Kd.R_types HO_1110000.out BK1102.out (by decide)) (fun _ hk => hk.2) (.int .u16 (IntKind.u16.wrap (x12_93)))) (fun _ h_ => h_.1))) hb); replace HO_1110001 := Aside0.mk (Kd.R_below (by (with_reducible repeat (first | apply Kd.R_alloc | apply Kd.R_drewN | apply Kd.R_drew)); exact (Kd.R_mono (Kd.R_far (p := ⟨gb1102, 1, none⟩) (Kd.R_types HO_1110001.out BK1102.out (by decide)) (fun _ hk => hk.2) (.int .u16 (IntKind.u16.wrap (x12_93)))) (fun _ h_ => h_.1))) hb); have HO1123 := Aside0.mk (Kd.R_lower ho0 (below_size (sqB HB))); have HO1126 := Aside0.mk (Kd.R_lower ho1 (below_size (sqB HB))); replace BK1102 := Aside0.mk (blk_below (g := gb1102) (o := .cells #[.slice A0_0 l0_0.length c0_0, .int .u16 (IntKind.u16.wrap (x12_93)), .slice A0_2 l0_2.length c0_2, .slice A0_3 l0_3.length c0_3] 69 (0, 0)) (by (with_reducible repeat (first | refine blk_drewN ?_ _ | refine blk_drew ?_ | refine blk_alloc ?_ _)); refine blk_put (cs := #[.slice A0_0 l0_0.length c0_0, .int .u16 x1103001_2, .slice A0_2 l0_2.length c0_2, .slice A0_3 l0_3.length c0_3]) ?_ 1 _ rfl; (with_reducible repeat (first | refine blk_drewN ?_ _ | refine blk_drew ?_ | refine blk_alloc ?_ _)); exact BK1102.out) hb); replace BK1109 := Aside0.mk (blk_below (g := gb1109) (o := .cells #[.slice Ao12 t1103.length co12, .slice Ao15 t1106.length co15] 25 (0, 0)) sqX hb); replace HB := sqb hb HB; (try clear hb); (try clear hb2); (try clear hk); (try clear hi); (try clear ho0); (try clear ho1); obtain ⟨Ao117, co117, eo117⟩ := Kd.R_slice HO1123.out; subst eo117; have p1128 : 0 ≤ ((ji109) : Int) := sqD; have q1128 : (ji109) < (t1121.length : Int) := sqD; obtain ⟨ad1128, e1128, hx1128_0⟩ := Kd.at_int (Kd.R_reads' HO1123.out).2.2 (ji109) p1128 q1128; cases e1128; replace p1128 := eq_true p1128; replace q1128 := eq_true q1128))
                      go_ret
                      exact ⟨by first | rfl | (simp [errW_none, errW_some] <;> rfl) | (simp only [← hji29, ← hji109]; first | rfl | (simp [errW_none, errW_some] <;> rfl)) | (simp [*, errW_none, errW_some] <;> rfl), sqB HB⟩
                     ·rw [if_neg c112] at H
                      have c112b0 : decide ((rd t1121 (ji109)) < x13_4) = false := decide_eq_false c112; clear c112; have H' := Aside0.mk H; clear H; have hnb118 := NB1102_1109.out; have hnc118 := NB1109_1102.out; have hcz119_0 := sqc0 BK1102; have hcz119_1 := sqc1 BK1102; have hcz119_2 := sqc2 BK1102; have hcz119_3 : wc.cell? ⟨gb1102, 3, none⟩ = some (.slice A0_3 l0_3.length c0_3) := (blk_cell BK1102.out 3).trans rfl; have hfz119_0 := blk_frozen BK1102.out 0; have hfz119_1 := blk_frozen BK1102.out 1; have hfz119_2 := blk_frozen BK1102.out 2; have hfz119_3 := blk_frozen BK1102.out 3; have hcz120_0 := sqc0 BK1109; have hcz120_1 := sqc1 BK1109; have hfz120_0 := blk_frozen BK1109.out 0; have hfz120_1 := blk_frozen BK1109.out 1
                      go_wp2_with (first | ((with_reducible refine gate_callee (f := 46) rfl ?_); refine goesL_ (some 109) rfl rfl Tryd.func46 sqF rfl #[.agg #[.slice A0_0 l0_0.length c0_0, .int .u16 (IntKind.u16.wrap (x12_93)), .slice A0_2 l0_2.length c0_2, .slice A0_3 l0_3.length c0_3], .agg #[.slice Ao12 t1103.length co12, .slice Ao15 t1106.length co15], .int .i64 (-1), .int .i64 0] rfl sqM ?_; (with_reducible refine (lw_Cart_lived.calls kj102 _ _ l0_0 (IntKind.u16.wrap (x12_93)) _ _ l0_2 _ _ l0_3 _ _ t1103 _ _ t1106 (-1) 0 t1121 t1124 t1127 _ ?side1 ?side2 ?side3 ?side4 ?side5 ?side6 ?side7 ?side8 ?side9 ?side10 A108.out).mono ?_); (case side1 => exact Kd.C_below HR0_0.out (sqB HB)); (case side2 => exact HC0_0.out); (case side3 => exact Kd.C_below HR0_2.out (sqB HB)); (case side4 => exact HC0_2.out); (case side5 => exact Kd.C_below HR0_3.out (sqB HB)); (case side6 => exact HC0_3.out); (case side7 => refine (Kd.R_reads' (e := 41) (base := w.heap.size) (ok := fun k_ => True) (n := t1103.length) (c := co12) ?_).2.2; exact (by (with_reducible repeat (first | apply Kd.R_alloc | apply Kd.R_drewN | apply Kd.R_drew)); exact (Kd.R_mono (Kd.R_far (p := ⟨gb1102, 1, none⟩) (Kd.R_types HO_1110000.out BK1102.out (by decide)) (fun _ hk => hk.2) (.int .u16 (IntKind.u16.wrap (x12_93)))) (fun _ h_ => h_.1)))); (case side8 => exact (Kd.R_reads' HO_1110000.out).2.1); (case side9 => refine (Kd.R_reads' (e := 80) (base := w.heap.size) (ok := fun k_ => True) (n := t1106.length) (c := co15) ?_).2.2; exact (by (with_reducible repeat (first | apply Kd.R_alloc | apply Kd.R_drewN | apply Kd.R_drew)); exact (Kd.R_mono (Kd.R_far (p := ⟨gb1102, 1, none⟩) (Kd.R_types HO_1110001.out BK1102.out (by decide)) (fun _ hk => hk.2) (.int .u16 (IntKind.u16.wrap (x12_93)))) (fun _ h_ => h_.1)))); (case side10 => exact (Kd.R_reads' HO_1110001.out).2.1); rintro e w121 ⟨v1122, v1125, rfl, ho0, ho1, hb⟩; refine ⟨_, rfl, ?_⟩; replace HO_1110000 := Aside0.mk (Kd.R_below (by (with_reducible repeat (first | apply Kd.R_alloc | apply Kd.R_drewN | apply Kd.R_drew)); exact (Kd.R_mono (Kd.R_far (p := ⟨gb1102, 1, none⟩) (Kd.R_types HO_1110000.out BK1102.out (by decide)) (fun _ hk => hk.2) (.int .u16 (IntKind.u16.wrap (x12_93)))) (fun _ h_ => h_.1))) hb); replace HO_1110001 := Aside0.mk (Kd.R_below (by (with_reducible repeat (first | apply Kd.R_alloc | apply Kd.R_drewN | apply Kd.R_drew)); exact (Kd.R_mono (Kd.R_far (p := ⟨gb1102, 1, none⟩) (Kd.R_types HO_1110001.out BK1102.out (by decide)) (fun _ hk => hk.2) (.int .u16 (IntKind.u16.wrap (x12_93)))) (fun _ h_ => h_.1))) hb); have HO1123 := Aside0.mk (Kd.R_lower ho0 (below_size (sqB HB))); have HO1126 := Aside0.mk (Kd.R_lower ho1 (below_size (sqB HB))); replace BK1102 := Aside0.mk (blk_below (g := gb1102) (o := .cells #[.slice A0_0 l0_0.length c0_0, .int .u16 (IntKind.u16.wrap (x12_93)), .slice A0_2 l0_2.length c0_2, .slice A0_3 l0_3.length c0_3] 69 (0, 0)) (by (with_reducible repeat (first | refine blk_drewN ?_ _ | refine blk_drew ?_ | refine blk_alloc ?_ _)); refine blk_put (cs := #[.slice A0_0 l0_0.length c0_0, .int .u16 x1103001_2, .slice A0_2 l0_2.length c0_2, .slice A0_3 l0_3.length c0_3]) ?_ 1 _ rfl; (with_reducible repeat (first | refine blk_drewN ?_ _ | refine blk_drew ?_ | refine blk_alloc ?_ _)); exact BK1102.out) hb); replace BK1109 := Aside0.mk (blk_below (g := gb1109) (o := .cells #[.slice Ao12 t1103.length co12, .slice Ao15 t1106.length co15] 25 (0, 0)) sqX hb); replace HB := sqb hb HB; (try clear hb); (try clear hb2); (try clear hk); (try clear hi); (try clear ho0); (try clear ho1); obtain ⟨Ao122, co122, eo122⟩ := Kd.R_slice HO1123.out; subst eo122; have p1128 : 0 ≤ ((ji109) : Int) := sqD; have q1128 : (ji109) < (t1121.length : Int) := sqD; obtain ⟨ad1128, e1128, hx1128_0⟩ := Kd.at_int (Kd.R_reads' HO1123.out).2.2 (ji109) p1128 q1128; cases e1128; replace p1128 := eq_true p1128; replace q1128 := eq_true q1128))
                      go_roundg kj102
                      case measure => have := HJ6.out; have := HK2.out; have := HJ93.out; have := HK4.out; have := HJ102.out; omega
                      case rel => exact ⟨(wrap64 (x11_2 + 1)), (IntKind.u16.wrap (x12_93)), sqE, H', ⟨by have := HJ6.out; have := HK2.out; have := HJ93.out; have := HK4.out; have := HJ102.out; omega⟩, ⟨sqR HO_1110000⟩, ⟨sqR HO_1110001⟩, ⟨sqK BK1102⟩, ⟨sqK BK1109⟩, ⟨sqB HB⟩⟩
                    ·rw [if_neg c111] at H
                     exact absurd H (by simp)
                   ·rw [if_neg c110] at H
                    exact absurd H (by simp)
         ·rw [if_neg c92] at H
          exact absurd H (by simp)
      ·rw [if_neg c28] at H
       have c28b0 : decide (x11_2 < 3) = false := decide_eq_false c28; clear c28; obtain ⟨t1118, A1230, H⟩ := Option.bind_eq_some_iff.mp H; have A123 := Aside0.mk A1230; clear A1230; obtain rfl := Option.some.inj H
       go_wp2_with (first | ((with_reducible refine gate_callee (f := 17) rfl ?_); refine goesL_ (some 121) rfl rfl Tryd.func17 sqF rfl #[] rfl sqM ?_; (with_reducible refine (lw_known.calls t1118 _ ?sideG A123.out).mono ?_); (case sideG => exact (Kd.C_below HGL.out (sqB HB))); rintro e w124 ⟨rfl, hb⟩; refine ⟨_, rfl, ?_⟩; replace HO_1110000 := Aside0.mk (Kd.R_below (sqR HO_1110000) hb); replace HO_1110001 := Aside0.mk (Kd.R_below (sqR HO_1110001) hb); replace BK1102 := sqk BK1102 hb; replace BK1109 := sqk BK1109 hb; replace HB := sqb hb HB; (try clear hb); (try clear hb2); (try clear hk); (try clear hi)))
       go_ret
       exact ⟨by first | rfl | (simp [errW_none, errW_some] <;> rfl) | (simp [*, errW_none, errW_some] <;> rfl), sqB HB⟩
end Go.Proofs.YtemingmeidmjkaaDoor.Q
namespace Go.Proofs.YtemingmeidmjkaaDoor.Rw
open Go.RowKit Go.Proofs.YtemingmeidmjkaaDoorW.PrintWords
set_option linter.unusedVariables false
set_option linter.unusedSimpArgs false
theorem add_two (a : Addr) (x y : Nat) : (a.add x).add y = a.add (x + y) := by
 unfold Addr.add
 by_cases h1 : x = 0
 ·subst h1; simp
 ·by_cases h2 : y = 0
  ·subst h2; simp
  ·have h3 : ¬ x + y = 0 := by omega
   simp [h1, h2, Nat.add_assoc]
structure Opens {α : Type} (P : Program) (t : TypeId) (d : Kd α) (good : α → Prop) : Prop where
 size : d.sz = P.cellsOf t
 read : ∀ {H : Type} {enc : TypeId × Value → H} {w : World} {base : Nat} {sp : Nat → Bool} {held : Bool} {fuel : Nat} {cs : List Value} {x : DataW H × List MemPlace}, DataW.trod enc P w base sp held fuel t cs = some x → ∃ y : α, d.K w y cs ∧ good y
theorem Opens.int {P : Program} {t : TypeId} {k : IntKind} (ht : P.underlying t = some (.int k)) (hc : 1 = P.cellsOf t) : Opens P t (Kd.int k) (fun n => (Lit.int k n).wf = true) := ⟨hc, fun h => by
 obtain ⟨n, rfl, rfl, hw⟩ := DataW.trod_int ht h
 exact ⟨n, rfl, hw⟩⟩
theorem Opens.slice {α : Type} {P : Program} {t e : TypeId} {d : Kd α} {good : α → Prop} (ht : P.underlying t = some (.slice e)) (hc : 1 = P.cellsOf t) (h : Opens P e d good) : Opens P t (Kd.slice e d) (fun l => ∀ x ∈ l, good x) := ⟨hc, fun {H enc w base sp held fuel cs x} hx => by
 rcases DataW.trod_slice ht hx with ⟨rfl, _⟩ | ⟨a, len, cap, elems, rest, n, _, rfl, _, hb, hl, hm, hlen, hel, _, _⟩
 ·exact ⟨[], ⟨none, 0, rfl, Nat.le_refl _, Kd.C_nil _ _⟩, fun x hx => by cases hx⟩
 ·have key : ∀ m, m ≤ len → ∃ l : List α, l.length = m ∧ ∀ i z, l[i]? = some z → good z ∧ ∃ c, c.length = d.sz ∧ d.K w z c ∧ ∀ j u, c[j]? = some u → w.cell? (a.add (i * d.sz + j)) = some u := by
   intro m
   induction m with
   | zero => intro _; exact ⟨[], rfl, fun i z hz => by simp at hz⟩
   | succ m ih =>
    intro hle; obtain ⟨l, hll, hl2⟩ := ih (by omega); have h1 := hel m (by omega); rw [List.getElem?_eq_getElem (by omega), Option.bind_eq_some_iff] at h1; obtain ⟨c, hc1, hc2⟩ := h1; obtain ⟨z, hz, hg⟩ := h.read hc2; obtain ⟨_, hcl, hcc⟩ := World.cells?_some hc1; refine ⟨l ++ [z], by simp [hll], fun i z' hz' => ?_⟩
    rcases Nat.lt_or_ge i l.length with hlt | hge
    ·rw [List.getElem?_append_left hlt] at hz'
     exact hl2 i z' hz'
    ·rw [List.getElem?_append_right hge] at hz'
     have e : i = m := by
      rcases Nat.eq_zero_or_pos (i - l.length) with e | e
      ·omega
      ·rw [List.getElem?_eq_none (by simp; omega)] at hz'; cases hz'
     subst e; rw [show i - l.length = 0 by omega] at hz'; simp only [List.getElem?_cons_zero, Option.some.injEq] at hz'; subst hz'; refine ⟨hg, c, by rw [hcl, h.size], hz, fun j u hu => ?_⟩
     have hj : j < P.cellsOf e := by rw [← hcl]; exact (List.getElem?_eq_some_iff.1 hu).1
     have := hcc j hj; rw [hu] at this; rw [h.size, ← this, add_two]
  obtain ⟨l, hll, hl2⟩ := key len (Nat.le_refl _); refine ⟨l, ⟨some a, cap, by rw [hll], by omega, rfl, by unfold maxLen at hm; omega, fun _ => ⟨a, rfl, fun j p hj => ?_⟩⟩, fun x hx => ?_⟩
  ·obtain ⟨_, c, h1, h2, h3⟩ := hl2 j p hj
   exact ⟨c, h1, h2, h3⟩
  ·obtain ⟨i, hi⟩ := List.getElem?_of_mem hx
   exact (hl2 i x hi).1⟩
structure FOpens {α : Type} (P : Program) (fs : List Field) (off : Nat) (d : Kd α) (good : α → Prop) : Prop where
 read : ∀ {H : Type} {enc : TypeId × Value → H} {w : World} {base : Nat} {sp : Nat → Bool} {held : Bool} {fuel : Nat} {cs : List Value},
 (∀ (i : Nat) (f : Field), fs[i]? = some f → ∃ y, DataW.trod enc P w base sp held fuel f.type ((cs.drop f.offset).take (P.cellsOf f.type)) = some y) → cs.length = off + d.sz → ∃ y : α, d.K w y (cs.drop off) ∧ good y
theorem FOpens.one {α : Type} {P : Program} {f : Field} {off : Nat} {d : Kd α} {good : α → Prop} (h : Opens P f.type d good) (ho : f.offset = off) : FOpens P [f] off d good := ⟨fun {H enc w base sp held fuel cs} hf hl => by
 obtain ⟨y, hy⟩ := hf 0 f rfl; rw [ho, ← h.size, List.take_of_length_le (by rw [List.length_drop]; omega)] at hy
 exact h.read hy⟩
theorem FOpens.cons {α β : Type} {P : Program} {f : Field} {fs : List Field} {off : Nat} {d1 : Kd α} {d2 : Kd β} {g1 : α → Prop} {g2 : β → Prop} (h1 : Opens P f.type d1 g1) (ho : f.offset = off) (h2 : FOpens P fs (off + d1.sz) d2 g2) : FOpens P (f :: fs) off (Kd.pair d1 d2) (fun x => g1 x.1 ∧ g2 x.2) := ⟨fun {H enc w base sp held fuel cs} hf hl => by
 have hsz : (Kd.pair d1 d2).sz = d1.sz + d2.sz := rfl; obtain ⟨y1, hy1⟩ := hf 0 f rfl; rw [ho, ← h1.size] at hy1; obtain ⟨x1, hk1, hg1⟩ := h1.read hy1; obtain ⟨x2, hk2, hg2⟩ := h2.read (cs := cs) (fun i g hg => hf (i + 1) g (by simpa using hg)) (by omega); refine ⟨(x1, x2), ⟨_, _, ?_, hk1, hk2⟩, hg1, hg2⟩
 rw [← List.drop_drop, List.take_append_drop]⟩
theorem Opens.struct {α : Type} {P : Program} {t : TypeId} {fs : Array Field} {d : Kd α} {good : α → Prop} (ht : P.underlying t = some (.struct fs)) (hs : d.sz = P.cellsOf t) (h : FOpens P fs.toList 0 d good) : Opens P t d good := ⟨hs, fun {H enc w base sp held fuel cs x} hx => by
 obtain ⟨xs, n, _, _, hcl, hxl, hf⟩ := DataW.trod_struct ht hx
 have := h.read (enc := enc) (w := w) (base := base) (sp := sp) (held := held) (fuel := n) (cs := cs) (fun i f hi => by
  rw [Array.getElem?_toList] at hi; have hlt := (Array.getElem?_eq_some_iff.1 hi).1
  exact ⟨xs[i]'(by omega), by rw [hf i f hi, List.getElem?_eq_getElem]⟩) (by omega)
 simpa using this⟩
def fld (e : TypeId) (off : Nat) : Field := { name := "", type := e, offset := off, embedded := false, tag := "", pkgPath := "", byteOffset := 0 }
theorem Opens.array {α : Type} {P : Program} {t e : TypeId} {n : Nat} {d : Kd α} {good : α → Prop} (c : Nat) (ht : P.underlying t = some (.array n e)) (hs : d.sz = P.cellsOf t) (hc : c = P.cellsOf e) (h : FOpens P ((List.range n).map fun i => fld e (i * c)) 0 d good) : Opens P t d good := ⟨hs, fun {H enc w base sp held fuel cs x} hx => by
 subst hc; obtain ⟨xs, m, _, _, hcl, hxl, hf⟩ := DataW.trod_array ht hx
 have := h.read (enc := enc) (w := w) (base := base) (sp := sp) (held := held) (fuel := m) (cs := cs) (fun i f hi => by
  rw [List.getElem?_map, Option.map_eq_some_iff] at hi; obtain ⟨j, hj, rfl⟩ := hi; have hlt := (List.getElem?_eq_some_iff.1 hj).1; rw [List.length_range] at hlt; rw [List.getElem?_range hlt] at hj
  cases hj
  exact ⟨xs[i]'(by omega), (hf i hlt).trans (List.getElem?_eq_getElem (by omega))⟩) (by omega)
 simpa using this⟩
theorem Opens.iso {α β : Type} {P : Program} {t : TypeId} {d : Kd α} {good : α → Prop} (f : β → α) (g : α → β) (hfg : ∀ x, f (g x) = x) (h : Opens P t d good) : Opens P t (Kd.iso d f) (fun y => good (f y)) := ⟨h.size, fun hx => by
 obtain ⟨y, hk, hg⟩ := h.read hx
 exact ⟨g y, by show d.K _ (f (g y)) _; rw [hfg]; exact hk, by rw [hfg]; exact hg⟩⟩
end Go.Proofs.YtemingmeidmjkaaDoor.Rw
namespace Go.Proofs.YtemingmeidmjkaaDoor.Q
open Go.RowKit Go.Proofs.YtemingmeidmjkaaDoorW.PrintWords Go.Proofs.YtemingmeidmjkaaDoorW.PrintLast Go.Proofs.YtemingmeidmjkaaDoorW.PrintMore
attribute [local go_sem] max2_int min2_int max_two min_two max_three min_three max_four min_four   -- for this text's walks alone
set_option linter.unusedVariables false
set_option linter.unusedSimpArgs false
end Go.Proofs.YtemingmeidmjkaaDoor.Q
namespace Go.Proofs.YtemingmeidmjkaaDoor.Q
open Go.RowKit Go.Proofs.YtemingmeidmjkaaDoorW.PrintWords Go.Proofs.YtemingmeidmjkaaDoorW.PrintLast Go.Proofs.YtemingmeidmjkaaDoorW.PrintMore
attribute [local go_sem] max2_int min2_int max_two min_two max_three min_three max_four min_four   -- for this text's walks alone
set_option linter.unusedVariables false
set_option linter.unusedSimpArgs false
end Go.Proofs.YtemingmeidmjkaaDoor.Q
namespace Go.Proofs.YtemingmeidmjkaaDoor.Q
open Go.RowKit Go.Proofs.YtemingmeidmjkaaDoorW.PrintWords Go.Proofs.YtemingmeidmjkaaDoorW.PrintLast Go.Proofs.YtemingmeidmjkaaDoorW.PrintMore
attribute [local go_sem] max2_int min2_int max_two min_two max_three min_three max_four min_four   -- for this text's walks alone
set_option linter.unusedVariables false
set_option linter.unusedSimpArgs false
end Go.Proofs.YtemingmeidmjkaaDoor.Q
namespace Go.Proofs.YtemingmeidmjkaaDoor.Q
open Go.RowKit Go.Proofs.YtemingmeidmjkaaDoorW.PrintWords Go.Proofs.YtemingmeidmjkaaDoorW.PrintLast Go.Proofs.YtemingmeidmjkaaDoorW.PrintMore
attribute [local go_sem] max2_int min2_int max_two min_two max_three min_three max_four min_four   -- for this text's walks alone
set_option linter.unusedVariables false
set_option linter.unusedSimpArgs false
theorem eqA80 (d : Nat) (w : World) (x0 y0 : Int) (x1 y1 : Int) (x2 y2 : Int) :
  (Op.equalIn (d + 2) 80 (.agg #[.int .i64 x0, .int .i64 x1, .int .i64 x2]) (.agg #[.int .i64 y0, .int .i64 y1, .int .i64 y2])).run Tryd.prog w = .ok (x0 == y0 && (x1 == y1 && (x2 == y2))) w := by
 refine eqA_of Tryd.underlying80 sqF ?_; refine eqf_cons (by rfl) (by go_simp; rfl) (by go_simp; rfl) (by go_simp) ?_; refine eqf_cons (by rfl) (by go_simp; rfl) (by go_simp; rfl) (by go_simp) ?_; exact eqf_last (by rfl) (by go_simp; rfl) (by go_simp; rfl) (by go_simp)
end Go.Proofs.YtemingmeidmjkaaDoor.Q
namespace Go.Proofs.YtemingmeidmjkaaDoor.Q
open Go.RowKit Go.Proofs.YtemingmeidmjkaaDoorW.PrintWords Go.Proofs.YtemingmeidmjkaaDoorW.PrintLast Go.Proofs.YtemingmeidmjkaaDoorW.PrintMore
attribute [local go_sem] max2_int min2_int max_two min_two max_three min_three max_four min_four   -- for this text's walks alone
set_option linter.unusedVariables false
set_option linter.unusedSimpArgs false
attribute [local go_sem high] eqA80
end Go.Proofs.YtemingmeidmjkaaDoor.Q
namespace Go.Proofs.YtemingmeidmjkaaDoor.Q
open Go.RowKit Go.Proofs.YtemingmeidmjkaaDoorW.PrintWords Go.Proofs.YtemingmeidmjkaaDoorW.PrintLast Go.Proofs.YtemingmeidmjkaaDoorW.PrintMore
attribute [local go_sem] max2_int min2_int max_two min_two max_three min_three max_four min_four   -- for this text's walks alone
set_option linter.unusedVariables false
set_option linter.unusedSimpArgs false
end Go.Proofs.YtemingmeidmjkaaDoor.Q
namespace Go.Proofs.YtemingmeidmjkaaDoor.Q
open Go.RowKit Go.Proofs.YtemingmeidmjkaaDoorW.PrintWords
set_option linter.unusedVariables false
set_option linter.unusedSimpArgs false
theorem rdI (l : List Int) (i : Nat) (h : i < l.length) : rd l (i : Int) = l[i] := by simp [rd, h]
theorem rdA (l : List S41) (i : Nat) (h : i < l.length) : rd_T41 l (i : Int) = l[i] := by simp [rd_T41, h]
theorem inB_one (b c a : Int) : inB b c [a] = true ↔ b ≤ a ∧ a ≤ c := by rw [inB_iff]; simp
theorem known_f : lw_known.f = some true := rfl
theorem toSt_get (l : List S41) (i : Nat) (h : i < l.length) : (toSt l)[i]'(by rw [toSt_len]; exact h) = ⟨l[i].f0, l[i].f1⟩ := by simp [toSt]
end Go.Proofs.YtemingmeidmjkaaDoor.Q
namespace Go.Proofs.YtemingmeidmjkaaDoor.Q
open Go.RowKit Go.Proofs.YtemingmeidmjkaaDoorW.PrintWords Go.Proofs.YtemingmeidmjkaaDoorW.PrintLast Go.Proofs.YtemingmeidmjkaaDoorW.PrintMore
attribute [local go_sem] max2_int min2_int max_two min_two max_three min_three max_four min_four   -- for this text's walks alone
set_option linter.unusedVariables false
set_option linter.unusedSimpArgs false
end Go.Proofs.YtemingmeidmjkaaDoor.Q
