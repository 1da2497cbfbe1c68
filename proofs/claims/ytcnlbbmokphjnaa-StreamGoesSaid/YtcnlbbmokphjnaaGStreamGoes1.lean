/- Functions printed by the kit's printer over these walks, and the plain law. No condition. -/
import Derived.Test.YtcnlbbmokphjnaaGStreamGoes0
import Derived.Test.YtcnlbbmokphjnaaWWords
import Derived.WalkKit
import Derived.ProofKit
import Derived.OpenShut
import Derived.ShutString
import Derived.ChangeOld
import Derived.Below
import Derived.SizedLaws
import Derived.ChangeArms
import Derived.WideShapes
import Derived.Carry
import Derived.Test.YtcnlbbmokphjnaaM1
import Derived.Test.YtcnlbbmokphjnaaWGuard
import Derived.Test.YtcnlbbmokphjnaaWLast
import Derived.Test.YtcnlbbmokphjnaaWMore
import Derived.Test.YtcnlbbmokphjnaaWTab
set_option linter.unusedVariables false
set_option linter.unusedSimpArgs false
namespace Go.Proofs.Ytcnlbbmokphjnaa.Q
open Go.RowKit Go.Proofs.YtcnlbbmokphjnaaW.PrintWords Go.Proofs.YtcnlbbmokphjnaaW.PrintLast Go.Proofs.YtcnlbbmokphjnaaW.PrintMore
attribute [local go_sem] max2_int min2_int max_two min_two max_three min_three max_four min_four   -- for this text's walks alone
set_option linter.unusedVariables false
set_option linter.unusedSimpArgs false
def walkmillref02_Levels.l0 : Nat → List Int → List Int → List Int → List (S23) → Int → Option ((List (S23)))
  | 0, _, _, _, _, _ => none
  | k + 1, x2, x9, x10, x11, x12 => if x12 < (x2.length : Int) then (if 0 ≤ x12 then (if x12 < (x9.length : Int) then (if x12 < (x10.length : Int) then (if x11.length < 8796093022208 then (walkmillref02_Levels.l0 k x2 x9 x10 (x11 ++ [(⟨rd x9 x12, rd x10 x12⟩ : S23)]) (wrap64 (x12 + 1))) else (none)) else (none)) else (none)) else (none)) else (some x11)
def walkmillref02_Levels.f (k : Nat) (a0_0 : Int) (a0_1 : Int) (a0_2 : Int) (a0_3 : Int) (a0_4 : Int) (a0_5 : Int) (a0_6 : Int) (l1 : List (S23)) (l2 : List Int) : Option ((List (S23))) := (walkmillref02_Truth.f k a0_0 a0_1 a0_2 a0_3 a0_4 a0_5 a0_6 l1 false).bind fun bt171 => ((walkmillref02_Pond.f k a0_0 a0_1 a0_2 a0_3 a0_4 a0_5 a0_6 bt171.1 bt171.2 l2).bind fun t175 => ((walkmillref02_Truth.f k a0_0 a0_1 a0_2 a0_3 a0_4 a0_5 a0_6 l1 true).bind fun bt178 => ((walkmillref02_Pond.f k a0_0 a0_1 a0_2 a0_3 a0_4 a0_5 a0_6 bt178.1 bt178.2 l2).bind fun t182 => (walkmillref02_Levels.l0 k l2 t175 t182 (([] : List (S23))) 0))))
theorem walkmillref02_Levels.mono_l : ∀ k, (∀ y0 y1 y2 y3 y4, LeO (walkmillref02_Levels.l0 k y0 y1 y2 y3 y4) (walkmillref02_Levels.l0 (k + 1) y0 y1 y2 y3 y4))
  | 0 => fun _ _ _ _ _ r h => by simp [walkmillref02_Levels.l0] at h
  | k + 1 => by
    have ih0 := walkmillref02_Levels.mono_l k
    · intro y0 y1 y2 y3 y4
      unfold walkmillref02_Levels.l0
      repeat' first
      | (with_reducible exact ih0 _ _ _ _ _)
      | (with_reducible exact walkmillref02_Pond.mono _ _ _ _ _ _ _ _ _ _ _)
      | (with_reducible exact walkmillref02_Truth.mono _ _ _ _ _ _ _ _ _ _)
      | (with_reducible exact LeO.refl _)
      | (with_reducible exact LeO.none _)
      | (with_reducible refine LeO.ite ?_ ?_)
      | (with_reducible refine LeO.bind ?_ (fun _ => ?_))
      | exact ih0 _ _ _ _ _
      | exact walkmillref02_Pond.mono _ _ _ _ _ _ _ _ _ _ _
      | exact walkmillref02_Truth.mono _ _ _ _ _ _ _ _ _ _
      | exact LeO.none _
      | refine LeO.ite ?_ ?_
      | refine LeO.bind ?_ (fun _ => ?_)
theorem walkmillref02_Levels.mono : ∀ a0 a1 a2 a3 a4 a5 a6 a7 a8 k, LeO (walkmillref02_Levels.f k a0 a1 a2 a3 a4 a5 a6 a7 a8) (walkmillref02_Levels.f (k + 1) a0 a1 a2 a3 a4 a5 a6 a7 a8) := by
  intro a0 a1 a2 a3 a4 a5 a6 a7 a8 k
  have ih0 := walkmillref02_Levels.mono_l k
  unfold walkmillref02_Levels.f
  repeat' first
      | (with_reducible exact ih0 _ _ _ _ _)
      | (with_reducible exact walkmillref02_Pond.mono _ _ _ _ _ _ _ _ _ _ _)
      | (with_reducible exact walkmillref02_Truth.mono _ _ _ _ _ _ _ _ _ _)
      | (with_reducible exact LeO.refl _)
      | (with_reducible exact LeO.none _)
      | (with_reducible refine LeO.ite ?_ ?_)
      | (with_reducible refine LeO.bind ?_ (fun _ => ?_))
      | exact ih0 _ _ _ _ _
      | exact walkmillref02_Pond.mono _ _ _ _ _ _ _ _ _ _ _
      | exact walkmillref02_Truth.mono _ _ _ _ _ _ _ _ _ _
      | exact LeO.none _
      | refine LeO.ite ?_ ?_
      | refine LeO.bind ?_ (fun _ => ?_)
def walkmillref02_Levels.T8 : Bool × List (List Nat × List Nat) := (true, [([], []), ([], []), ([], []), ([1, 2], [1, 2]), ([3], [3]), ([], []), ([], []), ([5, 6], [5, 6]), ([7], [7]), ([4, 8], [4, 8]), ([9], [9]), ([0, 10], [0, 10]), ([11, 11, 0, 1, 2, 3, 4, 5, 6, 7, 8, 9, 10, 11], [0, 11])])
def walkmillref02_Levels.B8 : List Nat := [0, 0, 0, 6, 14, 0, 0, 96, 224, 510, 1022, 2047, 4095]
theorem walkmillref02_Levels.tab8 : rtab .any (opsOf Try.f26 8) = walkmillref02_Levels.T8 := by kernel_rfl
theorem walkmillref02_Levels.bits8 : waitsOk walkmillref02_Levels.T8.2 walkmillref02_Levels.B8 = true := by kernel_rfl
set_option maxHeartbeats 8000000 in
set_option maxRecDepth 100000 in
theorem walkmillref02_Levels.calls (k : Nat) (a0_0 : Int) (a0_1 : Int) (a0_2 : Int) (a0_3 : Int) (a0_4 : Int) (a0_5 : Int) (a0_6 : Int) (A1 : Option Addr) (c1 : Nat) (l1 : List (S23)) (A2 : Option Addr) (c2 : Nat) (l2 : List Int) (r : List (S23)) (w : World) (hr1 : Kd.C k23 w A1 l1.length l1) (hc1 : l1.length ≤ c1) (hr2 : Kd.C (Kd.int .i64) w A2 l2.length l2) (hc2 : l2.length ≤ c2) (h : walkmillref02_Levels.f k a0_0 a0_1 a0_2 a0_3 a0_4 a0_5 a0_6 l1 l2 = some r) :
    Calls Try.prog 26 #[.agg #[.int .i64 a0_0, .int .i64 a0_1, .int .i64 a0_2, .int .i64 a0_3, .int .i64 a0_4, .int .i64 a0_5, .int .i64 a0_6], .slice A1 l1.length c1, .slice A2 l2.length c2] w fun e w' => ∃ v0_ : Value, e = .returned (v0_) ∧ Kd.R k23 23 w' w.heap.size (fun _ => True) v0_ r ∧ Below w.heap.size w w' := by
  have hu25 := Try.underlying25
  have hu23 := Try.underlying23
  have HR1 := Aside0.mk hr1
  have HC1 := Aside0.mk hc1
  clear hr1 hc1
  have HR2 := Aside0.mk hr2
  have HC2 := Aside0.mk hc2
  clear hr2 hc2
  have HB := Aside0.mk (Below.refl w.heap.size w)
  have H : ((walkmillref02_Truth.f k a0_0 a0_1 a0_2 a0_3 a0_4 a0_5 a0_6 l1 false).bind fun bt171 => ((walkmillref02_Pond.f k a0_0 a0_1 a0_2 a0_3 a0_4 a0_5 a0_6 bt171.1 bt171.2 l2).bind fun t175 => ((walkmillref02_Truth.f k a0_0 a0_1 a0_2 a0_3 a0_4 a0_5 a0_6 l1 true).bind fun bt178 => ((walkmillref02_Pond.f k a0_0 a0_1 a0_2 a0_3 a0_4 a0_5 a0_6 bt178.1 bt178.2 l2).bind fun t182 => (walkmillref02_Levels.l0 k l2 t175 t182 (([] : List (S23))) 0))))) = some r := h
  clear h
  replace H := Option.bind_eq_some_iff.mp H
  obtain ⟨⟨t171, t172⟩, A40, H⟩ := H
  replace H : ((walkmillref02_Pond.f k a0_0 a0_1 a0_2 a0_3 a0_4 a0_5 a0_6 t171 t172 l2).bind fun t175 => ((walkmillref02_Truth.f k a0_0 a0_1 a0_2 a0_3 a0_4 a0_5 a0_6 l1 true).bind fun bt178 => ((walkmillref02_Pond.f k a0_0 a0_1 a0_2 a0_3 a0_4 a0_5 a0_6 bt178.1 bt178.2 l2).bind fun t182 => (walkmillref02_Levels.l0 k l2 t175 t182 (([] : List (S23))) 0)))) = some r := H
  have A4 := Aside0.mk A40
  clear A40
  replace H := Option.bind_eq_some_iff.mp H
  obtain ⟨t175, A50, H⟩ := H
  replace H : ((walkmillref02_Truth.f k a0_0 a0_1 a0_2 a0_3 a0_4 a0_5 a0_6 l1 true).bind fun bt178 => ((walkmillref02_Pond.f k a0_0 a0_1 a0_2 a0_3 a0_4 a0_5 a0_6 bt178.1 bt178.2 l2).bind fun t182 => (walkmillref02_Levels.l0 k l2 t175 t182 (([] : List (S23))) 0))) = some r := H
  have A5 := Aside0.mk A50
  clear A50
  replace H := Option.bind_eq_some_iff.mp H
  obtain ⟨⟨t178, t179⟩, A60, H⟩ := H
  replace H : ((walkmillref02_Pond.f k a0_0 a0_1 a0_2 a0_3 a0_4 a0_5 a0_6 t178 t179 l2).bind fun t182 => (walkmillref02_Levels.l0 k l2 t175 t182 (([] : List (S23))) 0)) = some r := H
  have A6 := Aside0.mk A60
  clear A60
  replace H := Option.bind_eq_some_iff.mp H
  obtain ⟨t182, A70, H⟩ := H
  replace H : (walkmillref02_Levels.l0 k l2 t175 t182 (([] : List (S23))) 0) = some r := H
  have A7 := Aside0.mk A70
  clear A70
  obtain ⟨y185, hy185⟩ : ∃ y_ : List (S23), y_ = (([] : List (S23))) := ⟨_, rfl⟩
  replace H : (walkmillref02_Levels.l0 k l2 t175 t182 y185 0) = some r := by first | (rw [hy185]; with_reducible exact H) | (have H2_ := (Option.bind_some _ _).symm.trans H; rw [hy185]; with_reducible exact H2_) | (have H2_ := (Option.bind_some _ _).symm.trans H; with_reducible exact H2_) | with_reducible exact H | (rw [hy185]; exact H) | exact H
  have Ny185 := Aside0.mk hy185
  clear hy185
  have H' := Aside0.mk H
  clear H
  go_enter Try.func26, Try.ntmps26
  go_wp2_with (first | ((with_reducible refine gate_dst (N := 3) rfl ?_); refine box_event ?hg (N := 3) ?hd (cs := #[.int .i64 a0_0, .int .i64 a0_1, .int .i64 a0_2, .int .i64 a0_3, .int .i64 a0_4, .int .i64 a0_5, .int .i64 a0_6]) (t := 25) ?hr ?_; (case hd => rfl); (case hg => rfl); (case hr => first | (go_simp; done) | (go_simp; rfl)); intro gb170 hg w8 hbox hb; have n0_ := Aside0.mk (below_step (by repeat (first | (with_reducible first | exact HB.out | apply below_alloc | apply pw_below_drewN | apply below_drew1) | exact HB.out)) hb); have n1_ := Aside0.mk (hbox); have n2_ := Aside0.mk ((by rw [hg]; exact (below_size (by repeat (first | (with_reducible first | exact HB.out | apply below_alloc | apply pw_below_drewN | apply below_drew1) | exact HB.out))) : w.heap.size ≤ gb170)); have n3_ := Aside0.mk ((by rw [hg]; exact (below_size (by repeat (first | (with_reducible first | exact HB.out | apply below_alloc | apply pw_below_drewN | apply below_drew1) | exact HB.out))) : w.heap.size ≤ gb170)); clear HB; have HB := n0_; have BK170 := n1_; have GW170 := n2_; have GE170 := n3_; clear n0_ n1_ n2_ n3_; clear hb hbox hg; have hcz9_0 : w8.cell? ⟨gb170, 0, none⟩ = some (.int .i64 a0_0) := (blk_cell BK170.out 0).trans rfl; have hcz9_1 : w8.cell? ⟨gb170, 1, none⟩ = some (.int .i64 a0_1) := (blk_cell BK170.out 1).trans rfl; have hcz9_2 : w8.cell? ⟨gb170, 2, none⟩ = some (.int .i64 a0_2) := (blk_cell BK170.out 2).trans rfl; have hcz9_3 : w8.cell? ⟨gb170, 3, none⟩ = some (.int .i64 a0_3) := (blk_cell BK170.out 3).trans rfl; have hcz9_4 : w8.cell? ⟨gb170, 4, none⟩ = some (.int .i64 a0_4) := (blk_cell BK170.out 4).trans rfl; have hcz9_5 : w8.cell? ⟨gb170, 5, none⟩ = some (.int .i64 a0_5) := (blk_cell BK170.out 5).trans rfl; have hcz9_6 : w8.cell? ⟨gb170, 6, none⟩ = some (.int .i64 a0_6) := (blk_cell BK170.out 6).trans rfl; have hfz9_0 := blk_frozen BK170.out 0; have hfz9_1 := blk_frozen BK170.out 1; have hfz9_2 := blk_frozen BK170.out 2; have hfz9_3 := blk_frozen BK170.out 3; have hfz9_4 := blk_frozen BK170.out 4; have hfz9_5 := blk_frozen BK170.out 5; have hfz9_6 := blk_frozen BK170.out 6) | ((with_reducible refine gate_callee (f := 68) rfl ?_); refine goesL_ (some 16) rfl rfl Try.func68 (by kernel_rfl) rfl #[.agg #[.int .i64 a0_0, .int .i64 a0_1, .int .i64 a0_2, .int .i64 a0_3, .int .i64 a0_4, .int .i64 a0_5, .int .i64 a0_6], .slice A1 l1.length c1, .bool false] rfl (by (try simp only [List.map_toArray, List.map_cons, List.map_nil]); first | done | rfl | (simp only [List.length_drop, List.length_take]; rfl)) ?_; (with_reducible refine (walkmillref02_Truth.calls k a0_0 a0_1 a0_2 a0_3 a0_4 a0_5 a0_6 _ _ l1 false t171 t172 _ ?side1 ?side2 A4.out).mono ?_); (case side1 => repeat (first | exact (Kd.C_below HR1.out HB.out) | (with_reducible refine Kd.C_alloc ?_ _) | (with_reducible refine Kd.C_drewN ?_ _) | (with_reducible refine Kd.C_drew ?_))); (case side2 => exact HC1.out); rintro e w10 ⟨v173, rfl, ho0, hb⟩; refine ⟨_, rfl, ?_⟩; have n0_ := Aside0.mk (Kd.R_lower ho0 (below_size (by repeat (first | (with_reducible first | exact HB.out | apply below_alloc | apply pw_below_drewN | apply below_drew1 | refine below_set ?_ GE170.out) | exact HB.out)))); have n1_ := Aside0.mk (blk_below (g := gb170) (o := .cells #[.int .i64 a0_0, .int .i64 a0_1, .int .i64 a0_2, .int .i64 a0_3, .int .i64 a0_4, .int .i64 a0_5, .int .i64 a0_6] 25 (0, 0)) (by (with_reducible repeat (first | refine blk_drewN ?_ _ | refine blk_drew ?_ | refine blk_alloc ?_ _)); exact BK170.out) hb); have n2_ := Aside0.mk (below_step (by repeat (first | (with_reducible first | exact HB.out | apply below_alloc | apply pw_below_drewN | apply below_drew1 | refine below_set ?_ GE170.out) | exact HB.out)) hb); clear BK170; clear HB; have HO174 := n0_; have BK170 := n1_; have HB := n2_; clear n0_ n1_ n2_; (try clear hb); (try clear hb2); (try clear hk); (try clear hi); (try clear ho0); have hcz11_0 : w10.cell? ⟨gb170, 0, none⟩ = some (.int .i64 a0_0) := (blk_cell BK170.out 0).trans rfl; have hcz11_1 : w10.cell? ⟨gb170, 1, none⟩ = some (.int .i64 a0_1) := (blk_cell BK170.out 1).trans rfl; have hcz11_2 : w10.cell? ⟨gb170, 2, none⟩ = some (.int .i64 a0_2) := (blk_cell BK170.out 2).trans rfl; have hcz11_3 : w10.cell? ⟨gb170, 3, none⟩ = some (.int .i64 a0_3) := (blk_cell BK170.out 3).trans rfl; have hcz11_4 : w10.cell? ⟨gb170, 4, none⟩ = some (.int .i64 a0_4) := (blk_cell BK170.out 4).trans rfl; have hcz11_5 : w10.cell? ⟨gb170, 5, none⟩ = some (.int .i64 a0_5) := (blk_cell BK170.out 5).trans rfl; have hcz11_6 : w10.cell? ⟨gb170, 6, none⟩ = some (.int .i64 a0_6) := (blk_cell BK170.out 6).trans rfl; have hfz11_0 := blk_frozen BK170.out 0; have hfz11_1 := blk_frozen BK170.out 1; have hfz11_2 := blk_frozen BK170.out 2; have hfz11_3 := blk_frozen BK170.out 3; have hfz11_4 := blk_frozen BK170.out 4; have hfz11_5 := blk_frozen BK170.out 5; have hfz11_6 := blk_frozen BK170.out 6; obtain ⟨Ao12, co12, eo12⟩ := Kd.R_slice HO174.out; subst eo12) | ((with_reducible refine gate_callee (f := 70) rfl ?_); refine goesL_ (some 23) rfl rfl Try.func70 (by kernel_rfl) rfl #[.agg #[.int .i64 a0_0, .int .i64 a0_1, .int .i64 a0_2, .int .i64 a0_3, .int .i64 a0_4, .int .i64 a0_5, .int .i64 a0_6], .int .i64 t171, .slice Ao12 t172.length co12, .slice A2 l2.length c2] rfl (by (try simp only [List.map_toArray, List.map_cons, List.map_nil]); first | done | rfl | (simp only [List.length_drop, List.length_take]; rfl)) ?_; (with_reducible refine (walkmillref02_Pond.calls k a0_0 a0_1 a0_2 a0_3 a0_4 a0_5 a0_6 t171 _ _ t172 _ _ l2 t175 _ ?side1 ?side2 ?side3 ?side4 A5.out).mono ?_); (case side1 => repeat (first | exact (Kd.R_reads' HO174.out).2.2 | (with_reducible refine Kd.C_alloc ?_ _) | (with_reducible refine Kd.C_drewN ?_ _) | (with_reducible refine Kd.C_drew ?_))); (case side2 => exact (Kd.R_reads' HO174.out).2.1); (case side3 => repeat (first | exact (Kd.C_below HR2.out HB.out) | (with_reducible refine Kd.C_alloc ?_ _) | (with_reducible refine Kd.C_drewN ?_ _) | (with_reducible refine Kd.C_drew ?_))); (case side4 => exact HC2.out); rintro e w13 ⟨v176, rfl, ho0, hb⟩; refine ⟨_, rfl, ?_⟩; have n0_ := Aside0.mk (Kd.R_elder' (by (with_reducible repeat (first | apply Kd.R_alloc | apply Kd.R_drewN | apply Kd.R_drew)); exact HO174.out) (Kd.R_base ho0) hb); have n1_ := Aside0.mk (Kd.R_lower (Kd.R_new' ho0 (Kd.R_lt (by (with_reducible repeat (first | apply Kd.R_alloc | apply Kd.R_drewN | apply Kd.R_drew)); exact HO174.out))) (below_size (by repeat (first | (with_reducible first | exact HB.out | apply below_alloc | apply pw_below_drewN | apply below_drew1 | refine below_set ?_ GE170.out) | exact HB.out)))); have n2_ := Aside0.mk (blk_below (g := gb170) (o := .cells #[.int .i64 a0_0, .int .i64 a0_1, .int .i64 a0_2, .int .i64 a0_3, .int .i64 a0_4, .int .i64 a0_5, .int .i64 a0_6] 25 (0, 0)) (by (with_reducible repeat (first | refine blk_drewN ?_ _ | refine blk_drew ?_ | refine blk_alloc ?_ _)); exact BK170.out) hb); have n3_ := Aside0.mk (below_step (by repeat (first | (with_reducible first | exact HB.out | apply below_alloc | apply pw_below_drewN | apply below_drew1 | refine below_set ?_ GE170.out) | exact HB.out)) hb); clear HO174; clear BK170; clear HB; have HO174 := n0_; have HO177 := n1_; have BK170 := n2_; have HB := n3_; clear n0_ n1_ n2_ n3_; (try clear hb); (try clear hb2); (try clear hk); (try clear hi); (try clear ho0); have hcz14_0 : w13.cell? ⟨gb170, 0, none⟩ = some (.int .i64 a0_0) := (blk_cell BK170.out 0).trans rfl; have hcz14_1 : w13.cell? ⟨gb170, 1, none⟩ = some (.int .i64 a0_1) := (blk_cell BK170.out 1).trans rfl; have hcz14_2 : w13.cell? ⟨gb170, 2, none⟩ = some (.int .i64 a0_2) := (blk_cell BK170.out 2).trans rfl; have hcz14_3 : w13.cell? ⟨gb170, 3, none⟩ = some (.int .i64 a0_3) := (blk_cell BK170.out 3).trans rfl; have hcz14_4 : w13.cell? ⟨gb170, 4, none⟩ = some (.int .i64 a0_4) := (blk_cell BK170.out 4).trans rfl; have hcz14_5 : w13.cell? ⟨gb170, 5, none⟩ = some (.int .i64 a0_5) := (blk_cell BK170.out 5).trans rfl; have hcz14_6 : w13.cell? ⟨gb170, 6, none⟩ = some (.int .i64 a0_6) := (blk_cell BK170.out 6).trans rfl; have hfz14_0 := blk_frozen BK170.out 0; have hfz14_1 := blk_frozen BK170.out 1; have hfz14_2 := blk_frozen BK170.out 2; have hfz14_3 := blk_frozen BK170.out 3; have hfz14_4 := blk_frozen BK170.out 4; have hfz14_5 := blk_frozen BK170.out 5; have hfz14_6 := blk_frozen BK170.out 6) | ((with_reducible refine gate_callee (f := 68) rfl ?_); refine goesL_ (some 27) rfl rfl Try.func68 (by kernel_rfl) rfl #[.agg #[.int .i64 a0_0, .int .i64 a0_1, .int .i64 a0_2, .int .i64 a0_3, .int .i64 a0_4, .int .i64 a0_5, .int .i64 a0_6], .slice A1 l1.length c1, .bool true] rfl (by (try simp only [List.map_toArray, List.map_cons, List.map_nil]); first | done | rfl | (simp only [List.length_drop, List.length_take]; rfl)) ?_; (with_reducible refine (walkmillref02_Truth.calls k a0_0 a0_1 a0_2 a0_3 a0_4 a0_5 a0_6 _ _ l1 true t178 t179 _ ?side1 ?side2 A6.out).mono ?_); (case side1 => repeat (first | exact (Kd.C_below HR1.out HB.out) | (with_reducible refine Kd.C_alloc ?_ _) | (with_reducible refine Kd.C_drewN ?_ _) | (with_reducible refine Kd.C_drew ?_))); (case side2 => exact HC1.out); rintro e w15 ⟨v180, rfl, ho0, hb⟩; refine ⟨_, rfl, ?_⟩; have n0_ := Aside0.mk (Kd.R_elder' (by (with_reducible repeat (first | apply Kd.R_alloc | apply Kd.R_drewN | apply Kd.R_drew)); exact HO174.out) (Kd.R_base ho0) hb); have n1_ := Aside0.mk (Kd.R_elder' (by (with_reducible repeat (first | apply Kd.R_alloc | apply Kd.R_drewN | apply Kd.R_drew)); exact HO177.out) (Kd.R_base ho0) hb); have n2_ := Aside0.mk (Kd.R_lower (Kd.R_new' (Kd.R_new' ho0 (Kd.R_lt (by (with_reducible repeat (first | apply Kd.R_alloc | apply Kd.R_drewN | apply Kd.R_drew)); exact HO174.out))) (Kd.R_lt (by (with_reducible repeat (first | apply Kd.R_alloc | apply Kd.R_drewN | apply Kd.R_drew)); exact HO177.out))) (below_size (by repeat (first | (with_reducible first | exact HB.out | apply below_alloc | apply pw_below_drewN | apply below_drew1 | refine below_set ?_ GE170.out) | exact HB.out)))); have n3_ := Aside0.mk (blk_below (g := gb170) (o := .cells #[.int .i64 a0_0, .int .i64 a0_1, .int .i64 a0_2, .int .i64 a0_3, .int .i64 a0_4, .int .i64 a0_5, .int .i64 a0_6] 25 (0, 0)) (by (with_reducible repeat (first | refine blk_drewN ?_ _ | refine blk_drew ?_ | refine blk_alloc ?_ _)); exact BK170.out) hb); have n4_ := Aside0.mk (below_step (by repeat (first | (with_reducible first | exact HB.out | apply below_alloc | apply pw_below_drewN | apply below_drew1 | refine below_set ?_ GE170.out) | exact HB.out)) hb); clear HO174; clear HO177; clear BK170; clear HB; have HO174 := n0_; have HO177 := n1_; have HO181 := n2_; have BK170 := n3_; have HB := n4_; clear n0_ n1_ n2_ n3_ n4_; (try clear hb); (try clear hb2); (try clear hk); (try clear hi); (try clear ho0); have hcz16_0 : w15.cell? ⟨gb170, 0, none⟩ = some (.int .i64 a0_0) := (blk_cell BK170.out 0).trans rfl; have hcz16_1 : w15.cell? ⟨gb170, 1, none⟩ = some (.int .i64 a0_1) := (blk_cell BK170.out 1).trans rfl; have hcz16_2 : w15.cell? ⟨gb170, 2, none⟩ = some (.int .i64 a0_2) := (blk_cell BK170.out 2).trans rfl; have hcz16_3 : w15.cell? ⟨gb170, 3, none⟩ = some (.int .i64 a0_3) := (blk_cell BK170.out 3).trans rfl; have hcz16_4 : w15.cell? ⟨gb170, 4, none⟩ = some (.int .i64 a0_4) := (blk_cell BK170.out 4).trans rfl; have hcz16_5 : w15.cell? ⟨gb170, 5, none⟩ = some (.int .i64 a0_5) := (blk_cell BK170.out 5).trans rfl; have hcz16_6 : w15.cell? ⟨gb170, 6, none⟩ = some (.int .i64 a0_6) := (blk_cell BK170.out 6).trans rfl; have hfz16_0 := blk_frozen BK170.out 0; have hfz16_1 := blk_frozen BK170.out 1; have hfz16_2 := blk_frozen BK170.out 2; have hfz16_3 := blk_frozen BK170.out 3; have hfz16_4 := blk_frozen BK170.out 4; have hfz16_5 := blk_frozen BK170.out 5; have hfz16_6 := blk_frozen BK170.out 6; obtain ⟨Ao17, co17, eo17⟩ := Kd.R_slice HO181.out; subst eo17) | ((with_reducible refine gate_callee (f := 70) rfl ?_); refine goesL_ (some 34) rfl rfl Try.func70 (by kernel_rfl) rfl #[.agg #[.int .i64 a0_0, .int .i64 a0_1, .int .i64 a0_2, .int .i64 a0_3, .int .i64 a0_4, .int .i64 a0_5, .int .i64 a0_6], .int .i64 t178, .slice Ao17 t179.length co17, .slice A2 l2.length c2] rfl (by (try simp only [List.map_toArray, List.map_cons, List.map_nil]); first | done | rfl | (simp only [List.length_drop, List.length_take]; rfl)) ?_; (with_reducible refine (walkmillref02_Pond.calls k a0_0 a0_1 a0_2 a0_3 a0_4 a0_5 a0_6 t178 _ _ t179 _ _ l2 t182 _ ?side1 ?side2 ?side3 ?side4 A7.out).mono ?_); (case side1 => repeat (first | exact (Kd.R_reads' HO181.out).2.2 | (with_reducible refine Kd.C_alloc ?_ _) | (with_reducible refine Kd.C_drewN ?_ _) | (with_reducible refine Kd.C_drew ?_))); (case side2 => exact (Kd.R_reads' HO181.out).2.1); (case side3 => repeat (first | exact (Kd.C_below HR2.out HB.out) | (with_reducible refine Kd.C_alloc ?_ _) | (with_reducible refine Kd.C_drewN ?_ _) | (with_reducible refine Kd.C_drew ?_))); (case side4 => exact HC2.out); rintro e w18 ⟨v183, rfl, ho0, hb⟩; refine ⟨_, rfl, ?_⟩; have n0_ := Aside0.mk (Kd.R_elder' (by (with_reducible repeat (first | apply Kd.R_alloc | apply Kd.R_drewN | apply Kd.R_drew)); exact HO174.out) (Kd.R_base ho0) hb); have n1_ := Aside0.mk (Kd.R_elder' (by (with_reducible repeat (first | apply Kd.R_alloc | apply Kd.R_drewN | apply Kd.R_drew)); exact HO177.out) (Kd.R_base ho0) hb); have n2_ := Aside0.mk (Kd.R_elder' (by (with_reducible repeat (first | apply Kd.R_alloc | apply Kd.R_drewN | apply Kd.R_drew)); exact HO181.out) (Kd.R_base ho0) hb); have n3_ := Aside0.mk (Kd.R_lower (Kd.R_new' (Kd.R_new' (Kd.R_new' ho0 (Kd.R_lt (by (with_reducible repeat (first | apply Kd.R_alloc | apply Kd.R_drewN | apply Kd.R_drew)); exact HO174.out))) (Kd.R_lt (by (with_reducible repeat (first | apply Kd.R_alloc | apply Kd.R_drewN | apply Kd.R_drew)); exact HO177.out))) (Kd.R_lt (by (with_reducible repeat (first | apply Kd.R_alloc | apply Kd.R_drewN | apply Kd.R_drew)); exact HO181.out))) (below_size (by repeat (first | (with_reducible first | exact HB.out | apply below_alloc | apply pw_below_drewN | apply below_drew1 | refine below_set ?_ GE170.out) | exact HB.out)))); have n4_ := Aside0.mk (blk_below (g := gb170) (o := .cells #[.int .i64 a0_0, .int .i64 a0_1, .int .i64 a0_2, .int .i64 a0_3, .int .i64 a0_4, .int .i64 a0_5, .int .i64 a0_6] 25 (0, 0)) (by (with_reducible repeat (first | refine blk_drewN ?_ _ | refine blk_drew ?_ | refine blk_alloc ?_ _)); exact BK170.out) hb); have n5_ := Aside0.mk (below_step (by repeat (first | (with_reducible first | exact HB.out | apply below_alloc | apply pw_below_drewN | apply below_drew1 | refine below_set ?_ GE170.out) | exact HB.out)) hb); clear HO174; clear HO177; clear HO181; clear BK170; clear HB; have HO174 := n0_; have HO177 := n1_; have HO181 := n2_; have HO184 := n3_; have BK170 := n4_; have HB := n5_; clear n0_ n1_ n2_ n3_ n4_ n5_; (try clear hb); (try clear hb2); (try clear hk); (try clear hi); (try clear ho0)) | ((with_reducible refine gate_dst (N := 35) rfl ?_); refine Kd.R_lit k23 _ 23 ?hg (N := 35) ?hd (xs := ([] : List (S23))) (inner := []) (ok := fun _ => True) (okp := fun _ => True) ?hr ?hp (fun _ hk => hk) trivial (Below.refl _ _) (Nat.le_refl _) (by simp) ?_; (case hd => rfl); (case hg => rfl); (case hr => first | (go_simp; done) | (go_simp; rfl)); (case hp => exact (Reps.none _ _)); intro v186 w19 ho20 hb hg_ hnew_; clear hg_ hnew_; (first | rw [← Ny185.out] at ho20 | (simp only [Int.reduceToNat] at ho20; rw [← Ny185.out] at ho20)); have n0_ := Aside0.mk (Kd.R_below (by (with_reducible repeat (first | apply Kd.R_alloc | apply Kd.R_drewN | apply Kd.R_drew)); exact HO174.out) hb); have n1_ := Aside0.mk (Kd.R_below (by (with_reducible repeat (first | apply Kd.R_alloc | apply Kd.R_drewN | apply Kd.R_drew)); exact HO177.out) hb); have n2_ := Aside0.mk (Kd.R_below (by (with_reducible repeat (first | apply Kd.R_alloc | apply Kd.R_drewN | apply Kd.R_drew)); exact HO181.out) hb); have n3_ := Aside0.mk (Kd.R_below (by (with_reducible repeat (first | apply Kd.R_alloc | apply Kd.R_drewN | apply Kd.R_drew)); exact HO184.out) hb); have n4_ := Aside0.mk (Kd.R_lower ho20 (below_size (by repeat (first | (with_reducible first | exact HB.out | apply below_alloc | apply pw_below_drewN | apply below_drew1 | refine below_set ?_ GE170.out) | exact HB.out)))); have n5_ := Aside0.mk (blk_below (g := gb170) (o := .cells #[.int .i64 a0_0, .int .i64 a0_1, .int .i64 a0_2, .int .i64 a0_3, .int .i64 a0_4, .int .i64 a0_5, .int .i64 a0_6] 25 (0, 0)) (by (with_reducible repeat (first | refine blk_drewN ?_ _ | refine blk_drew ?_ | refine blk_alloc ?_ _)); exact BK170.out) hb); have n6_ := Aside0.mk (below_step (by repeat (first | (with_reducible first | exact HB.out | apply below_alloc | apply pw_below_drewN | apply below_drew1 | refine below_set ?_ GE170.out) | exact HB.out)) hb); clear HO174; clear HO177; clear HO181; clear HO184; clear BK170; clear HB; have HO174 := n0_; have HO177 := n1_; have HO181 := n2_; have HO184 := n3_; have HO187 := n4_; have BK170 := n5_; have HB := n6_; clear n0_ n1_ n2_ n3_ n4_ n5_ n6_; clear hb ho20))
  go_loopg [11, 12] k (fun kq v11 v12 w' => ∃ (x11_1 : List (S23)) (x12_1 : Int), v12 = .int .i64 x12_1 ∧ Aside0 (walkmillref02_Levels.l0 kq l2 t175 t182 x11_1 x12_1 = some r) ∧ Aside0 (kq ≤ k) ∧ Aside0 (Kd.R (Kd.int .i64) 3 w' w.heap.size (fun k_ => some k_ ≠ (v183 : Value).ownBlock) v176 t175) ∧ Aside0 (Kd.R (Kd.int .i64) 3 w' w.heap.size (fun k_ => some k_ ≠ (v176 : Value).ownBlock) v183 t182) ∧ Aside0 (Kd.R k23 23 w' w.heap.size (fun _ => True) v11 x11_1) ∧ Aside0 (w'.heap[gb170]? = some (.cells #[.int .i64 a0_0, .int .i64 a0_1, .int .i64 a0_2, .int .i64 a0_3, .int .i64 a0_4, .int .i64 a0_5, .int .i64 a0_6] 25 (0, 0))) ∧ Aside0 (Below w.heap.size w w'))
  case atStart => exact ⟨(y185), (0), (by first | rfl | (simp; done) | (simp [*]; done)), H', ⟨Nat.le_refl _⟩, ⟨by (with_reducible repeat (first | apply Kd.R_alloc | apply Kd.R_drewN | apply Kd.R_drew)); exact Kd.R_mono HO177.out (fun _ hk => hk.2)⟩, ⟨by (with_reducible repeat (first | apply Kd.R_alloc | apply Kd.R_drewN | apply Kd.R_drew)); exact Kd.R_mono HO184.out (fun _ hk => hk.1.2)⟩, ⟨by (with_reducible repeat (first | apply Kd.R_alloc | apply Kd.R_drewN | apply Kd.R_drew)); exact HO187.out⟩, ⟨by (with_reducible repeat (first | refine blk_drewN ?_ _ | refine blk_drew ?_ | refine blk_alloc ?_ _)); exact BK170.out⟩, ⟨by repeat (first | (with_reducible first | exact HB.out | apply below_alloc | apply pw_below_drewN | apply below_drew1 | refine below_set ?_ GE170.out) | exact HB.out)⟩⟩
  case round =>
    clear H'
    try clear c1
    try clear c2
    try clear p2
    try clear c6
    try clear c7
    try clear hcz11_0
    try clear hcz11_1
    try clear hcz11_2
    try clear hcz11_3
    try clear hcz11_4
    try clear hcz11_5
    try clear hcz11_6
    try clear hcz14_0
    try clear hcz14_1
    try clear hcz14_2
    try clear hcz14_3
    try clear hcz14_4
    try clear hcz14_5
    try clear hcz14_6
    try clear hcz16_0
    try clear hcz16_1
    try clear hcz16_2
    try clear hcz16_3
    try clear hcz16_4
    try clear hcz16_5
    try clear hcz16_6
    try clear hcz9_0
    try clear hcz9_1
    try clear hcz9_2
    try clear hcz9_3
    try clear hcz9_4
    try clear hcz9_5
    try clear hcz9_6
    try clear hfz11_0
    try clear hfz11_1
    try clear hfz11_2
    try clear hfz11_3
    try clear hfz11_4
    try clear hfz11_5
    try clear hfz11_6
    try clear hfz14_0
    try clear hfz14_1
    try clear hfz14_2
    try clear hfz14_3
    try clear hfz14_4
    try clear hfz14_5
    try clear hfz14_6
    try clear hfz16_0
    try clear hfz16_1
    try clear hfz16_2
    try clear hfz16_3
    try clear hfz16_4
    try clear hfz16_5
    try clear hfz16_6
    try clear hfz9_0
    try clear hfz9_1
    try clear hfz9_2
    try clear hfz9_3
    try clear hfz9_4
    try clear hfz9_5
    try clear hfz9_6
    obtain ⟨x11_1, x12_1, rfl, HA, HK1, HO_9, HO_10, HO_11, BK170, HB⟩ := hrel
    cases gk with
    | zero => exact absurd HA.out (by simp [walkmillref02_Levels.l0])
    | succ k1 =>
      have H := HA.out
      clear HA
      simp only [walkmillref02_Levels.l0] at H
      by_cases c21 : x12_1 < (l2.length : Int)
      · rw [if_pos c21] at H
        have c21b0 : decide (x12_1 < (l2.length : Int)) = true := decide_eq_true c21
        clear c21
        by_cases c22 : 0 ≤ x12_1
        · rw [if_pos c22] at H
          have c22b0 : decide (0 ≤ x12_1) = true := decide_eq_true c22
          clear c22
          by_cases c23 : x12_1 < (t175.length : Int)
          · rw [if_pos c23] at H
            have c23b0 : decide (x12_1 < (t175.length : Int)) = true := decide_eq_true c23
            clear c23
            by_cases c24 : x12_1 < (t182.length : Int)
            · rw [if_pos c24] at H
              have c24b0 : decide (x12_1 < (t182.length : Int)) = true := decide_eq_true c24
              clear c24
              by_cases c25 : x11_1.length < 8796093022208
              · rw [if_pos c25] at H
                have LMc25 := Aside0.mk c25
                clear c25
                obtain ⟨y190, hy190⟩ : ∃ y_ : List (S23), y_ = (x11_1 ++ [(⟨rd t175 x12_1, rd t182 x12_1⟩ : S23)]) := ⟨_, rfl⟩
                replace H : (walkmillref02_Levels.l0 k1 l2 t175 t182 y190 (wrap64 (x12_1 + 1))) = some r := by first | (rw [hy190]; with_reducible exact H) | (have H2_ := (Option.bind_some _ _).symm.trans H; rw [hy190]; with_reducible exact H2_) | (have H2_ := (Option.bind_some _ _).symm.trans H; with_reducible exact H2_) | with_reducible exact H | (rw [hy190]; exact H) | exact H
                have Ny190 := Aside0.mk hy190
                clear hy190
                have H' := Aside0.mk H
                clear H
                try go_wp2
                have n0_ := Aside0.mk (Kd.R_drew HO_9.out)
                have n1_ := Aside0.mk (Kd.R_drew HO_10.out)
                have n2_ := Aside0.mk (Kd.R_drew HO_11.out)
                have n3_ := Aside0.mk (blk_drew BK170.out)
                have n4_ := Aside0.mk (below_drew1 HB.out)
                clear HO_9
                clear HO_10
                clear HO_11
                clear BK170
                clear HB
                have HO_9 := n0_
                have HO_10 := n1_
                have HO_11 := n2_
                have BK170 := n3_
                have HB := n4_
                clear n0_ n1_ n2_ n3_ n4_
                obtain ⟨Ao27, co27, eo27⟩ := Kd.R_slice HO_9.out
                (first | subst eo27 | (injection eo27 with f1_ f2_ f3_; have f4_ := f1_.symm; have f5_ := f3_.symm; clear f1_ f2_ f3_; subst f4_; subst f5_))
                have p188 : 0 ≤ (x12_1 : Int) := of_decide_eq_true (by first | (with_reducible assumption) | assumption)
                have q188 : x12_1 < (t175.length : Int) := of_decide_eq_true (by first | (with_reducible assumption) | assumption)
                obtain ⟨ad188, e188, hx188_0⟩ := Kd.at_int (Kd.R_reads' HO_9.out).2.2 x12_1 p188 q188
                cases e188
                replace p188 := eq_true p188
                replace q188 := eq_true q188
                obtain ⟨Ao28, co28, eo28⟩ := Kd.R_slice HO_10.out
                (first | subst eo28 | (injection eo28 with f1_ f2_ f3_; have f4_ := f1_.symm; have f5_ := f3_.symm; clear f1_ f2_ f3_; subst f4_; subst f5_))
                have p189 : 0 ≤ (x12_1 : Int) := of_decide_eq_true (by first | (with_reducible assumption) | assumption)
                have q189 : x12_1 < (t182.length : Int) := of_decide_eq_true (by first | (with_reducible assumption) | assumption)
                obtain ⟨ad189, e189, hx189_0⟩ := Kd.at_int (Kd.R_reads' HO_10.out).2.2 x12_1 p189 q189
                cases e189
                replace p189 := eq_true p189
                replace q189 := eq_true q189
                refine start_ (n := 13) (S := fun w' => w'.cell? (ad188.add (x12_1).toNat) = some (.int .i64 (rd t175 x12_1)) ∧ w'.cell? (ad189.add (x12_1).toNat) = some (.int .i64 (rd t182 x12_1))) (ds := [10, 11]) #[false, false, false, false, false, false, false, false, false, false, false, false, false] (by kernel_rfl) rfl rfl ⟨hx188_0, hx189_0⟩ (fun hHeld => ?_); refine with_tabW walkmillref02_Levels.tab8 walkmillref02_Levels.bits8 (fun HT_ HW_ => ?_)
                generalize wr.drew = w26 at HO_9 HO_10 HO_11 BK170 HB hx188_0 hx189_0 hHeld ⊢
                refine pure_ (i := 0) (N := some 42) (v := ?_) (a' := ?_) #[true, false, false, false, false, false, false, false, false, false, false, false, false] rfl rfl (any_of HT_.out (by kernel_rfl)) (fun _ _ _ h => h) (Or.inl ⟨by rfl, ?_⟩) ?_ ?_
                rotate_left
                · intro w'
                  go_simp
                  with_reducible rfl
                rotate_left
                · simp only [Act.put, List.setIfInBounds_toArray, List.set_cons_zero, List.set_cons_succ, i64_w, i32_w]
                  rfl
                refine pure_ (i := 1) (N := some 43) (v := ?_) (a' := ?_) #[true, true, false, false, false, false, false, false, false, false, false, false, false] rfl rfl (any_of HT_.out (by kernel_rfl)) (fun _ _ _ h => h) (Or.inl ⟨by rfl, ?_⟩) ?_ ?_
                rotate_left
                · intro w'
                  go_simp
                  with_reducible rfl
                rotate_left
                · simp only [Act.put, List.setIfInBounds_toArray, List.set_cons_zero, List.set_cons_succ, i64_w, i32_w]
                  rfl
                refine pure_ (i := 2) (N := some 44) (v := ?_) (a' := ?_) #[true, true, true, false, false, false, false, false, false, false, false, false, false] rfl rfl (any_of HT_.out (by kernel_rfl)) (fun _ _ _ h => h) (Or.inl ⟨by rfl, ?_⟩) ?_ ?_
                rotate_left
                · intro w'
                  go_simp
                  with_reducible rfl
                rotate_left
                · simp only [Act.put, List.setIfInBounds_toArray, List.set_cons_zero, List.set_cons_succ, i64_w, i32_w]
                  rfl
                refine pure_ (i := 3) (N := some 45) (v := ?_) (a' := ?_) #[true, true, true, true, false, false, false, false, false, false, false, false, false] rfl rfl (any_of HT_.out (by kernel_rfl)) (fun _ _ _ h => h) (Or.inl ⟨by rfl, ?_⟩) ?_ ?_
                rotate_left
                · intro w'
                  go_simp
                  with_reducible rfl
                rotate_left
                · simp only [Act.put, List.setIfInBounds_toArray, List.set_cons_zero, List.set_cons_succ, i64_w, i32_w]
                  rfl
                refine pure_ (i := 5) (N := some 47) (v := ?_) (a' := ?_) #[true, true, true, true, false, true, false, false, false, false, false, false, false] rfl rfl (any_of HT_.out (by kernel_rfl)) (fun _ _ _ h => h) (Or.inl ⟨by rfl, ?_⟩) ?_ ?_
                rotate_left
                · intro w'
                  go_simp
                  with_reducible rfl
                rotate_left
                · simp only [Act.put, List.setIfInBounds_toArray, List.set_cons_zero, List.set_cons_succ, i64_w, i32_w]
                  rfl
                refine pure_ (i := 6) (N := some 48) (v := ?_) (a' := ?_) #[true, true, true, true, false, true, true, false, false, false, false, false, false] rfl rfl (any_of HT_.out (by kernel_rfl)) (fun _ _ _ h => h) (Or.inl ⟨by rfl, ?_⟩) ?_ ?_
                rotate_left
                · intro w'
                  go_simp
                  with_reducible rfl
                rotate_left
                · simp only [Act.put, List.setIfInBounds_toArray, List.set_cons_zero, List.set_cons_succ, i64_w, i32_w]
                  rfl
                refine pure_ (i := 7) (N := some 49) (v := ?_) (a' := ?_) #[true, true, true, true, false, true, true, true, false, false, false, false, false] rfl rfl (any_of HT_.out (by kernel_rfl)) (fun _ _ _ h => h) (Or.inl ⟨by rfl, ?_⟩) ?_ ?_
                rotate_left
                · intro w'
                  go_simp
                  with_reducible rfl
                rotate_left
                · simp only [Act.put, List.setIfInBounds_toArray, List.set_cons_zero, List.set_cons_succ, i64_w, i32_w]
                  rfl
                refine take_ (i := 4) (N := some 46) (v := ?_) (a' := ?_) #[true, true, true, true, true, true, true, true, false, false, false, false, false] rfl rfl (take_ofW HT_.out HW_.out (by kernel_rfl)) (fun _ _ _ h => h) (Or.inl ⟨by rfl, ?_⟩) hHeld ?_ ?_
                rotate_left
                · rintro w' ⟨s0, s1⟩
                  go_simp
                  with_reducible rfl
                rotate_left
                · simp only [Act.put, List.setIfInBounds_toArray, List.set_cons_zero, List.set_cons_succ, i64_w, i32_w]
                  rfl
                refine take_ (i := 8) (N := some 50) (v := ?_) (a' := ?_) #[true, true, true, true, true, true, true, true, true, false, false, false, false] rfl rfl (take_ofW HT_.out HW_.out (by kernel_rfl)) (fun _ _ _ h => h) (Or.inl ⟨by rfl, ?_⟩) hHeld ?_ ?_
                rotate_left
                · rintro w' ⟨s0, s1⟩
                  go_simp
                  with_reducible rfl
                rotate_left
                · simp only [Act.put, List.setIfInBounds_toArray, List.set_cons_zero, List.set_cons_succ, i64_w, i32_w]
                  rfl
                refine pure_ (i := 9) (N := some 51) (v := ?_) (a' := ?_) #[true, true, true, true, true, true, true, true, true, true, false, false, false] rfl rfl (any_of HT_.out (by kernel_rfl)) (fun _ _ _ h => h) (Or.inl ⟨by rfl, ?_⟩) ?_ ?_
                rotate_left
                · intro w'
                  go_simp
                  with_reducible rfl
                rotate_left
                · simp only [Act.put, List.setIfInBounds_toArray, List.set_cons_zero, List.set_cons_succ, i64_w, i32_w]
                  rfl
                refine last_ (i := 10) (N := some 52) #[true, true, true, true, true, true, true, true, true, true, true, false, false] rfl rfl (one_of HT_.out (by kernel_rfl)) (by decide) (fun K hK => ?_)
                refine value_ (w1 := ?_) (v := ?_) (by rfl) rfl ?_ ?_
                rotate_left 2
                · go_simp
                  constructor
                  · rfl
                  · rfl
                refine hK.out _ _ ?_
                clear hK K
                refine norm_ (a' := ?_) ?_ ?_
                rotate_left
                · show Act.put _ (some 52) _ = _
                  simp only [Act.put, List.setIfInBounds_toArray, List.set_cons_zero, List.set_cons_succ, i64_w, i32_w]
                  rfl
                refine last_ (i := 11) (N := some 53) #[true, true, true, true, true, true, true, true, true, true, true, true, false] rfl rfl (one_of HT_.out (by kernel_rfl)) (by decide) (fun K hK => ?_)
                refine Kd.R_append_step k23 (w0 := w) w.heap.size (by rfl) (.tmp 42) (.tmp 52) 26 23 (.agg #[(.int .i64 0), (.int .i64 0)]) 16 rfl Try.underlying26 info23 rfl (by decide) (by omega) u11 x11_1 (⟨rd t175 x12_1, rd t182 x12_1⟩ : S23) [.int .i64 (rd t175 x12_1), .int .i64 (rd t182 x12_1)] (fun _ => True) (fun _ => False) rfl rfl ?aP (fun _ hk => hk.elim) ?aF ?aO ?aB ?aS ?aL ?_
                (case aP => exact k23_mkM _ _ _ (⟨rd t175 x12_1, rd t182 x12_1⟩ : S23))
                (case aB => exact (by repeat (first | (with_reducible first | exact HB.out | apply below_alloc | apply pw_below_drewN | apply below_drew1 | refine below_set ?_ GE170.out) | exact HB.out)))
                (case aF => exact (fun _ _ => trivial))
                (case aO => exact (by (with_reducible repeat (first | apply Kd.R_alloc | apply Kd.R_drewN | apply Kd.R_drew)); exact HO_11.out))
                (case aS => exact (below_size (by repeat (first | (with_reducible first | exact HB.out | apply below_alloc | apply pw_below_drewN | apply below_drew1 | refine below_set ?_ GE170.out) | exact HB.out))))
                (case aL => have := LMc25.out; omega)
                intro v191 w29 ho hb hg hat
                rw [← Ny190.out] at ho
                have n0_ := Aside0.mk (Kd.R_over' (by (with_reducible repeat (first | apply Kd.R_alloc | apply Kd.R_drewN | apply Kd.R_drew)); exact HO_9.out) (Kd.R_typed (by (with_reducible repeat (first | apply Kd.R_alloc | apply Kd.R_drewN | apply Kd.R_drew)); exact HO_11.out)) (by decide) hg)
                have n1_ := Aside0.mk (Kd.R_over' (by (with_reducible repeat (first | apply Kd.R_alloc | apply Kd.R_drewN | apply Kd.R_drew)); exact HO_10.out) (Kd.R_typed (by (with_reducible repeat (first | apply Kd.R_alloc | apply Kd.R_drewN | apply Kd.R_drew)); exact HO_11.out)) (by decide) hg)
                have n2_ := Aside0.mk (blk_grown (g := gb170) (o := .cells #[.int .i64 a0_0, .int .i64 a0_1, .int .i64 a0_2, .int .i64 a0_3, .int .i64 a0_4, .int .i64 a0_5, .int .i64 a0_6] 25 (0, 0)) (by (with_reducible repeat (first | refine blk_drewN ?_ _ | refine blk_drew ?_ | refine blk_alloc ?_ _)); exact BK170.out) hg (Kd.R_ne HO_11.out BK170.out (by decide)))
                have n3_ := Aside0.mk (hb)
                have n4_ := Aside0.mk (ho)
                clear HO_9
                clear HO_10
                clear BK170
                clear HB
                clear HO_11
                have HO_9 := n0_
                have HO_10 := n1_
                have BK170 := n2_
                have HB := n3_
                have HO192 := n4_
                clear n0_ n1_ n2_ n3_ n4_
                clear ho hb hg hat
                refine hK.out _ _ ?_
                clear hK K
                refine norm_ (a' := ?_) ?_ ?_
                rotate_left
                · show Act.put _ (some 53) _ = _
                  simp only [Act.put, List.setIfInBounds_toArray, List.set_cons_zero, List.set_cons_succ, i64_w, i32_w]
                  rfl
                refine pure_ (i := 12) (N := some 11) (v := ?_) (a' := ?_) #[true, true, true, true, true, true, true, true, true, true, true, true, true] rfl rfl (any_of HT_.out (by kernel_rfl)) (fun _ _ _ h => h) (Or.inl ⟨by rfl, ?_⟩) ?_ ?_
                rotate_left
                · intro w'
                  go_simp
                  with_reducible rfl
                rotate_left
                · simp only [Act.put, List.setIfInBounds_toArray, List.set_cons_zero, List.set_cons_succ, i64_w, i32_w]
                  rfl
                refine done_ (done_of HT_.out (by kernel_rfl)) ?_
                try go_wp2
                go_roundg k1
                case measure => have := HK1.out; omega
                case rel => exact ⟨(y190), (wrap64 (x12_1 + 1)), (by first | rfl | (simp; done) | (simp [*]; done)), H', ⟨by have := HK1.out; omega⟩, ⟨by (with_reducible repeat (first | apply Kd.R_alloc | apply Kd.R_drewN | apply Kd.R_drew)); exact HO_9.out⟩, ⟨by (with_reducible repeat (first | apply Kd.R_alloc | apply Kd.R_drewN | apply Kd.R_drew)); exact HO_10.out⟩, ⟨by (with_reducible repeat (first | apply Kd.R_alloc | apply Kd.R_drewN | apply Kd.R_drew)); exact HO192.out⟩, ⟨by (with_reducible repeat (first | refine blk_drewN ?_ _ | refine blk_drew ?_ | refine blk_alloc ?_ _)); exact BK170.out⟩, ⟨by repeat (first | (with_reducible first | exact HB.out | apply below_alloc | apply pw_below_drewN | apply below_drew1 | refine below_set ?_ GE170.out) | exact HB.out)⟩⟩
              · rw [if_neg c25] at H
                exact absurd H (by simp)
            · rw [if_neg c24] at H
              exact absurd H (by simp)
          · rw [if_neg c23] at H
            exact absurd H (by simp)
        · rw [if_neg c22] at H
          exact absurd H (by simp)
      · rw [if_neg c21] at H
        have c21b0 : decide (x12_1 < (l2.length : Int)) = false := decide_eq_false c21
        clear c21
        obtain rfl := Option.some.inj H
        go_wp2
        go_ret
        exact ⟨_, by first | rfl | (simp [errW_none, errW_some] <;> rfl) | (simp [*, errW_none, errW_some] <;> rfl), by (with_reducible repeat (first | apply Kd.R_alloc | apply Kd.R_drewN | apply Kd.R_drew)); exact HO_11.out, by repeat (first | (with_reducible first | exact HB.out | apply below_alloc | apply pw_below_drewN | apply below_drew1 | refine below_set ?_ GE170.out) | exact HB.out)⟩
end Go.Proofs.Ytcnlbbmokphjnaa.Q
namespace Go.Proofs.Ytcnlbbmokphjnaa.Q
open Go.RowKit Go.Proofs.YtcnlbbmokphjnaaW.PrintWords Go.Proofs.YtcnlbbmokphjnaaW.PrintLast Go.Proofs.YtcnlbbmokphjnaaW.PrintMore
attribute [local go_sem] max2_int min2_int max_two min_two max_three min_three max_four min_four   -- for this text's walks alone
set_option linter.unusedVariables false
set_option linter.unusedSimpArgs false
mutual
def walkmilllaw02_StreamGoes.j0 : Nat → List (S23) → List Int → Bool → Int → Int → Int → Int → Int → Int → Int → Option (Bool)
  | 0, _, _, _, _, _, _, _, _, _, _ => none
  | k + 1, x1, x2, x25, x194000, x194001, x194002, x194003, x194004, x194005, x194006 => if x25 = true then ((walkmilllaw02_known.f).bind fun t194 => (some t194)) else ((walkmillref02_Copy.f x1).bind fun t195 => ((walkmillref02_Ints.f x2).bind fun t198 => ((stream_Check.f x194000 x194001 x194002 x194003 x194004 x194005 x194006 t195).bind fun t201 => ((stream_Goes.f x194000 x194001 x194002 x194003 x194004 x194005 x194006 t195 t198).bind fun bt202 => ((stream_Levels.f x194000 x194001 x194002 x194003 x194004 x194005 x194006 t195 t198).bind fun bt205 => ((walkmillref02_Check.f k x194000 x194001 x194002 x194003 x194004 x194005 x194006 x1).bind fun t209 => ((walkmillref02_Same.f k t195 x1).bind fun t210 => (if t210 = true then ((walkmillref02_Like.f k t198 x2).bind fun t211 => (if t211 = true then (walkmilllaw02_StreamGoes.j1 k x1 x2 bt202.1 bt202.2.1 bt202.2.2 bt205.1 bt205.2 t209 (t201 != t209) x194000 x194001 x194002 x194003 x194004 x194005 x194006) else (walkmilllaw02_StreamGoes.j1 k x1 x2 bt202.1 bt202.2.1 bt202.2.2 bt205.1 bt205.2 t209 true x194000 x194001 x194002 x194003 x194004 x194005 x194006))) else (walkmilllaw02_StreamGoes.j1 k x1 x2 bt202.1 bt202.2.1 bt202.2.2 bt205.1 bt205.2 t209 true x194000 x194001 x194002 x194003 x194004 x194005 x194006)))))))))
def walkmilllaw02_StreamGoes.j1 : Nat → List (S23) → List Int → Int → Bool → Int → List (S23) → Int → Int → Bool → Int → Int → Int → Int → Int → Int → Int → Option (Bool)
  | 0, _, _, _, _, _, _, _, _, _, _, _, _, _, _, _, _ => none
  | k + 1, x1, x2, x10, x11, x12, x13, x14, x15, x66, x194000, x194001, x194002, x194003, x194004, x194005, x194006 => if x66 = true then (some false) else (if x15 = 0 then ((walkmillref02_Plan.f k x194000 x194001 x194002 x194003 x194004 x194005 x194006 x2 (x1.length : Int) (x1.length : Int)).bind fun t212 => (walkmilllaw02_StreamGoes.j2 k x1 x2 x10 x11 x12 x13 x14 x15 (!t212) x194000 x194001 x194002 x194003 x194004 x194005 x194006)) else (walkmilllaw02_StreamGoes.j2 k x1 x2 x10 x11 x12 x13 x14 x15 false x194000 x194001 x194002 x194003 x194004 x194005 x194006))
def walkmilllaw02_StreamGoes.j2 : Nat → List (S23) → List Int → Int → Bool → Int → List (S23) → Int → Int → Bool → Int → Int → Int → Int → Int → Int → Int → Option (Bool)
  | 0, _, _, _, _, _, _, _, _, _, _, _, _, _, _, _, _ => none
  | k + 1, x1, x2, x10, x11, x12, x13, x14, x15, x78, x194000, x194001, x194002, x194003, x194004, x194005, x194006 => if x78 = true then (walkmilllaw02_StreamGoes.j3 k x1 x2 x10 x11 x12 x13 x14 4 x194000 x194001 x194002 x194003 x194004 x194005 x194006) else (walkmilllaw02_StreamGoes.j3 k x1 x2 x10 x11 x12 x13 x14 x15 x194000 x194001 x194002 x194003 x194004 x194005 x194006)
def walkmilllaw02_StreamGoes.j3 : Nat → List (S23) → List Int → Int → Bool → Int → List (S23) → Int → Int → Int → Int → Int → Int → Int → Int → Int → Option (Bool)
  | 0, _, _, _, _, _, _, _, _, _, _, _, _, _, _, _ => none
  | k + 1, x1, x2, x10, x11, x12, x13, x14, x15, x194000, x194001, x194002, x194003, x194004, x194005, x194006 => if x15 = 0 then ((walkmillref02_Goes.f k x194000 x194001 x194002 x194003 x194004 x194005 x194006 x1 x2).bind fun bt214 => (if bt214.1 ≥ 0 then (if x12 = 0 then (if x10 = bt214.1 then (if (x11 == bt214.2) = true then (if x14 = 9 then (if (x13.length : Int) = 0 then ((walkmilllaw02_known.f).bind fun t216 => (some t216)) else (some false)) else (some false)) else (some false)) else (some false)) else (some false)) else (if x12 = 7 then (if x10 = 0 then (if x11 = true then (some false) else (if x14 = 0 then ((walkmillref02_Levels.f k x194000 x194001 x194002 x194003 x194004 x194005 x194006 x1 x2).bind fun t217 => ((walkmillref02_Same.f k x13 t217).bind fun t220 => (if t220 = true then ((walkmilllaw02_known.f).bind fun t221 => (some t221)) else (some false)))) else (some false))) else (some false)) else (some false)))) else (if x12 = x15 then (if x14 = x15 then (if x10 = 0 then (if x11 = true then (some false) else (if (x13.length : Int) = 0 then ((walkmilllaw02_known.f).bind fun t213 => (some t213)) else (some false))) else (some false)) else (some false)) else (some false))
end
def walkmilllaw02_StreamGoes.f (k : Nat) (a0_0 : Int) (a0_1 : Int) (a0_2 : Int) (a0_3 : Int) (a0_4 : Int) (a0_5 : Int) (a0_6 : Int) (l1 : List (S23)) (l2 : List Int) : Option (Bool) := if (l1.length : Int) > 40 then (walkmilllaw02_StreamGoes.j0 k l1 l2 true a0_0 a0_1 a0_2 a0_3 a0_4 a0_5 a0_6) else (walkmilllaw02_StreamGoes.j0 k l1 l2 (decide ((l2.length : Int) > 40)) a0_0 a0_1 a0_2 a0_3 a0_4 a0_5 a0_6)
theorem walkmilllaw02_StreamGoes.mono_l : ∀ k, (∀ y0 y1 y2 y3 y4 y5 y6 y7 y8 y9, LeO (walkmilllaw02_StreamGoes.j0 k y0 y1 y2 y3 y4 y5 y6 y7 y8 y9) (walkmilllaw02_StreamGoes.j0 (k + 1) y0 y1 y2 y3 y4 y5 y6 y7 y8 y9)) ∧ (∀ y0 y1 y2 y3 y4 y5 y6 y7 y8 y9 y10 y11 y12 y13 y14 y15, LeO (walkmilllaw02_StreamGoes.j1 k y0 y1 y2 y3 y4 y5 y6 y7 y8 y9 y10 y11 y12 y13 y14 y15) (walkmilllaw02_StreamGoes.j1 (k + 1) y0 y1 y2 y3 y4 y5 y6 y7 y8 y9 y10 y11 y12 y13 y14 y15)) ∧ (∀ y0 y1 y2 y3 y4 y5 y6 y7 y8 y9 y10 y11 y12 y13 y14 y15, LeO (walkmilllaw02_StreamGoes.j2 k y0 y1 y2 y3 y4 y5 y6 y7 y8 y9 y10 y11 y12 y13 y14 y15) (walkmilllaw02_StreamGoes.j2 (k + 1) y0 y1 y2 y3 y4 y5 y6 y7 y8 y9 y10 y11 y12 y13 y14 y15)) ∧ (∀ y0 y1 y2 y3 y4 y5 y6 y7 y8 y9 y10 y11 y12 y13 y14, LeO (walkmilllaw02_StreamGoes.j3 k y0 y1 y2 y3 y4 y5 y6 y7 y8 y9 y10 y11 y12 y13 y14) (walkmilllaw02_StreamGoes.j3 (k + 1) y0 y1 y2 y3 y4 y5 y6 y7 y8 y9 y10 y11 y12 y13 y14))
  | 0 => ⟨fun _ _ _ _ _ _ _ _ _ _ r h => by simp [walkmilllaw02_StreamGoes.j0] at h, fun _ _ _ _ _ _ _ _ _ _ _ _ _ _ _ _ r h => by simp [walkmilllaw02_StreamGoes.j1] at h, fun _ _ _ _ _ _ _ _ _ _ _ _ _ _ _ _ r h => by simp [walkmilllaw02_StreamGoes.j2] at h, fun _ _ _ _ _ _ _ _ _ _ _ _ _ _ _ r h => by simp [walkmilllaw02_StreamGoes.j3] at h⟩
  | k + 1 => by
    obtain ⟨ih0, ih1, ih2, ih3⟩ := walkmilllaw02_StreamGoes.mono_l k
    refine ⟨?_, ?_, ?_, ?_⟩
    · intro y0 y1 y2 y3 y4 y5 y6 y7 y8 y9
      unfold walkmilllaw02_StreamGoes.j0
      repeat' first
      | (with_reducible exact ih0 _ _ _ _ _ _ _ _ _ _)
      | (with_reducible exact ih1 _ _ _ _ _ _ _ _ _ _ _ _ _ _ _ _)
      | (with_reducible exact ih2 _ _ _ _ _ _ _ _ _ _ _ _ _ _ _ _)
      | (with_reducible exact ih3 _ _ _ _ _ _ _ _ _ _ _ _ _ _ _)
      | (with_reducible exact walkmillref02_Check.mono _ _ _ _ _ _ _ _ _)
      | (with_reducible exact walkmillref02_Goes.mono _ _ _ _ _ _ _ _ _ _)
      | (with_reducible exact walkmillref02_Levels.mono _ _ _ _ _ _ _ _ _ _)
      | (with_reducible exact walkmillref02_Like.mono _ _ _)
      | (with_reducible exact walkmillref02_Plan.mono _ _ _ _ _ _ _ _ _ _ _)
      | (with_reducible exact walkmillref02_Same.mono _ _ _)
      | (with_reducible exact LeO.refl _)
      | (with_reducible exact LeO.none _)
      | (with_reducible refine LeO.ite ?_ ?_)
      | (with_reducible refine LeO.bind ?_ (fun _ => ?_))
      | exact ih0 _ _ _ _ _ _ _ _ _ _
      | exact ih1 _ _ _ _ _ _ _ _ _ _ _ _ _ _ _ _
      | exact ih2 _ _ _ _ _ _ _ _ _ _ _ _ _ _ _ _
      | exact ih3 _ _ _ _ _ _ _ _ _ _ _ _ _ _ _
      | exact walkmillref02_Check.mono _ _ _ _ _ _ _ _ _
      | exact walkmillref02_Goes.mono _ _ _ _ _ _ _ _ _ _
      | exact walkmillref02_Levels.mono _ _ _ _ _ _ _ _ _ _
      | exact walkmillref02_Like.mono _ _ _
      | exact walkmillref02_Plan.mono _ _ _ _ _ _ _ _ _ _ _
      | exact walkmillref02_Same.mono _ _ _
      | exact LeO.none _
      | refine LeO.ite ?_ ?_
      | refine LeO.bind ?_ (fun _ => ?_)
    · intro y0 y1 y2 y3 y4 y5 y6 y7 y8 y9 y10 y11 y12 y13 y14 y15
      unfold walkmilllaw02_StreamGoes.j1
      repeat' first
      | (with_reducible exact ih0 _ _ _ _ _ _ _ _ _ _)
      | (with_reducible exact ih1 _ _ _ _ _ _ _ _ _ _ _ _ _ _ _ _)
      | (with_reducible exact ih2 _ _ _ _ _ _ _ _ _ _ _ _ _ _ _ _)
      | (with_reducible exact ih3 _ _ _ _ _ _ _ _ _ _ _ _ _ _ _)
      | (with_reducible exact walkmillref02_Check.mono _ _ _ _ _ _ _ _ _)
      | (with_reducible exact walkmillref02_Goes.mono _ _ _ _ _ _ _ _ _ _)
      | (with_reducible exact walkmillref02_Levels.mono _ _ _ _ _ _ _ _ _ _)
      | (with_reducible exact walkmillref02_Like.mono _ _ _)
      | (with_reducible exact walkmillref02_Plan.mono _ _ _ _ _ _ _ _ _ _ _)
      | (with_reducible exact walkmillref02_Same.mono _ _ _)
      | (with_reducible exact LeO.refl _)
      | (with_reducible exact LeO.none _)
      | (with_reducible refine LeO.ite ?_ ?_)
      | (with_reducible refine LeO.bind ?_ (fun _ => ?_))
      | exact ih0 _ _ _ _ _ _ _ _ _ _
      | exact ih1 _ _ _ _ _ _ _ _ _ _ _ _ _ _ _ _
      | exact ih2 _ _ _ _ _ _ _ _ _ _ _ _ _ _ _ _
      | exact ih3 _ _ _ _ _ _ _ _ _ _ _ _ _ _ _
      | exact walkmillref02_Check.mono _ _ _ _ _ _ _ _ _
      | exact walkmillref02_Goes.mono _ _ _ _ _ _ _ _ _ _
      | exact walkmillref02_Levels.mono _ _ _ _ _ _ _ _ _ _
      | exact walkmillref02_Like.mono _ _ _
      | exact walkmillref02_Plan.mono _ _ _ _ _ _ _ _ _ _ _
      | exact walkmillref02_Same.mono _ _ _
      | exact LeO.none _
      | refine LeO.ite ?_ ?_
      | refine LeO.bind ?_ (fun _ => ?_)
    · intro y0 y1 y2 y3 y4 y5 y6 y7 y8 y9 y10 y11 y12 y13 y14 y15
      unfold walkmilllaw02_StreamGoes.j2
      repeat' first
      | (with_reducible exact ih0 _ _ _ _ _ _ _ _ _ _)
      | (with_reducible exact ih1 _ _ _ _ _ _ _ _ _ _ _ _ _ _ _ _)
      | (with_reducible exact ih2 _ _ _ _ _ _ _ _ _ _ _ _ _ _ _ _)
      | (with_reducible exact ih3 _ _ _ _ _ _ _ _ _ _ _ _ _ _ _)
      | (with_reducible exact walkmillref02_Check.mono _ _ _ _ _ _ _ _ _)
      | (with_reducible exact walkmillref02_Goes.mono _ _ _ _ _ _ _ _ _ _)
      | (with_reducible exact walkmillref02_Levels.mono _ _ _ _ _ _ _ _ _ _)
      | (with_reducible exact walkmillref02_Like.mono _ _ _)
      | (with_reducible exact walkmillref02_Plan.mono _ _ _ _ _ _ _ _ _ _ _)
      | (with_reducible exact walkmillref02_Same.mono _ _ _)
      | (with_reducible exact LeO.refl _)
      | (with_reducible exact LeO.none _)
      | (with_reducible refine LeO.ite ?_ ?_)
      | (with_reducible refine LeO.bind ?_ (fun _ => ?_))
      | exact ih0 _ _ _ _ _ _ _ _ _ _
      | exact ih1 _ _ _ _ _ _ _ _ _ _ _ _ _ _ _ _
      | exact ih2 _ _ _ _ _ _ _ _ _ _ _ _ _ _ _ _
      | exact ih3 _ _ _ _ _ _ _ _ _ _ _ _ _ _ _
      | exact walkmillref02_Check.mono _ _ _ _ _ _ _ _ _
      | exact walkmillref02_Goes.mono _ _ _ _ _ _ _ _ _ _
      | exact walkmillref02_Levels.mono _ _ _ _ _ _ _ _ _ _
      | exact walkmillref02_Like.mono _ _ _
      | exact walkmillref02_Plan.mono _ _ _ _ _ _ _ _ _ _ _
      | exact walkmillref02_Same.mono _ _ _
      | exact LeO.none _
      | refine LeO.ite ?_ ?_
      | refine LeO.bind ?_ (fun _ => ?_)
    · intro y0 y1 y2 y3 y4 y5 y6 y7 y8 y9 y10 y11 y12 y13 y14
      unfold walkmilllaw02_StreamGoes.j3
      repeat' first
      | (with_reducible exact ih0 _ _ _ _ _ _ _ _ _ _)
      | (with_reducible exact ih1 _ _ _ _ _ _ _ _ _ _ _ _ _ _ _ _)
      | (with_reducible exact ih2 _ _ _ _ _ _ _ _ _ _ _ _ _ _ _ _)
      | (with_reducible exact ih3 _ _ _ _ _ _ _ _ _ _ _ _ _ _ _)
      | (with_reducible exact walkmillref02_Check.mono _ _ _ _ _ _ _ _ _)
      | (with_reducible exact walkmillref02_Goes.mono _ _ _ _ _ _ _ _ _ _)
      | (with_reducible exact walkmillref02_Levels.mono _ _ _ _ _ _ _ _ _ _)
      | (with_reducible exact walkmillref02_Like.mono _ _ _)
      | (with_reducible exact walkmillref02_Plan.mono _ _ _ _ _ _ _ _ _ _ _)
      | (with_reducible exact walkmillref02_Same.mono _ _ _)
      | (with_reducible exact LeO.refl _)
      | (with_reducible exact LeO.none _)
      | (with_reducible refine LeO.ite ?_ ?_)
      | (with_reducible refine LeO.bind ?_ (fun _ => ?_))
      | exact ih0 _ _ _ _ _ _ _ _ _ _
      | exact ih1 _ _ _ _ _ _ _ _ _ _ _ _ _ _ _ _
      | exact ih2 _ _ _ _ _ _ _ _ _ _ _ _ _ _ _ _
      | exact ih3 _ _ _ _ _ _ _ _ _ _ _ _ _ _ _
      | exact walkmillref02_Check.mono _ _ _ _ _ _ _ _ _
      | exact walkmillref02_Goes.mono _ _ _ _ _ _ _ _ _ _
      | exact walkmillref02_Levels.mono _ _ _ _ _ _ _ _ _ _
      | exact walkmillref02_Like.mono _ _ _
      | exact walkmillref02_Plan.mono _ _ _ _ _ _ _ _ _ _ _
      | exact walkmillref02_Same.mono _ _ _
      | exact LeO.none _
      | refine LeO.ite ?_ ?_
      | refine LeO.bind ?_ (fun _ => ?_)
theorem walkmilllaw02_StreamGoes.mono : ∀ a0 a1 a2 a3 a4 a5 a6 a7 a8 k, LeO (walkmilllaw02_StreamGoes.f k a0 a1 a2 a3 a4 a5 a6 a7 a8) (walkmilllaw02_StreamGoes.f (k + 1) a0 a1 a2 a3 a4 a5 a6 a7 a8) := by
  intro a0 a1 a2 a3 a4 a5 a6 a7 a8 k
  obtain ⟨ih0, ih1, ih2, ih3⟩ := walkmilllaw02_StreamGoes.mono_l k
  unfold walkmilllaw02_StreamGoes.f
  repeat' first
      | (with_reducible exact ih0 _ _ _ _ _ _ _ _ _ _)
      | (with_reducible exact ih1 _ _ _ _ _ _ _ _ _ _ _ _ _ _ _ _)
      | (with_reducible exact ih2 _ _ _ _ _ _ _ _ _ _ _ _ _ _ _ _)
      | (with_reducible exact ih3 _ _ _ _ _ _ _ _ _ _ _ _ _ _ _)
      | (with_reducible exact walkmillref02_Check.mono _ _ _ _ _ _ _ _ _)
      | (with_reducible exact walkmillref02_Goes.mono _ _ _ _ _ _ _ _ _ _)
      | (with_reducible exact walkmillref02_Levels.mono _ _ _ _ _ _ _ _ _ _)
      | (with_reducible exact walkmillref02_Like.mono _ _ _)
      | (with_reducible exact walkmillref02_Plan.mono _ _ _ _ _ _ _ _ _ _ _)
      | (with_reducible exact walkmillref02_Same.mono _ _ _)
      | (with_reducible exact LeO.refl _)
      | (with_reducible exact LeO.none _)
      | (with_reducible refine LeO.ite ?_ ?_)
      | (with_reducible refine LeO.bind ?_ (fun _ => ?_))
      | exact ih0 _ _ _ _ _ _ _ _ _ _
      | exact ih1 _ _ _ _ _ _ _ _ _ _ _ _ _ _ _ _
      | exact ih2 _ _ _ _ _ _ _ _ _ _ _ _ _ _ _ _
      | exact ih3 _ _ _ _ _ _ _ _ _ _ _ _ _ _ _
      | exact walkmillref02_Check.mono _ _ _ _ _ _ _ _ _
      | exact walkmillref02_Goes.mono _ _ _ _ _ _ _ _ _ _
      | exact walkmillref02_Levels.mono _ _ _ _ _ _ _ _ _ _
      | exact walkmillref02_Like.mono _ _ _
      | exact walkmillref02_Plan.mono _ _ _ _ _ _ _ _ _ _ _
      | exact walkmillref02_Same.mono _ _ _
      | exact LeO.none _
      | refine LeO.ite ?_ ?_
      | refine LeO.bind ?_ (fun _ => ?_)
set_option maxHeartbeats 8000000 in
set_option maxRecDepth 100000 in
theorem walkmilllaw02_StreamGoes.calls (k : Nat) (a0_0 : Int) (a0_1 : Int) (a0_2 : Int) (a0_3 : Int) (a0_4 : Int) (a0_5 : Int) (a0_6 : Int) (A1 : Option Addr) (c1 : Nat) (l1 : List (S23)) (A2 : Option Addr) (c2 : Nat) (l2 : List Int) (r : Bool) (w : World) (hr1 : Kd.C k23 w A1 l1.length l1) (hc1 : l1.length ≤ c1) (hr2 : Kd.C (Kd.int .i64) w A2 l2.length l2) (hc2 : l2.length ≤ c2) (h : walkmilllaw02_StreamGoes.f k a0_0 a0_1 a0_2 a0_3 a0_4 a0_5 a0_6 l1 l2 = some r) :
    Calls Try.prog 3 #[.agg #[.int .i64 a0_0, .int .i64 a0_1, .int .i64 a0_2, .int .i64 a0_3, .int .i64 a0_4, .int .i64 a0_5, .int .i64 a0_6], .slice A1 l1.length c1, .slice A2 l2.length c2] w fun e w' => e = .returned (.bool r) ∧ Below w.heap.size w w' := by
  have hu25 := Try.underlying25
  have HR1 := Aside0.mk hr1
  have HC1 := Aside0.mk hc1
  clear hr1 hc1
  have HR2 := Aside0.mk hr2
  have HC2 := Aside0.mk hc2
  clear hr2 hc2
  have HB := Aside0.mk (Below.refl w.heap.size w)
  have H : (if (l1.length : Int) > 40 then (walkmilllaw02_StreamGoes.j0 k l1 l2 true a0_0 a0_1 a0_2 a0_3 a0_4 a0_5 a0_6) else (walkmilllaw02_StreamGoes.j0 k l1 l2 (decide ((l2.length : Int) > 40)) a0_0 a0_1 a0_2 a0_3 a0_4 a0_5 a0_6)) = some r := h
  clear h
  have HC4 := Aside0.mk H
  clear H
  go_enter Try.func3, Try.ntmps3
  go_upto_region 1 with (first | ((with_reducible refine gate_dst (N := 3) rfl ?_); (try (refine gate_guard (by rfl) ?_; dsimp only)); refine box_event ?hg (N := 3) ?hd (cs := #[.int .i64 a0_0, .int .i64 a0_1, .int .i64 a0_2, .int .i64 a0_3, .int .i64 a0_4, .int .i64 a0_5, .int .i64 a0_6]) (t := 25) ?hr ?_; (case hd => rfl); (case hg => rfl); (case hr => first | (go_simp; done) | (go_simp; rfl)); intro gb193 hg w5 hbox hb; have n0_ := Aside0.mk (below_step (by repeat (first | (with_reducible first | exact HB.out | apply below_alloc | apply pw_below_drewN | apply below_drew1) | exact HB.out)) hb); have n1_ := Aside0.mk (hbox); have n2_ := Aside0.mk ((by rw [hg]; exact (below_size (by repeat (first | (with_reducible first | exact HB.out | apply below_alloc | apply pw_below_drewN | apply below_drew1) | exact HB.out))) : w.heap.size ≤ gb193)); have n3_ := Aside0.mk ((by rw [hg]; exact (below_size (by repeat (first | (with_reducible first | exact HB.out | apply below_alloc | apply pw_below_drewN | apply below_drew1) | exact HB.out))) : w.heap.size ≤ gb193)); clear HB; have HB := n0_; have BK193 := n1_; have GW193 := n2_; have GE193 := n3_; clear n0_ n1_ n2_ n3_; clear hb hbox hg))
  (try simp only [Act.put, List.setIfInBounds_toArray, List.set_cons_zero, List.set_cons_succ])
  go_cut [25] (fun v25 wc => ∃ (kq : Nat) (x25_3 : Bool), v25 = .bool x25_3 ∧ Aside0 (walkmilllaw02_StreamGoes.j0 kq l1 l2 x25_3 a0_0 a0_1 a0_2 a0_3 a0_4 a0_5 a0_6 = some r) ∧ Aside0 (kq ≤ k) ∧ Aside0 (wc.heap[gb193]? = some (.cells #[.int .i64 a0_0, .int .i64 a0_1, .int .i64 a0_2, .int .i64 a0_3, .int .i64 a0_4, .int .i64 a0_5, .int .i64 a0_6] 25 (0, 0))) ∧ Aside0 (Below w.heap.size w wc))
  case first =>
    have H := HC4.out
    clear HC4
    by_cases c6 : (l1.length : Int) > 40
    · rw [if_pos c6] at H
      have c6b0 : decide (40 < (l1.length : Int)) = true := decide_eq_true c6
      have c6b1 : decide (40 < l1.length) = true := decide_eq_true (by omega)
      clear c6
      (first | rw [c6b0] | (simp only [i64_w, i32_w]; rw [c6b0]) | skip)
      have H' := Aside0.mk H
      clear H
      go_wp2
      go_meet
      case rel => exact ⟨_, (true), (by first | rfl | (simp; done) | (simp [*]; done)), H', ⟨by first | omega | exact Nat.le_refl _⟩, ⟨by (with_reducible repeat (first | refine blk_drewN ?_ _ | refine blk_drew ?_ | refine blk_alloc ?_ _)); exact BK193.out⟩, ⟨by repeat (first | (with_reducible first | exact HB.out | apply below_alloc | apply pw_below_drewN | apply below_drew1 | refine below_set ?_ GE193.out) | exact HB.out)⟩⟩
    · rw [if_neg c6] at H
      have c6b0 : decide (40 < (l1.length : Int)) = false := decide_eq_false c6
      have c6b1 : decide (40 < l1.length) = false := decide_eq_false (by omega)
      clear c6
      (first | rw [c6b0] | (simp only [i64_w, i32_w]; rw [c6b0]) | skip)
      have H' := Aside0.mk H
      clear H
      go_wp2
      go_meet
      case rel => exact ⟨_, (decide ((l2.length : Int) > 40)), (by first | rfl | (simp; done) | (simp [*]; done)), H', ⟨by first | omega | exact Nat.le_refl _⟩, ⟨by (with_reducible repeat (first | refine blk_drewN ?_ _ | refine blk_drew ?_ | refine blk_alloc ?_ _)); exact BK193.out⟩, ⟨by repeat (first | (with_reducible first | exact HB.out | apply below_alloc | apply pw_below_drewN | apply below_drew1 | refine below_set ?_ GE193.out) | exact HB.out)⟩⟩
  case rest =>
    clear HC4
    try clear c1
    try clear c2
    try clear p2
    try clear c3
    try clear c6
    try clear c6b0
    try clear c6b1
    obtain ⟨kq, x25_3, rfl, HA, HJ3, BK193, HB⟩ := hcut
    cases kq with
    | zero => exact absurd HA.out (by simp [walkmilllaw02_StreamGoes.j0])
    | succ kj3 =>
      have H := HA.out
      clear HA
      simp only [walkmilllaw02_StreamGoes.j0] at H
      by_cases c7 : x25_3 = true
      · subst c7
        have H1 : ((walkmilllaw02_known.f).bind fun t194 => (some t194)) = some r := by rw [if_pos rfl] at H; exact H
        clear H
        have H := H1
        clear H1
        replace H := Option.bind_eq_some_iff.mp H
        obtain ⟨t194, A80, H⟩ := H
        replace H : (some t194) = some r := H
        have A8 := Aside0.mk A80
        clear A80
        obtain rfl := Option.some.inj H
        go_wp2_with (first | ((with_reducible refine gate_callee (f := 15) rfl ?_); refine goesL_ (some 26) rfl rfl Try.func15 (by kernel_rfl) rfl #[] rfl (by (try simp only [List.map_toArray, List.map_cons, List.map_nil]); first | done | rfl | (simp only [List.length_drop, List.length_take]; rfl)) ?_; (with_reducible refine (walkmilllaw02_known.calls  t194 _ A8.out).mono ?_); rintro e w9 ⟨rfl, hb⟩; refine ⟨_, rfl, ?_⟩; have n0_ := Aside0.mk (blk_below (g := gb193) (o := .cells #[.int .i64 a0_0, .int .i64 a0_1, .int .i64 a0_2, .int .i64 a0_3, .int .i64 a0_4, .int .i64 a0_5, .int .i64 a0_6] 25 (0, 0)) (by (with_reducible repeat (first | refine blk_drewN ?_ _ | refine blk_drew ?_ | refine blk_alloc ?_ _)); exact BK193.out) hb); have n1_ := Aside0.mk (below_step (by repeat (first | (with_reducible first | exact HB.out | apply below_alloc | apply pw_below_drewN | apply below_drew1 | refine below_set ?_ GE193.out) | exact HB.out)) hb); clear BK193; clear HB; have BK193 := n0_; have HB := n1_; clear n0_ n1_; (try clear hb); (try clear hb2); (try clear hk); (try clear hi)))
        go_ret
        exact ⟨by first | rfl | (simp [errW_none, errW_some] <;> rfl) | (simp [*, errW_none, errW_some] <;> rfl), by repeat (first | (with_reducible first | exact HB.out | apply below_alloc | apply pw_below_drewN | apply below_drew1 | refine below_set ?_ GE193.out) | exact HB.out)⟩
      · replace c7 := Bool.eq_false_iff.mpr c7
        subst c7
        have H1 : ((walkmillref02_Copy.f l1).bind fun t195 => ((walkmillref02_Ints.f l2).bind fun t198 => ((stream_Check.f a0_0 a0_1 a0_2 a0_3 a0_4 a0_5 a0_6 t195).bind fun t201 => ((stream_Goes.f a0_0 a0_1 a0_2 a0_3 a0_4 a0_5 a0_6 t195 t198).bind fun bt202 => ((stream_Levels.f a0_0 a0_1 a0_2 a0_3 a0_4 a0_5 a0_6 t195 t198).bind fun bt205 => ((walkmillref02_Check.f kj3 a0_0 a0_1 a0_2 a0_3 a0_4 a0_5 a0_6 l1).bind fun t209 => ((walkmillref02_Same.f kj3 t195 l1).bind fun t210 => (if t210 = true then ((walkmillref02_Like.f kj3 t198 l2).bind fun t211 => (if t211 = true then (walkmilllaw02_StreamGoes.j1 kj3 l1 l2 bt202.1 bt202.2.1 bt202.2.2 bt205.1 bt205.2 t209 (t201 != t209) a0_0 a0_1 a0_2 a0_3 a0_4 a0_5 a0_6) else (walkmilllaw02_StreamGoes.j1 kj3 l1 l2 bt202.1 bt202.2.1 bt202.2.2 bt205.1 bt205.2 t209 true a0_0 a0_1 a0_2 a0_3 a0_4 a0_5 a0_6))) else (walkmilllaw02_StreamGoes.j1 kj3 l1 l2 bt202.1 bt202.2.1 bt202.2.2 bt205.1 bt205.2 t209 true a0_0 a0_1 a0_2 a0_3 a0_4 a0_5 a0_6))))))))) = some r := by rw [if_neg (show ¬ (false = true) by decide)] at H; exact H
        clear H
        have H := H1
        clear H1
        replace H := Option.bind_eq_some_iff.mp H
        obtain ⟨t195, A100, H⟩ := H
        replace H : ((walkmillref02_Ints.f l2).bind fun t198 => ((stream_Check.f a0_0 a0_1 a0_2 a0_3 a0_4 a0_5 a0_6 t195).bind fun t201 => ((stream_Goes.f a0_0 a0_1 a0_2 a0_3 a0_4 a0_5 a0_6 t195 t198).bind fun bt202 => ((stream_Levels.f a0_0 a0_1 a0_2 a0_3 a0_4 a0_5 a0_6 t195 t198).bind fun bt205 => ((walkmillref02_Check.f kj3 a0_0 a0_1 a0_2 a0_3 a0_4 a0_5 a0_6 l1).bind fun t209 => ((walkmillref02_Same.f kj3 t195 l1).bind fun t210 => (if t210 = true then ((walkmillref02_Like.f kj3 t198 l2).bind fun t211 => (if t211 = true then (walkmilllaw02_StreamGoes.j1 kj3 l1 l2 bt202.1 bt202.2.1 bt202.2.2 bt205.1 bt205.2 t209 (t201 != t209) a0_0 a0_1 a0_2 a0_3 a0_4 a0_5 a0_6) else (walkmilllaw02_StreamGoes.j1 kj3 l1 l2 bt202.1 bt202.2.1 bt202.2.2 bt205.1 bt205.2 t209 true a0_0 a0_1 a0_2 a0_3 a0_4 a0_5 a0_6))) else (walkmilllaw02_StreamGoes.j1 kj3 l1 l2 bt202.1 bt202.2.1 bt202.2.2 bt205.1 bt205.2 t209 true a0_0 a0_1 a0_2 a0_3 a0_4 a0_5 a0_6)))))))) = some r := H
        have A10 := Aside0.mk A100
        clear A100
        replace H := Option.bind_eq_some_iff.mp H
        obtain ⟨t198, A110, H⟩ := H
        replace H : ((stream_Check.f a0_0 a0_1 a0_2 a0_3 a0_4 a0_5 a0_6 t195).bind fun t201 => ((stream_Goes.f a0_0 a0_1 a0_2 a0_3 a0_4 a0_5 a0_6 t195 t198).bind fun bt202 => ((stream_Levels.f a0_0 a0_1 a0_2 a0_3 a0_4 a0_5 a0_6 t195 t198).bind fun bt205 => ((walkmillref02_Check.f kj3 a0_0 a0_1 a0_2 a0_3 a0_4 a0_5 a0_6 l1).bind fun t209 => ((walkmillref02_Same.f kj3 t195 l1).bind fun t210 => (if t210 = true then ((walkmillref02_Like.f kj3 t198 l2).bind fun t211 => (if t211 = true then (walkmilllaw02_StreamGoes.j1 kj3 l1 l2 bt202.1 bt202.2.1 bt202.2.2 bt205.1 bt205.2 t209 (t201 != t209) a0_0 a0_1 a0_2 a0_3 a0_4 a0_5 a0_6) else (walkmilllaw02_StreamGoes.j1 kj3 l1 l2 bt202.1 bt202.2.1 bt202.2.2 bt205.1 bt205.2 t209 true a0_0 a0_1 a0_2 a0_3 a0_4 a0_5 a0_6))) else (walkmilllaw02_StreamGoes.j1 kj3 l1 l2 bt202.1 bt202.2.1 bt202.2.2 bt205.1 bt205.2 t209 true a0_0 a0_1 a0_2 a0_3 a0_4 a0_5 a0_6))))))) = some r := H
        have A11 := Aside0.mk A110
        clear A110
        replace H := Option.bind_eq_some_iff.mp H
        obtain ⟨t201, A120, H⟩ := H
        replace H : ((stream_Goes.f a0_0 a0_1 a0_2 a0_3 a0_4 a0_5 a0_6 t195 t198).bind fun bt202 => ((stream_Levels.f a0_0 a0_1 a0_2 a0_3 a0_4 a0_5 a0_6 t195 t198).bind fun bt205 => ((walkmillref02_Check.f kj3 a0_0 a0_1 a0_2 a0_3 a0_4 a0_5 a0_6 l1).bind fun t209 => ((walkmillref02_Same.f kj3 t195 l1).bind fun t210 => (if t210 = true then ((walkmillref02_Like.f kj3 t198 l2).bind fun t211 => (if t211 = true then (walkmilllaw02_StreamGoes.j1 kj3 l1 l2 bt202.1 bt202.2.1 bt202.2.2 bt205.1 bt205.2 t209 (t201 != t209) a0_0 a0_1 a0_2 a0_3 a0_4 a0_5 a0_6) else (walkmilllaw02_StreamGoes.j1 kj3 l1 l2 bt202.1 bt202.2.1 bt202.2.2 bt205.1 bt205.2 t209 true a0_0 a0_1 a0_2 a0_3 a0_4 a0_5 a0_6))) else (walkmilllaw02_StreamGoes.j1 kj3 l1 l2 bt202.1 bt202.2.1 bt202.2.2 bt205.1 bt205.2 t209 true a0_0 a0_1 a0_2 a0_3 a0_4 a0_5 a0_6)))))) = some r := H
        have A12 := Aside0.mk A120
        clear A120
        replace H := Option.bind_eq_some_iff.mp H
        obtain ⟨⟨t202, t203, t204⟩, A130, H⟩ := H
        replace H : ((stream_Levels.f a0_0 a0_1 a0_2 a0_3 a0_4 a0_5 a0_6 t195 t198).bind fun bt205 => ((walkmillref02_Check.f kj3 a0_0 a0_1 a0_2 a0_3 a0_4 a0_5 a0_6 l1).bind fun t209 => ((walkmillref02_Same.f kj3 t195 l1).bind fun t210 => (if t210 = true then ((walkmillref02_Like.f kj3 t198 l2).bind fun t211 => (if t211 = true then (walkmilllaw02_StreamGoes.j1 kj3 l1 l2 t202 t203 t204 bt205.1 bt205.2 t209 (t201 != t209) a0_0 a0_1 a0_2 a0_3 a0_4 a0_5 a0_6) else (walkmilllaw02_StreamGoes.j1 kj3 l1 l2 t202 t203 t204 bt205.1 bt205.2 t209 true a0_0 a0_1 a0_2 a0_3 a0_4 a0_5 a0_6))) else (walkmilllaw02_StreamGoes.j1 kj3 l1 l2 t202 t203 t204 bt205.1 bt205.2 t209 true a0_0 a0_1 a0_2 a0_3 a0_4 a0_5 a0_6))))) = some r := H
        have A13 := Aside0.mk A130
        clear A130
        replace H := Option.bind_eq_some_iff.mp H
        obtain ⟨⟨t205, t208⟩, A140, H⟩ := H
        replace H : ((walkmillref02_Check.f kj3 a0_0 a0_1 a0_2 a0_3 a0_4 a0_5 a0_6 l1).bind fun t209 => ((walkmillref02_Same.f kj3 t195 l1).bind fun t210 => (if t210 = true then ((walkmillref02_Like.f kj3 t198 l2).bind fun t211 => (if t211 = true then (walkmilllaw02_StreamGoes.j1 kj3 l1 l2 t202 t203 t204 t205 t208 t209 (t201 != t209) a0_0 a0_1 a0_2 a0_3 a0_4 a0_5 a0_6) else (walkmilllaw02_StreamGoes.j1 kj3 l1 l2 t202 t203 t204 t205 t208 t209 true a0_0 a0_1 a0_2 a0_3 a0_4 a0_5 a0_6))) else (walkmilllaw02_StreamGoes.j1 kj3 l1 l2 t202 t203 t204 t205 t208 t209 true a0_0 a0_1 a0_2 a0_3 a0_4 a0_5 a0_6)))) = some r := H
        have A14 := Aside0.mk A140
        clear A140
        replace H := Option.bind_eq_some_iff.mp H
        obtain ⟨t209, A150, H⟩ := H
        replace H : ((walkmillref02_Same.f kj3 t195 l1).bind fun t210 => (if t210 = true then ((walkmillref02_Like.f kj3 t198 l2).bind fun t211 => (if t211 = true then (walkmilllaw02_StreamGoes.j1 kj3 l1 l2 t202 t203 t204 t205 t208 t209 (t201 != t209) a0_0 a0_1 a0_2 a0_3 a0_4 a0_5 a0_6) else (walkmilllaw02_StreamGoes.j1 kj3 l1 l2 t202 t203 t204 t205 t208 t209 true a0_0 a0_1 a0_2 a0_3 a0_4 a0_5 a0_6))) else (walkmilllaw02_StreamGoes.j1 kj3 l1 l2 t202 t203 t204 t205 t208 t209 true a0_0 a0_1 a0_2 a0_3 a0_4 a0_5 a0_6))) = some r := H
        have A15 := Aside0.mk A150
        clear A150
        have HC16 := Aside0.mk H
        clear H
        go_upto_region 8 with (first | ((with_reducible refine gate_callee (f := 16) rfl ?_); refine goesL_ (some 28) rfl rfl Try.func16 (by kernel_rfl) rfl #[.slice A1 l1.length c1] rfl (by (try simp only [List.map_toArray, List.map_cons, List.map_nil]); first | done | rfl | (simp only [List.length_drop, List.length_take]; rfl)) ?_; (with_reducible refine (walkmillref02_Copy.calls _ _ l1 t195 _ ?side1 ?side2 A10.out).mono ?_); (case side1 => repeat (first | exact (Kd.C_below HR1.out HB.out) | (with_reducible refine Kd.C_alloc ?_ _) | (with_reducible refine Kd.C_drewN ?_ _) | (with_reducible refine Kd.C_drew ?_))); (case side2 => exact HC1.out); rintro e w17 ⟨v196, rfl, ho0, hb⟩; refine ⟨_, rfl, ?_⟩; have n0_ := Aside0.mk (Kd.R_lower ho0 (below_size (by repeat (first | (with_reducible first | exact HB.out | apply below_alloc | apply pw_below_drewN | apply below_drew1 | refine below_set ?_ GE193.out) | exact HB.out)))); have n1_ := Aside0.mk (blk_below (g := gb193) (o := .cells #[.int .i64 a0_0, .int .i64 a0_1, .int .i64 a0_2, .int .i64 a0_3, .int .i64 a0_4, .int .i64 a0_5, .int .i64 a0_6] 25 (0, 0)) (by (with_reducible repeat (first | refine blk_drewN ?_ _ | refine blk_drew ?_ | refine blk_alloc ?_ _)); exact BK193.out) hb); have n2_ := Aside0.mk (below_step (by repeat (first | (with_reducible first | exact HB.out | apply below_alloc | apply pw_below_drewN | apply below_drew1 | refine below_set ?_ GE193.out) | exact HB.out)) hb); clear BK193; clear HB; have HO197 := n0_; have BK193 := n1_; have HB := n2_; clear n0_ n1_ n2_; (try clear hb); (try clear hb2); (try clear hk); (try clear hi); (try clear ho0)) | ((with_reducible refine gate_callee (f := 17) rfl ?_); refine goesL_ (some 30) rfl rfl Try.func17 (by kernel_rfl) rfl #[.slice A2 l2.length c2] rfl (by (try simp only [List.map_toArray, List.map_cons, List.map_nil]); first | done | rfl | (simp only [List.length_drop, List.length_take]; rfl)) ?_; (with_reducible refine (walkmillref02_Ints.calls _ _ l2 t198 _ ?side1 ?side2 A11.out).mono ?_); (case side1 => repeat (first | exact (Kd.C_below HR2.out HB.out) | (with_reducible refine Kd.C_alloc ?_ _) | (with_reducible refine Kd.C_drewN ?_ _) | (with_reducible refine Kd.C_drew ?_))); (case side2 => exact HC2.out); rintro e w18 ⟨v199, rfl, ho0, hb⟩; refine ⟨_, rfl, ?_⟩; have n0_ := Aside0.mk (Kd.R_below (by (with_reducible repeat (first | apply Kd.R_alloc | apply Kd.R_drewN | apply Kd.R_drew)); exact HO197.out) hb); have n1_ := Aside0.mk (Kd.R_lower ho0 (below_size (by repeat (first | (with_reducible first | exact HB.out | apply below_alloc | apply pw_below_drewN | apply below_drew1 | refine below_set ?_ GE193.out) | exact HB.out)))); have n2_ := Aside0.mk (blk_below (g := gb193) (o := .cells #[.int .i64 a0_0, .int .i64 a0_1, .int .i64 a0_2, .int .i64 a0_3, .int .i64 a0_4, .int .i64 a0_5, .int .i64 a0_6] 25 (0, 0)) (by (with_reducible repeat (first | refine blk_drewN ?_ _ | refine blk_drew ?_ | refine blk_alloc ?_ _)); exact BK193.out) hb); have n3_ := Aside0.mk (below_step (by repeat (first | (with_reducible first | exact HB.out | apply below_alloc | apply pw_below_drewN | apply below_drew1 | refine below_set ?_ GE193.out) | exact HB.out)) hb); clear HO197; clear BK193; clear HB; have HO197 := n0_; have HO200 := n1_; have BK193 := n2_; have HB := n3_; clear n0_ n1_ n2_ n3_; (try clear hb); (try clear hb2); (try clear hk); (try clear hi); (try clear ho0); have hcz19_0 : w18.cell? ⟨gb193, 0, none⟩ = some (.int .i64 a0_0) := (blk_cell BK193.out 0).trans rfl; have hcz19_1 : w18.cell? ⟨gb193, 1, none⟩ = some (.int .i64 a0_1) := (blk_cell BK193.out 1).trans rfl; have hcz19_2 : w18.cell? ⟨gb193, 2, none⟩ = some (.int .i64 a0_2) := (blk_cell BK193.out 2).trans rfl; have hcz19_3 : w18.cell? ⟨gb193, 3, none⟩ = some (.int .i64 a0_3) := (blk_cell BK193.out 3).trans rfl; have hcz19_4 : w18.cell? ⟨gb193, 4, none⟩ = some (.int .i64 a0_4) := (blk_cell BK193.out 4).trans rfl; have hcz19_5 : w18.cell? ⟨gb193, 5, none⟩ = some (.int .i64 a0_5) := (blk_cell BK193.out 5).trans rfl; have hcz19_6 : w18.cell? ⟨gb193, 6, none⟩ = some (.int .i64 a0_6) := (blk_cell BK193.out 6).trans rfl; have hfz19_0 := blk_frozen BK193.out 0; have hfz19_1 := blk_frozen BK193.out 1; have hfz19_2 := blk_frozen BK193.out 2; have hfz19_3 := blk_frozen BK193.out 3; have hfz19_4 := blk_frozen BK193.out 4; have hfz19_5 := blk_frozen BK193.out 5; have hfz19_6 := blk_frozen BK193.out 6; obtain ⟨Ao20, co20, eo20⟩ := Kd.R_slice HO197.out; subst eo20) | ((with_reducible refine gate_callee (f := 18) rfl ?_); refine goesL_ (some 33) rfl rfl Try.func18 (by kernel_rfl) rfl #[.agg #[.int .i64 a0_0, .int .i64 a0_1, .int .i64 a0_2, .int .i64 a0_3, .int .i64 a0_4, .int .i64 a0_5, .int .i64 a0_6], .slice Ao20 t195.length co20] rfl (by (try simp only [List.map_toArray, List.map_cons, List.map_nil]); first | done | rfl | (simp only [List.length_drop, List.length_take]; rfl)) ?_; (with_reducible refine (stream_Check.calls a0_0 a0_1 a0_2 a0_3 a0_4 a0_5 a0_6 _ _ t195 t201 _ ?side1 ?side2 A12.out).mono ?_); (case side1 => repeat (first | exact (Kd.R_reads' HO197.out).2.2 | (with_reducible refine Kd.C_alloc ?_ _) | (with_reducible refine Kd.C_drewN ?_ _) | (with_reducible refine Kd.C_drew ?_))); (case side2 => exact (Kd.R_reads' HO197.out).2.1); rintro e w21 ⟨rfl, hb⟩; refine ⟨_, rfl, ?_⟩; have n0_ := Aside0.mk (Kd.R_below (by (with_reducible repeat (first | apply Kd.R_alloc | apply Kd.R_drewN | apply Kd.R_drew)); exact HO197.out) hb); have n1_ := Aside0.mk (Kd.R_below (by (with_reducible repeat (first | apply Kd.R_alloc | apply Kd.R_drewN | apply Kd.R_drew)); exact HO200.out) hb); have n2_ := Aside0.mk (blk_below (g := gb193) (o := .cells #[.int .i64 a0_0, .int .i64 a0_1, .int .i64 a0_2, .int .i64 a0_3, .int .i64 a0_4, .int .i64 a0_5, .int .i64 a0_6] 25 (0, 0)) (by (with_reducible repeat (first | refine blk_drewN ?_ _ | refine blk_drew ?_ | refine blk_alloc ?_ _)); exact BK193.out) hb); have n3_ := Aside0.mk (below_step (by repeat (first | (with_reducible first | exact HB.out | apply below_alloc | apply pw_below_drewN | apply below_drew1 | refine below_set ?_ GE193.out) | exact HB.out)) hb); clear HO197; clear HO200; clear BK193; clear HB; have HO197 := n0_; have HO200 := n1_; have BK193 := n2_; have HB := n3_; clear n0_ n1_ n2_ n3_; (try clear hb); (try clear hb2); (try clear hk); (try clear hi); have hcz22_0 : w21.cell? ⟨gb193, 0, none⟩ = some (.int .i64 a0_0) := (blk_cell BK193.out 0).trans rfl; have hcz22_1 : w21.cell? ⟨gb193, 1, none⟩ = some (.int .i64 a0_1) := (blk_cell BK193.out 1).trans rfl; have hcz22_2 : w21.cell? ⟨gb193, 2, none⟩ = some (.int .i64 a0_2) := (blk_cell BK193.out 2).trans rfl; have hcz22_3 : w21.cell? ⟨gb193, 3, none⟩ = some (.int .i64 a0_3) := (blk_cell BK193.out 3).trans rfl; have hcz22_4 : w21.cell? ⟨gb193, 4, none⟩ = some (.int .i64 a0_4) := (blk_cell BK193.out 4).trans rfl; have hcz22_5 : w21.cell? ⟨gb193, 5, none⟩ = some (.int .i64 a0_5) := (blk_cell BK193.out 5).trans rfl; have hcz22_6 : w21.cell? ⟨gb193, 6, none⟩ = some (.int .i64 a0_6) := (blk_cell BK193.out 6).trans rfl; have hfz22_0 := blk_frozen BK193.out 0; have hfz22_1 := blk_frozen BK193.out 1; have hfz22_2 := blk_frozen BK193.out 2; have hfz22_3 := blk_frozen BK193.out 3; have hfz22_4 := blk_frozen BK193.out 4; have hfz22_5 := blk_frozen BK193.out 5; have hfz22_6 := blk_frozen BK193.out 6; obtain ⟨Ao23, co23, eo23⟩ := Kd.R_slice HO200.out; subst eo23) | ((with_reducible refine gate_callee (f := 19) rfl ?_); refine goesL_ (some 38) rfl rfl Try.func19 (by kernel_rfl) rfl #[.agg #[.int .i64 a0_0, .int .i64 a0_1, .int .i64 a0_2, .int .i64 a0_3, .int .i64 a0_4, .int .i64 a0_5, .int .i64 a0_6], .slice Ao20 t195.length co20, .slice Ao23 t198.length co23] rfl (by (try simp only [List.map_toArray, List.map_cons, List.map_nil]); first | done | rfl | (simp only [List.length_drop, List.length_take]; rfl)) ?_; (with_reducible refine (stream_Goes.calls a0_0 a0_1 a0_2 a0_3 a0_4 a0_5 a0_6 _ _ t195 _ _ t198 t202 t203 t204 _ ?side1 ?side2 ?side3 ?side4 A13.out).mono ?_); (case side1 => repeat (first | exact (Kd.R_reads' HO197.out).2.2 | (with_reducible refine Kd.C_alloc ?_ _) | (with_reducible refine Kd.C_drewN ?_ _) | (with_reducible refine Kd.C_drew ?_))); (case side2 => exact (Kd.R_reads' HO197.out).2.1); (case side3 => repeat (first | exact (Kd.R_reads' HO200.out).2.2 | (with_reducible refine Kd.C_alloc ?_ _) | (with_reducible refine Kd.C_drewN ?_ _) | (with_reducible refine Kd.C_drew ?_))); (case side4 => exact (Kd.R_reads' HO200.out).2.1); rintro e w24 ⟨rfl, hb⟩; refine ⟨_, rfl, ?_⟩; have n0_ := Aside0.mk (Kd.R_below (by (with_reducible repeat (first | apply Kd.R_alloc | apply Kd.R_drewN | apply Kd.R_drew)); exact HO197.out) hb); have n1_ := Aside0.mk (Kd.R_below (by (with_reducible repeat (first | apply Kd.R_alloc | apply Kd.R_drewN | apply Kd.R_drew)); exact HO200.out) hb); have n2_ := Aside0.mk (blk_below (g := gb193) (o := .cells #[.int .i64 a0_0, .int .i64 a0_1, .int .i64 a0_2, .int .i64 a0_3, .int .i64 a0_4, .int .i64 a0_5, .int .i64 a0_6] 25 (0, 0)) (by (with_reducible repeat (first | refine blk_drewN ?_ _ | refine blk_drew ?_ | refine blk_alloc ?_ _)); exact BK193.out) hb); have n3_ := Aside0.mk (below_step (by repeat (first | (with_reducible first | exact HB.out | apply below_alloc | apply pw_below_drewN | apply below_drew1 | refine below_set ?_ GE193.out) | exact HB.out)) hb); clear HO197; clear HO200; clear BK193; clear HB; have HO197 := n0_; have HO200 := n1_; have BK193 := n2_; have HB := n3_; clear n0_ n1_ n2_ n3_; (try clear hb); (try clear hb2); (try clear hk); (try clear hi); have hcz25_0 : w24.cell? ⟨gb193, 0, none⟩ = some (.int .i64 a0_0) := (blk_cell BK193.out 0).trans rfl; have hcz25_1 : w24.cell? ⟨gb193, 1, none⟩ = some (.int .i64 a0_1) := (blk_cell BK193.out 1).trans rfl; have hcz25_2 : w24.cell? ⟨gb193, 2, none⟩ = some (.int .i64 a0_2) := (blk_cell BK193.out 2).trans rfl; have hcz25_3 : w24.cell? ⟨gb193, 3, none⟩ = some (.int .i64 a0_3) := (blk_cell BK193.out 3).trans rfl; have hcz25_4 : w24.cell? ⟨gb193, 4, none⟩ = some (.int .i64 a0_4) := (blk_cell BK193.out 4).trans rfl; have hcz25_5 : w24.cell? ⟨gb193, 5, none⟩ = some (.int .i64 a0_5) := (blk_cell BK193.out 5).trans rfl; have hcz25_6 : w24.cell? ⟨gb193, 6, none⟩ = some (.int .i64 a0_6) := (blk_cell BK193.out 6).trans rfl; have hfz25_0 := blk_frozen BK193.out 0; have hfz25_1 := blk_frozen BK193.out 1; have hfz25_2 := blk_frozen BK193.out 2; have hfz25_3 := blk_frozen BK193.out 3; have hfz25_4 := blk_frozen BK193.out 4; have hfz25_5 := blk_frozen BK193.out 5; have hfz25_6 := blk_frozen BK193.out 6) | ((with_reducible refine gate_callee (f := 20) rfl ?_); refine goesL_ (some 46) rfl rfl Try.func20 (by kernel_rfl) rfl #[.agg #[.int .i64 a0_0, .int .i64 a0_1, .int .i64 a0_2, .int .i64 a0_3, .int .i64 a0_4, .int .i64 a0_5, .int .i64 a0_6], .slice Ao20 t195.length co20, .slice Ao23 t198.length co23] rfl (by (try simp only [List.map_toArray, List.map_cons, List.map_nil]); first | done | rfl | (simp only [List.length_drop, List.length_take]; rfl)) ?_; (with_reducible refine (stream_Levels.calls a0_0 a0_1 a0_2 a0_3 a0_4 a0_5 a0_6 _ _ t195 _ _ t198 t205 t208 _ ?side1 ?side2 ?side3 ?side4 A14.out).mono ?_); (case side1 => repeat (first | exact (Kd.R_reads' HO197.out).2.2 | (with_reducible refine Kd.C_alloc ?_ _) | (with_reducible refine Kd.C_drewN ?_ _) | (with_reducible refine Kd.C_drew ?_))); (case side2 => exact (Kd.R_reads' HO197.out).2.1); (case side3 => repeat (first | exact (Kd.R_reads' HO200.out).2.2 | (with_reducible refine Kd.C_alloc ?_ _) | (with_reducible refine Kd.C_drewN ?_ _) | (with_reducible refine Kd.C_drew ?_))); (case side4 => exact (Kd.R_reads' HO200.out).2.1); rintro e w26 ⟨v206, rfl, ho0, hb⟩; refine ⟨_, rfl, ?_⟩; have n0_ := Aside0.mk (Kd.R_elder' (by (with_reducible repeat (first | apply Kd.R_alloc | apply Kd.R_drewN | apply Kd.R_drew)); exact HO197.out) (Kd.R_base ho0) hb); have n1_ := Aside0.mk (Kd.R_below (by (with_reducible repeat (first | apply Kd.R_alloc | apply Kd.R_drewN | apply Kd.R_drew)); exact HO200.out) hb); have n2_ := Aside0.mk (Kd.R_lower (Kd.R_new' ho0 (Kd.R_lt (by (with_reducible repeat (first | apply Kd.R_alloc | apply Kd.R_drewN | apply Kd.R_drew)); exact HO197.out))) (below_size (by repeat (first | (with_reducible first | exact HB.out | apply below_alloc | apply pw_below_drewN | apply below_drew1 | refine below_set ?_ GE193.out) | exact HB.out)))); have n3_ := Aside0.mk (blk_below (g := gb193) (o := .cells #[.int .i64 a0_0, .int .i64 a0_1, .int .i64 a0_2, .int .i64 a0_3, .int .i64 a0_4, .int .i64 a0_5, .int .i64 a0_6] 25 (0, 0)) (by (with_reducible repeat (first | refine blk_drewN ?_ _ | refine blk_drew ?_ | refine blk_alloc ?_ _)); exact BK193.out) hb); have n4_ := Aside0.mk (below_step (by repeat (first | (with_reducible first | exact HB.out | apply below_alloc | apply pw_below_drewN | apply below_drew1 | refine below_set ?_ GE193.out) | exact HB.out)) hb); clear HO197; clear HO200; clear BK193; clear HB; have HO197 := n0_; have HO200 := n1_; have HO207 := n2_; have BK193 := n3_; have HB := n4_; clear n0_ n1_ n2_ n3_ n4_; (try clear hb); (try clear hb2); (try clear hk); (try clear hi); (try clear ho0); have hcz27_0 : w26.cell? ⟨gb193, 0, none⟩ = some (.int .i64 a0_0) := (blk_cell BK193.out 0).trans rfl; have hcz27_1 : w26.cell? ⟨gb193, 1, none⟩ = some (.int .i64 a0_1) := (blk_cell BK193.out 1).trans rfl; have hcz27_2 : w26.cell? ⟨gb193, 2, none⟩ = some (.int .i64 a0_2) := (blk_cell BK193.out 2).trans rfl; have hcz27_3 : w26.cell? ⟨gb193, 3, none⟩ = some (.int .i64 a0_3) := (blk_cell BK193.out 3).trans rfl; have hcz27_4 : w26.cell? ⟨gb193, 4, none⟩ = some (.int .i64 a0_4) := (blk_cell BK193.out 4).trans rfl; have hcz27_5 : w26.cell? ⟨gb193, 5, none⟩ = some (.int .i64 a0_5) := (blk_cell BK193.out 5).trans rfl; have hcz27_6 : w26.cell? ⟨gb193, 6, none⟩ = some (.int .i64 a0_6) := (blk_cell BK193.out 6).trans rfl; have hfz27_0 := blk_frozen BK193.out 0; have hfz27_1 := blk_frozen BK193.out 1; have hfz27_2 := blk_frozen BK193.out 2; have hfz27_3 := blk_frozen BK193.out 3; have hfz27_4 := blk_frozen BK193.out 4; have hfz27_5 := blk_frozen BK193.out 5; have hfz27_6 := blk_frozen BK193.out 6) | ((with_reducible refine gate_callee (f := 21) rfl ?_); refine goesL_ (some 51) rfl rfl Try.func21 (by kernel_rfl) rfl #[.agg #[.int .i64 a0_0, .int .i64 a0_1, .int .i64 a0_2, .int .i64 a0_3, .int .i64 a0_4, .int .i64 a0_5, .int .i64 a0_6], .slice A1 l1.length c1] rfl (by (try simp only [List.map_toArray, List.map_cons, List.map_nil]); first | done | rfl | (simp only [List.length_drop, List.length_take]; rfl)) ?_; (with_reducible refine (walkmillref02_Check.calls kj3 a0_0 a0_1 a0_2 a0_3 a0_4 a0_5 a0_6 _ _ l1 t209 _ ?side1 ?side2 A15.out).mono ?_); (case side1 => repeat (first | exact (Kd.C_below HR1.out HB.out) | (with_reducible refine Kd.C_alloc ?_ _) | (with_reducible refine Kd.C_drewN ?_ _) | (with_reducible refine Kd.C_drew ?_))); (case side2 => exact HC1.out); rintro e w28 ⟨rfl, hb⟩; refine ⟨_, rfl, ?_⟩; have n0_ := Aside0.mk (Kd.R_below (by (with_reducible repeat (first | apply Kd.R_alloc | apply Kd.R_drewN | apply Kd.R_drew)); exact HO197.out) hb); have n1_ := Aside0.mk (Kd.R_below (by (with_reducible repeat (first | apply Kd.R_alloc | apply Kd.R_drewN | apply Kd.R_drew)); exact HO200.out) hb); have n2_ := Aside0.mk (Kd.R_below (by (with_reducible repeat (first | apply Kd.R_alloc | apply Kd.R_drewN | apply Kd.R_drew)); exact HO207.out) hb); have n3_ := Aside0.mk (blk_below (g := gb193) (o := .cells #[.int .i64 a0_0, .int .i64 a0_1, .int .i64 a0_2, .int .i64 a0_3, .int .i64 a0_4, .int .i64 a0_5, .int .i64 a0_6] 25 (0, 0)) (by (with_reducible repeat (first | refine blk_drewN ?_ _ | refine blk_drew ?_ | refine blk_alloc ?_ _)); exact BK193.out) hb); have n4_ := Aside0.mk (below_step (by repeat (first | (with_reducible first | exact HB.out | apply below_alloc | apply pw_below_drewN | apply below_drew1 | refine below_set ?_ GE193.out) | exact HB.out)) hb); clear HO197; clear HO200; clear HO207; clear BK193; clear HB; have HO197 := n0_; have HO200 := n1_; have HO207 := n2_; have BK193 := n3_; have HB := n4_; clear n0_ n1_ n2_ n3_ n4_; (try clear hb); (try clear hb2); (try clear hk); (try clear hi)))
        (try simp only [Act.put, List.setIfInBounds_toArray, List.set_cons_zero, List.set_cons_succ])
        go_cut [66] (fun v66 wc => ∃ (kq : Nat) (x66_15 : Bool), v66 = .bool x66_15 ∧ Aside0 (walkmilllaw02_StreamGoes.j1 kq l1 l2 t202 t203 t204 t205 t208 t209 x66_15 a0_0 a0_1 a0_2 a0_3 a0_4 a0_5 a0_6 = some r) ∧ Aside0 (kq ≤ kj3) ∧ Aside0 (Kd.R k23 23 wc w.heap.size (fun _ => True) v206 t205) ∧ Aside0 (wc.heap[gb193]? = some (.cells #[.int .i64 a0_0, .int .i64 a0_1, .int .i64 a0_2, .int .i64 a0_3, .int .i64 a0_4, .int .i64 a0_5, .int .i64 a0_6] 25 (0, 0))) ∧ Aside0 (Below w.heap.size w wc))
        case first =>
          have H := HC16.out
          clear HC16
          replace H := Option.bind_eq_some_iff.mp H
          obtain ⟨t210, A290, H⟩ := H
          replace H : (if t210 = true then ((walkmillref02_Like.f kj3 t198 l2).bind fun t211 => (if t211 = true then (walkmilllaw02_StreamGoes.j1 kj3 l1 l2 t202 t203 t204 t205 t208 t209 (t201 != t209) a0_0 a0_1 a0_2 a0_3 a0_4 a0_5 a0_6) else (walkmilllaw02_StreamGoes.j1 kj3 l1 l2 t202 t203 t204 t205 t208 t209 true a0_0 a0_1 a0_2 a0_3 a0_4 a0_5 a0_6))) else (walkmilllaw02_StreamGoes.j1 kj3 l1 l2 t202 t203 t204 t205 t208 t209 true a0_0 a0_1 a0_2 a0_3 a0_4 a0_5 a0_6)) = some r := H
          have A29 := Aside0.mk A290
          clear A290
          by_cases c30 : t210 = true
          · subst c30
            have H1 : ((walkmillref02_Like.f kj3 t198 l2).bind fun t211 => (if t211 = true then (walkmilllaw02_StreamGoes.j1 kj3 l1 l2 t202 t203 t204 t205 t208 t209 (t201 != t209) a0_0 a0_1 a0_2 a0_3 a0_4 a0_5 a0_6) else (walkmilllaw02_StreamGoes.j1 kj3 l1 l2 t202 t203 t204 t205 t208 t209 true a0_0 a0_1 a0_2 a0_3 a0_4 a0_5 a0_6))) = some r := by rw [if_pos rfl] at H; exact H
            clear H
            have H := H1
            clear H1
            replace H := Option.bind_eq_some_iff.mp H
            obtain ⟨t211, A310, H⟩ := H
            replace H : (if t211 = true then (walkmilllaw02_StreamGoes.j1 kj3 l1 l2 t202 t203 t204 t205 t208 t209 (t201 != t209) a0_0 a0_1 a0_2 a0_3 a0_4 a0_5 a0_6) else (walkmilllaw02_StreamGoes.j1 kj3 l1 l2 t202 t203 t204 t205 t208 t209 true a0_0 a0_1 a0_2 a0_3 a0_4 a0_5 a0_6)) = some r := H
            have A31 := Aside0.mk A310
            clear A310
            by_cases c32 : t211 = true
            · subst c32
              have H1 : (walkmilllaw02_StreamGoes.j1 kj3 l1 l2 t202 t203 t204 t205 t208 t209 (t201 != t209) a0_0 a0_1 a0_2 a0_3 a0_4 a0_5 a0_6) = some r := by rw [if_pos rfl] at H; exact H
              clear H
              have H := H1
              clear H1
              have H' := Aside0.mk H
              clear H
              go_wp2_with (first | ((with_reducible refine gate_callee (f := 22) rfl ?_); refine goesL_ (some 54) rfl rfl Try.func22 (by kernel_rfl) rfl #[.slice Ao20 t195.length co20, .slice A1 l1.length c1] rfl (by (try simp only [List.map_toArray, List.map_cons, List.map_nil]); first | done | rfl | (simp only [List.length_drop, List.length_take]; rfl)) ?_; (with_reducible refine (walkmillref02_Same.calls kj3 _ _ t195 _ _ l1 true _ ?side1 ?side2 ?side3 ?side4 A29.out).mono ?_); (case side1 => repeat (first | exact (Kd.R_reads' HO197.out).2.2 | (with_reducible refine Kd.C_alloc ?_ _) | (with_reducible refine Kd.C_drewN ?_ _) | (with_reducible refine Kd.C_drew ?_))); (case side2 => exact (Kd.R_reads' HO197.out).2.1); (case side3 => repeat (first | exact (Kd.C_below HR1.out HB.out) | (with_reducible refine Kd.C_alloc ?_ _) | (with_reducible refine Kd.C_drewN ?_ _) | (with_reducible refine Kd.C_drew ?_))); (case side4 => exact HC1.out); rintro e w' ⟨rfl, ⟨nd, rfl⟩⟩; refine ⟨_, rfl, ?_⟩) | (go_at_call 23; (with_reducible refine (walkmillref02_Like.calls kj3 _ _ t198 _ _ l2 true _ ?side1 ?side2 ?side3 ?side4 A31.out).mono ?_); (case side1 => repeat (first | exact (Kd.R_reads' HO200.out).2.2 | (with_reducible refine Kd.C_alloc ?_ _) | (with_reducible refine Kd.C_drewN ?_ _) | (with_reducible refine Kd.C_drew ?_))); (case side2 => exact (Kd.R_reads' HO200.out).2.1); (case side3 => repeat (first | exact (Kd.C_below HR2.out (by repeat (first | (with_reducible first | exact HB.out | apply below_alloc | apply pw_below_drewN | apply below_drew1 | refine below_set ?_ GE193.out) | exact HB.out))) | (with_reducible refine Kd.C_alloc ?_ _) | (with_reducible refine Kd.C_drewN ?_ _) | (with_reducible refine Kd.C_drew ?_))); (case side4 => exact HC2.out); rintro e w' ⟨rfl, ⟨nd, rfl⟩⟩))
              go_meet
              case rel => exact ⟨_, ((t201 != t209)), (by first | rfl | (simp; done) | (simp [*]; done)), H', ⟨by have := HJ3.out; first | omega | exact Nat.le_refl _⟩, ⟨by (with_reducible repeat (first | apply Kd.R_alloc | apply Kd.R_drewN | apply Kd.R_drew)); exact Kd.R_mono HO207.out (fun _ hk => trivial)⟩, ⟨by (with_reducible repeat (first | refine blk_drewN ?_ _ | refine blk_drew ?_ | refine blk_alloc ?_ _)); exact BK193.out⟩, ⟨by repeat (first | (with_reducible first | exact HB.out | apply below_alloc | apply pw_below_drewN | apply below_drew1 | refine below_set ?_ GE193.out) | exact HB.out)⟩⟩
            · replace c32 := Bool.eq_false_iff.mpr c32
              subst c32
              have H1 : (walkmilllaw02_StreamGoes.j1 kj3 l1 l2 t202 t203 t204 t205 t208 t209 true a0_0 a0_1 a0_2 a0_3 a0_4 a0_5 a0_6) = some r := by rw [if_neg (show ¬ (false = true) by decide)] at H; exact H
              clear H
              have H := H1
              clear H1
              have H' := Aside0.mk H
              clear H
              go_wp2_with (first | ((with_reducible refine gate_callee (f := 22) rfl ?_); refine goesL_ (some 54) rfl rfl Try.func22 (by kernel_rfl) rfl #[.slice Ao20 t195.length co20, .slice A1 l1.length c1] rfl (by (try simp only [List.map_toArray, List.map_cons, List.map_nil]); first | done | rfl | (simp only [List.length_drop, List.length_take]; rfl)) ?_; (with_reducible refine (walkmillref02_Same.calls kj3 _ _ t195 _ _ l1 true _ ?side1 ?side2 ?side3 ?side4 A29.out).mono ?_); (case side1 => repeat (first | exact (Kd.R_reads' HO197.out).2.2 | (with_reducible refine Kd.C_alloc ?_ _) | (with_reducible refine Kd.C_drewN ?_ _) | (with_reducible refine Kd.C_drew ?_))); (case side2 => exact (Kd.R_reads' HO197.out).2.1); (case side3 => repeat (first | exact (Kd.C_below HR1.out HB.out) | (with_reducible refine Kd.C_alloc ?_ _) | (with_reducible refine Kd.C_drewN ?_ _) | (with_reducible refine Kd.C_drew ?_))); (case side4 => exact HC1.out); rintro e w' ⟨rfl, ⟨nd, rfl⟩⟩; refine ⟨_, rfl, ?_⟩) | (go_at_call 23; (with_reducible refine (walkmillref02_Like.calls kj3 _ _ t198 _ _ l2 false _ ?side1 ?side2 ?side3 ?side4 A31.out).mono ?_); (case side1 => repeat (first | exact (Kd.R_reads' HO200.out).2.2 | (with_reducible refine Kd.C_alloc ?_ _) | (with_reducible refine Kd.C_drewN ?_ _) | (with_reducible refine Kd.C_drew ?_))); (case side2 => exact (Kd.R_reads' HO200.out).2.1); (case side3 => repeat (first | exact (Kd.C_below HR2.out (by repeat (first | (with_reducible first | exact HB.out | apply below_alloc | apply pw_below_drewN | apply below_drew1 | refine below_set ?_ GE193.out) | exact HB.out))) | (with_reducible refine Kd.C_alloc ?_ _) | (with_reducible refine Kd.C_drewN ?_ _) | (with_reducible refine Kd.C_drew ?_))); (case side4 => exact HC2.out); rintro e w' ⟨rfl, ⟨nd, rfl⟩⟩))
              go_meet
              case rel => exact ⟨_, (true), (by first | rfl | (simp; done) | (simp [*]; done)), H', ⟨by have := HJ3.out; first | omega | exact Nat.le_refl _⟩, ⟨by (with_reducible repeat (first | apply Kd.R_alloc | apply Kd.R_drewN | apply Kd.R_drew)); exact Kd.R_mono HO207.out (fun _ hk => trivial)⟩, ⟨by (with_reducible repeat (first | refine blk_drewN ?_ _ | refine blk_drew ?_ | refine blk_alloc ?_ _)); exact BK193.out⟩, ⟨by repeat (first | (with_reducible first | exact HB.out | apply below_alloc | apply pw_below_drewN | apply below_drew1 | refine below_set ?_ GE193.out) | exact HB.out)⟩⟩
          · replace c30 := Bool.eq_false_iff.mpr c30
            subst c30
            have H1 : (walkmilllaw02_StreamGoes.j1 kj3 l1 l2 t202 t203 t204 t205 t208 t209 true a0_0 a0_1 a0_2 a0_3 a0_4 a0_5 a0_6) = some r := by rw [if_neg (show ¬ (false = true) by decide)] at H; exact H
            clear H
            have H := H1
            clear H1
            have H' := Aside0.mk H
            clear H
            go_wp2_with (first | ((with_reducible refine gate_callee (f := 22) rfl ?_); refine goesL_ (some 54) rfl rfl Try.func22 (by kernel_rfl) rfl #[.slice Ao20 t195.length co20, .slice A1 l1.length c1] rfl (by (try simp only [List.map_toArray, List.map_cons, List.map_nil]); first | done | rfl | (simp only [List.length_drop, List.length_take]; rfl)) ?_; (with_reducible refine (walkmillref02_Same.calls kj3 _ _ t195 _ _ l1 false _ ?side1 ?side2 ?side3 ?side4 A29.out).mono ?_); (case side1 => repeat (first | exact (Kd.R_reads' HO197.out).2.2 | (with_reducible refine Kd.C_alloc ?_ _) | (with_reducible refine Kd.C_drewN ?_ _) | (with_reducible refine Kd.C_drew ?_))); (case side2 => exact (Kd.R_reads' HO197.out).2.1); (case side3 => repeat (first | exact (Kd.C_below HR1.out HB.out) | (with_reducible refine Kd.C_alloc ?_ _) | (with_reducible refine Kd.C_drewN ?_ _) | (with_reducible refine Kd.C_drew ?_))); (case side4 => exact HC1.out); rintro e w' ⟨rfl, ⟨nd, rfl⟩⟩; refine ⟨_, rfl, ?_⟩))
            go_meet
            case rel => exact ⟨_, (true), (by first | rfl | (simp; done) | (simp [*]; done)), H', ⟨by have := HJ3.out; first | omega | exact Nat.le_refl _⟩, ⟨by (with_reducible repeat (first | apply Kd.R_alloc | apply Kd.R_drewN | apply Kd.R_drew)); exact Kd.R_mono HO207.out (fun _ hk => trivial)⟩, ⟨by (with_reducible repeat (first | refine blk_drewN ?_ _ | refine blk_drew ?_ | refine blk_alloc ?_ _)); exact BK193.out⟩, ⟨by repeat (first | (with_reducible first | exact HB.out | apply below_alloc | apply pw_below_drewN | apply below_drew1 | refine below_set ?_ GE193.out) | exact HB.out)⟩⟩
        case rest =>
          clear HC16
          try clear c1
          try clear c2
          try clear p2
          try clear c3
          try clear c6
          try clear c6b0
          try clear c6b1
          try clear c7
          try clear c15
          try clear c16
          try clear c17
          try clear c18
          try clear c19
          try clear c20
          try clear c21
          try clear c22
          try clear c30
          try clear c32
          try clear hcz19_0
          try clear hcz19_1
          try clear hcz19_2
          try clear hcz19_3
          try clear hcz19_4
          try clear hcz19_5
          try clear hcz19_6
          try clear hcz22_0
          try clear hcz22_1
          try clear hcz22_2
          try clear hcz22_3
          try clear hcz22_4
          try clear hcz22_5
          try clear hcz22_6
          try clear hcz25_0
          try clear hcz25_1
          try clear hcz25_2
          try clear hcz25_3
          try clear hcz25_4
          try clear hcz25_5
          try clear hcz25_6
          try clear hcz27_0
          try clear hcz27_1
          try clear hcz27_2
          try clear hcz27_3
          try clear hcz27_4
          try clear hcz27_5
          try clear hcz27_6
          try clear hfz19_0
          try clear hfz19_1
          try clear hfz19_2
          try clear hfz19_3
          try clear hfz19_4
          try clear hfz19_5
          try clear hfz19_6
          try clear hfz22_0
          try clear hfz22_1
          try clear hfz22_2
          try clear hfz22_3
          try clear hfz22_4
          try clear hfz22_5
          try clear hfz22_6
          try clear hfz25_0
          try clear hfz25_1
          try clear hfz25_2
          try clear hfz25_3
          try clear hfz25_4
          try clear hfz25_5
          try clear hfz25_6
          try clear hfz27_0
          try clear hfz27_1
          try clear hfz27_2
          try clear hfz27_3
          try clear hfz27_4
          try clear hfz27_5
          try clear hfz27_6
          try clear p2
          obtain ⟨kq, x66_15, rfl, HA, HJ15, HO_13, BK193, HB⟩ := hcut
          cases kq with
          | zero => exact absurd HA.out (by simp [walkmilllaw02_StreamGoes.j1])
          | succ kj15 =>
            have H := HA.out
            clear HA
            simp only [walkmilllaw02_StreamGoes.j1] at H
            by_cases c33 : x66_15 = true
            · subst c33
              have H1 : (some false) = some r := by rw [if_pos rfl] at H; exact H
              clear H
              have H := H1
              clear H1
              obtain rfl := Option.some.inj H
              go_wp2
              go_ret
              exact ⟨by first | rfl | (simp [errW_none, errW_some] <;> rfl) | (simp [*, errW_none, errW_some] <;> rfl), by repeat (first | (with_reducible first | exact HB.out | apply below_alloc | apply pw_below_drewN | apply below_drew1 | refine below_set ?_ GE193.out) | exact HB.out)⟩
            · replace c33 := Bool.eq_false_iff.mpr c33
              subst c33
              have H1 : (if t209 = 0 then ((walkmillref02_Plan.f kj15 a0_0 a0_1 a0_2 a0_3 a0_4 a0_5 a0_6 l2 (l1.length : Int) (l1.length : Int)).bind fun t212 => (walkmilllaw02_StreamGoes.j2 kj15 l1 l2 t202 t203 t204 t205 t208 t209 (!t212) a0_0 a0_1 a0_2 a0_3 a0_4 a0_5 a0_6)) else (walkmilllaw02_StreamGoes.j2 kj15 l1 l2 t202 t203 t204 t205 t208 t209 false a0_0 a0_1 a0_2 a0_3 a0_4 a0_5 a0_6)) = some r := by rw [if_neg (show ¬ (false = true) by decide)] at H; exact H
              clear H
              have H := H1
              clear H1
              have HC34 := Aside0.mk H
              clear H
              go_upto_region 10 with (fail)
              go_cut [78] (fun v78 wc => ∃ (kq : Nat) (x78_33 : Bool), v78 = .bool x78_33 ∧ Aside0 (walkmilllaw02_StreamGoes.j2 kq l1 l2 t202 t203 t204 t205 t208 t209 x78_33 a0_0 a0_1 a0_2 a0_3 a0_4 a0_5 a0_6 = some r) ∧ Aside0 (kq ≤ kj15) ∧ Aside0 (Kd.R k23 23 wc w.heap.size (fun _ => True) v206 t205) ∧ Aside0 (wc.heap[gb193]? = some (.cells #[.int .i64 a0_0, .int .i64 a0_1, .int .i64 a0_2, .int .i64 a0_3, .int .i64 a0_4, .int .i64 a0_5, .int .i64 a0_6] 25 (0, 0))) ∧ Aside0 (Below w.heap.size w wc))
              case first =>
                have H := HC34.out
                clear HC34
                by_cases c35 : t209 = 0
                · rw [if_pos c35] at H
                  have c35b0 : (t209 == 0) = true := beq_iff_eq.mpr c35
                  have c35b1 : (t209 != 0) = false := bne_eq_false_iff_eq.mpr c35
                  clear c35
                  (first | rw [c35b0] | (simp only [i64_w, i32_w]; rw [c35b0]) | skip)
                  replace H := Option.bind_eq_some_iff.mp H
                  obtain ⟨t212, A360, H⟩ := H
                  replace H : (walkmilllaw02_StreamGoes.j2 kj15 l1 l2 t202 t203 t204 t205 t208 t209 (!t212) a0_0 a0_1 a0_2 a0_3 a0_4 a0_5 a0_6) = some r := H
                  have A36 := Aside0.mk A360
                  clear A360
                  have H' := Aside0.mk H
                  clear H
                  have hcz37_0 : wc.cell? ⟨gb193, 0, none⟩ = some (.int .i64 a0_0) := (blk_cell BK193.out 0).trans rfl
                  have hcz37_1 : wc.cell? ⟨gb193, 1, none⟩ = some (.int .i64 a0_1) := (blk_cell BK193.out 1).trans rfl
                  have hcz37_2 : wc.cell? ⟨gb193, 2, none⟩ = some (.int .i64 a0_2) := (blk_cell BK193.out 2).trans rfl
                  have hcz37_3 : wc.cell? ⟨gb193, 3, none⟩ = some (.int .i64 a0_3) := (blk_cell BK193.out 3).trans rfl
                  have hcz37_4 : wc.cell? ⟨gb193, 4, none⟩ = some (.int .i64 a0_4) := (blk_cell BK193.out 4).trans rfl
                  have hcz37_5 : wc.cell? ⟨gb193, 5, none⟩ = some (.int .i64 a0_5) := (blk_cell BK193.out 5).trans rfl
                  have hcz37_6 : wc.cell? ⟨gb193, 6, none⟩ = some (.int .i64 a0_6) := (blk_cell BK193.out 6).trans rfl
                  have hfz37_0 := blk_frozen BK193.out 0
                  have hfz37_1 := blk_frozen BK193.out 1
                  have hfz37_2 := blk_frozen BK193.out 2
                  have hfz37_3 := blk_frozen BK193.out 3
                  have hfz37_4 := blk_frozen BK193.out 4
                  have hfz37_5 := blk_frozen BK193.out 5
                  have hfz37_6 := blk_frozen BK193.out 6
                  go_wp2_with (first | (go_at_call 24; (with_reducible refine (walkmillref02_Plan.calls kj15 a0_0 a0_1 a0_2 a0_3 a0_4 a0_5 a0_6 _ _ l2 (l1.length : Int) (l1.length : Int) t212 _ ?side1 ?side2 A36.out).mono ?_); (case side1 => repeat (first | exact (Kd.C_below HR2.out HB.out) | (with_reducible refine Kd.C_alloc ?_ _) | (with_reducible refine Kd.C_drewN ?_ _) | (with_reducible refine Kd.C_drew ?_))); (case side2 => exact HC2.out); rintro e w38 ⟨rfl, hb⟩; have n0_ := Aside0.mk (Kd.R_below (by (with_reducible repeat (first | apply Kd.R_alloc | apply Kd.R_drewN | apply Kd.R_drew)); exact HO_13.out) hb); have n1_ := Aside0.mk (blk_below (g := gb193) (o := .cells #[.int .i64 a0_0, .int .i64 a0_1, .int .i64 a0_2, .int .i64 a0_3, .int .i64 a0_4, .int .i64 a0_5, .int .i64 a0_6] 25 (0, 0)) (by (with_reducible repeat (first | refine blk_drewN ?_ _ | refine blk_drew ?_ | refine blk_alloc ?_ _)); exact BK193.out) hb); have n2_ := Aside0.mk (below_step (by repeat (first | (with_reducible first | exact HB.out | apply below_alloc | apply pw_below_drewN | apply below_drew1 | refine below_set ?_ GE193.out) | exact HB.out)) hb); clear HO_13; clear BK193; clear HB; have HO_13 := n0_; have BK193 := n1_; have HB := n2_; clear n0_ n1_ n2_; (try clear hb); (try clear hb2); (try clear hk); (try clear hi)))
                  go_meet
                  case rel => exact ⟨_, (!t212), (by first | rfl | (simp; done) | (simp [*]; done)), H', ⟨by have := HJ3.out; have := HJ15.out; first | omega | exact Nat.le_refl _⟩, ⟨by (with_reducible repeat (first | apply Kd.R_alloc | apply Kd.R_drewN | apply Kd.R_drew)); exact HO_13.out⟩, ⟨by (with_reducible repeat (first | refine blk_drewN ?_ _ | refine blk_drew ?_ | refine blk_alloc ?_ _)); exact BK193.out⟩, ⟨by repeat (first | (with_reducible first | exact HB.out | apply below_alloc | apply pw_below_drewN | apply below_drew1 | refine below_set ?_ GE193.out) | exact HB.out)⟩⟩
                · rw [if_neg c35] at H
                  have c35b0 : (t209 == 0) = false := beq_eq_false_iff_ne.mpr c35
                  have c35b1 : (t209 != 0) = true := bne_iff_ne.mpr c35
                  (first | rw [c35b0] | (simp only [i64_w, i32_w]; rw [c35b0]) | skip)
                  have H' := Aside0.mk H
                  clear H
                  go_wp2
                  go_meet
                  case rel => exact ⟨_, (false), (by first | rfl | (simp; done) | (simp [*]; done)), H', ⟨by have := HJ3.out; have := HJ15.out; first | omega | exact Nat.le_refl _⟩, ⟨by (with_reducible repeat (first | apply Kd.R_alloc | apply Kd.R_drewN | apply Kd.R_drew)); exact HO_13.out⟩, ⟨by (with_reducible repeat (first | refine blk_drewN ?_ _ | refine blk_drew ?_ | refine blk_alloc ?_ _)); exact BK193.out⟩, ⟨by repeat (first | (with_reducible first | exact HB.out | apply below_alloc | apply pw_below_drewN | apply below_drew1 | refine below_set ?_ GE193.out) | exact HB.out)⟩⟩
              case rest =>
                clear HC34
                try clear c1
                try clear c2
                try clear p2
                try clear c3
                try clear c6
                try clear c6b0
                try clear c6b1
                try clear c7
                try clear c15
                try clear c16
                try clear c17
                try clear c18
                try clear c19
                try clear c20
                try clear c21
                try clear c22
                try clear c30
                try clear c32
                try clear c33
                try clear c35
                try clear c35b0
                try clear c35b1
                try clear hcz19_0
                try clear hcz19_1
                try clear hcz19_2
                try clear hcz19_3
                try clear hcz19_4
                try clear hcz19_5
                try clear hcz19_6
                try clear hcz22_0
                try clear hcz22_1
                try clear hcz22_2
                try clear hcz22_3
                try clear hcz22_4
                try clear hcz22_5
                try clear hcz22_6
                try clear hcz25_0
                try clear hcz25_1
                try clear hcz25_2
                try clear hcz25_3
                try clear hcz25_4
                try clear hcz25_5
                try clear hcz25_6
                try clear hcz27_0
                try clear hcz27_1
                try clear hcz27_2
                try clear hcz27_3
                try clear hcz27_4
                try clear hcz27_5
                try clear hcz27_6
                try clear hcz37_0
                try clear hcz37_1
                try clear hcz37_2
                try clear hcz37_3
                try clear hcz37_4
                try clear hcz37_5
                try clear hcz37_6
                try clear hfz19_0
                try clear hfz19_1
                try clear hfz19_2
                try clear hfz19_3
                try clear hfz19_4
                try clear hfz19_5
                try clear hfz19_6
                try clear hfz22_0
                try clear hfz22_1
                try clear hfz22_2
                try clear hfz22_3
                try clear hfz22_4
                try clear hfz22_5
                try clear hfz22_6
                try clear hfz25_0
                try clear hfz25_1
                try clear hfz25_2
                try clear hfz25_3
                try clear hfz25_4
                try clear hfz25_5
                try clear hfz25_6
                try clear hfz27_0
                try clear hfz27_1
                try clear hfz27_2
                try clear hfz27_3
                try clear hfz27_4
                try clear hfz27_5
                try clear hfz27_6
                try clear hfz37_0
                try clear hfz37_1
                try clear hfz37_2
                try clear hfz37_3
                try clear hfz37_4
                try clear hfz37_5
                try clear hfz37_6
                try clear p2
                obtain ⟨kq, x78_33, rfl, HA, HJ33, HO_13, BK193, HB⟩ := hcut
                cases kq with
                | zero => exact absurd HA.out (by simp [walkmilllaw02_StreamGoes.j2])
                | succ kj33 =>
                  have H := HA.out
                  clear HA
                  simp only [walkmilllaw02_StreamGoes.j2] at H
                  have HC39 := Aside0.mk H
                  clear H
                  go_upto_if 78 with (fail)
                  go_cut [15] (fun v15 wc => ∃ (kq : Nat) (x15_38 : Int), v15 = .int .i64 x15_38 ∧ Aside0 (walkmilllaw02_StreamGoes.j3 kq l1 l2 t202 t203 t204 t205 t208 x15_38 a0_0 a0_1 a0_2 a0_3 a0_4 a0_5 a0_6 = some r) ∧ Aside0 (kq ≤ kj33) ∧ Aside0 (Kd.R k23 23 wc w.heap.size (fun _ => True) v206 t205) ∧ Aside0 (wc.heap[gb193]? = some (.cells #[.int .i64 a0_0, .int .i64 a0_1, .int .i64 a0_2, .int .i64 a0_3, .int .i64 a0_4, .int .i64 a0_5, .int .i64 a0_6] 25 (0, 0))) ∧ Aside0 (Below w.heap.size w wc))
                  case first =>
                    have H := HC39.out
                    clear HC39
                    by_cases c40 : x78_33 = true
                    · subst c40
                      have H1 : (walkmilllaw02_StreamGoes.j3 kj33 l1 l2 t202 t203 t204 t205 t208 4 a0_0 a0_1 a0_2 a0_3 a0_4 a0_5 a0_6) = some r := by rw [if_pos rfl] at H; exact H
                      clear H
                      have H := H1
                      clear H1
                      have H' := Aside0.mk H
                      clear H
                      go_wp2
                      go_meet
                      case rel => exact ⟨_, (4), (by first | rfl | (simp; done) | (simp [*]; done)), H', ⟨by have := HJ3.out; have := HJ15.out; have := HJ33.out; first | omega | exact Nat.le_refl _⟩, ⟨by (with_reducible repeat (first | apply Kd.R_alloc | apply Kd.R_drewN | apply Kd.R_drew)); exact HO_13.out⟩, ⟨by (with_reducible repeat (first | refine blk_drewN ?_ _ | refine blk_drew ?_ | refine blk_alloc ?_ _)); exact BK193.out⟩, ⟨by repeat (first | (with_reducible first | exact HB.out | apply below_alloc | apply pw_below_drewN | apply below_drew1 | refine below_set ?_ GE193.out) | exact HB.out)⟩⟩
                    · replace c40 := Bool.eq_false_iff.mpr c40
                      subst c40
                      have H1 : (walkmilllaw02_StreamGoes.j3 kj33 l1 l2 t202 t203 t204 t205 t208 t209 a0_0 a0_1 a0_2 a0_3 a0_4 a0_5 a0_6) = some r := by rw [if_neg (show ¬ (false = true) by decide)] at H; exact H
                      clear H
                      have H := H1
                      clear H1
                      have H' := Aside0.mk H
                      clear H
                      go_wp2
                      go_meet
                      case rel => exact ⟨_, (t209), (by first | rfl | (simp; done) | (simp [*]; done)), H', ⟨by have := HJ3.out; have := HJ15.out; have := HJ33.out; first | omega | exact Nat.le_refl _⟩, ⟨by (with_reducible repeat (first | apply Kd.R_alloc | apply Kd.R_drewN | apply Kd.R_drew)); exact HO_13.out⟩, ⟨by (with_reducible repeat (first | refine blk_drewN ?_ _ | refine blk_drew ?_ | refine blk_alloc ?_ _)); exact BK193.out⟩, ⟨by repeat (first | (with_reducible first | exact HB.out | apply below_alloc | apply pw_below_drewN | apply below_drew1 | refine below_set ?_ GE193.out) | exact HB.out)⟩⟩
                  case rest =>
                    clear HC39
                    try clear c1
                    try clear c2
                    try clear p2
                    try clear c3
                    try clear c4
                    try clear c6
                    try clear c6b0
                    try clear c6b1
                    try clear c7
                    try clear c15
                    try clear c16
                    try clear c17
                    try clear c18
                    try clear c19
                    try clear c20
                    try clear c21
                    try clear c22
                    try clear c30
                    try clear c32
                    try clear c33
                    try clear c35
                    try clear c35b0
                    try clear c35b1
                    try clear c40
                    try clear hcz19_0
                    try clear hcz19_1
                    try clear hcz19_2
                    try clear hcz19_3
                    try clear hcz19_4
                    try clear hcz19_5
                    try clear hcz19_6
                    try clear hcz22_0
                    try clear hcz22_1
                    try clear hcz22_2
                    try clear hcz22_3
                    try clear hcz22_4
                    try clear hcz22_5
                    try clear hcz22_6
                    try clear hcz25_0
                    try clear hcz25_1
                    try clear hcz25_2
                    try clear hcz25_3
                    try clear hcz25_4
                    try clear hcz25_5
                    try clear hcz25_6
                    try clear hcz27_0
                    try clear hcz27_1
                    try clear hcz27_2
                    try clear hcz27_3
                    try clear hcz27_4
                    try clear hcz27_5
                    try clear hcz27_6
                    try clear hcz37_0
                    try clear hcz37_1
                    try clear hcz37_2
                    try clear hcz37_3
                    try clear hcz37_4
                    try clear hcz37_5
                    try clear hcz37_6
                    try clear hfz19_0
                    try clear hfz19_1
                    try clear hfz19_2
                    try clear hfz19_3
                    try clear hfz19_4
                    try clear hfz19_5
                    try clear hfz19_6
                    try clear hfz22_0
                    try clear hfz22_1
                    try clear hfz22_2
                    try clear hfz22_3
                    try clear hfz22_4
                    try clear hfz22_5
                    try clear hfz22_6
                    try clear hfz25_0
                    try clear hfz25_1
                    try clear hfz25_2
                    try clear hfz25_3
                    try clear hfz25_4
                    try clear hfz25_5
                    try clear hfz25_6
                    try clear hfz27_0
                    try clear hfz27_1
                    try clear hfz27_2
                    try clear hfz27_3
                    try clear hfz27_4
                    try clear hfz27_5
                    try clear hfz27_6
                    try clear hfz37_0
                    try clear hfz37_1
                    try clear hfz37_2
                    try clear hfz37_3
                    try clear hfz37_4
                    try clear hfz37_5
                    try clear hfz37_6
                    try clear p2
                    obtain ⟨kq, x15_38, rfl, HA, HJ38, HO_13, BK193, HB⟩ := hcut
                    cases kq with
                    | zero => exact absurd HA.out (by simp [walkmilllaw02_StreamGoes.j3])
                    | succ kj38 =>
                      have H := HA.out
                      clear HA
                      simp only [walkmilllaw02_StreamGoes.j3] at H
                      by_cases c41 : x15_38 = 0
                      · rw [if_pos c41] at H
                        have c41b0 : (x15_38 == 0) = true := beq_iff_eq.mpr c41
                        have c41b1 : (x15_38 != 0) = false := bne_eq_false_iff_eq.mpr c41
                        clear c41
                        replace H := Option.bind_eq_some_iff.mp H
                        obtain ⟨⟨t214, t215⟩, A420, H⟩ := H
                        replace H : (if t214 ≥ 0 then (if t204 = 0 then (if t202 = t214 then (if (t203 == t215) = true then (if t208 = 9 then (if (t205.length : Int) = 0 then ((walkmilllaw02_known.f).bind fun t216 => (some t216)) else (some false)) else (some false)) else (some false)) else (some false)) else (some false)) else (if t204 = 7 then (if t202 = 0 then (if t203 = true then (some false) else (if t208 = 0 then ((walkmillref02_Levels.f kj38 a0_0 a0_1 a0_2 a0_3 a0_4 a0_5 a0_6 l1 l2).bind fun t217 => ((walkmillref02_Same.f kj38 t205 t217).bind fun t220 => (if t220 = true then ((walkmilllaw02_known.f).bind fun t221 => (some t221)) else (some false)))) else (some false))) else (some false)) else (some false))) = some r := H
                        have A42 := Aside0.mk A420
                        clear A420
                        by_cases c43 : t214 ≥ 0
                        · rw [if_pos c43] at H
                          have c43b0 : decide (0 ≤ t214) = true := decide_eq_true c43
                          clear c43
                          by_cases c44 : t204 = 0
                          · rw [if_pos c44] at H
                            have c44b0 : (t204 == 0) = true := beq_iff_eq.mpr c44
                            have c44b1 : (t204 != 0) = false := bne_eq_false_iff_eq.mpr c44
                            clear c44
                            by_cases c45 : t202 = t214
                            · rw [if_pos c45] at H
                              have c45b0 : (t202 == t214) = true := beq_iff_eq.mpr c45
                              have c45b1 : (t202 != t214) = false := bne_eq_false_iff_eq.mpr c45
                              clear c45
                              by_cases c46 : (t203 == t215) = true
                              · rw [if_pos c46] at H
                                have c46b0 : (t203 == t215) = true := c46
                                (try (have c46b1 : decide (t203 = t215) = true := by simpa using c46))
                                (try (have c46b2 : (t203 == t215) = true := by simpa using c46))
                                clear c46
                                by_cases c47 : t208 = 9
                                · rw [if_pos c47] at H
                                  have c47b0 : (t208 == 9) = true := beq_iff_eq.mpr c47
                                  have c47b1 : (t208 != 9) = false := bne_eq_false_iff_eq.mpr c47
                                  clear c47
                                  by_cases c48 : (t205.length : Int) = 0
                                  · rw [if_pos c48] at H
                                    have c48b0 : ((t205.length : Int) == 0) = true := beq_iff_eq.mpr c48
                                    have c48b1 : ((t205.length : Int) != 0) = false := bne_eq_false_iff_eq.mpr c48
                                    clear c48
                                    replace H := Option.bind_eq_some_iff.mp H
                                    obtain ⟨t216, A490, H⟩ := H
                                    replace H : (some t216) = some r := H
                                    have A49 := Aside0.mk A490
                                    clear A490
                                    obtain rfl := Option.some.inj H
                                    have hcz50_0 : wc.cell? ⟨gb193, 0, none⟩ = some (.int .i64 a0_0) := (blk_cell BK193.out 0).trans rfl
                                    have hcz50_1 : wc.cell? ⟨gb193, 1, none⟩ = some (.int .i64 a0_1) := (blk_cell BK193.out 1).trans rfl
                                    have hcz50_2 : wc.cell? ⟨gb193, 2, none⟩ = some (.int .i64 a0_2) := (blk_cell BK193.out 2).trans rfl
                                    have hcz50_3 : wc.cell? ⟨gb193, 3, none⟩ = some (.int .i64 a0_3) := (blk_cell BK193.out 3).trans rfl
                                    have hcz50_4 : wc.cell? ⟨gb193, 4, none⟩ = some (.int .i64 a0_4) := (blk_cell BK193.out 4).trans rfl
                                    have hcz50_5 : wc.cell? ⟨gb193, 5, none⟩ = some (.int .i64 a0_5) := (blk_cell BK193.out 5).trans rfl
                                    have hcz50_6 : wc.cell? ⟨gb193, 6, none⟩ = some (.int .i64 a0_6) := (blk_cell BK193.out 6).trans rfl
                                    have hfz50_0 := blk_frozen BK193.out 0
                                    have hfz50_1 := blk_frozen BK193.out 1
                                    have hfz50_2 := blk_frozen BK193.out 2
                                    have hfz50_3 := blk_frozen BK193.out 3
                                    have hfz50_4 := blk_frozen BK193.out 4
                                    have hfz50_5 := blk_frozen BK193.out 5
                                    have hfz50_6 := blk_frozen BK193.out 6
                                    go_wp2_with (first | ((with_reducible refine gate_callee (f := 25) rfl ?_); refine goesL_ (some 109) rfl rfl Try.func25 (by kernel_rfl) rfl #[.agg #[.int .i64 a0_0, .int .i64 a0_1, .int .i64 a0_2, .int .i64 a0_3, .int .i64 a0_4, .int .i64 a0_5, .int .i64 a0_6], .slice A1 l1.length c1, .slice A2 l2.length c2] rfl (by (try simp only [List.map_toArray, List.map_cons, List.map_nil]); first | done | rfl | (simp only [List.length_drop, List.length_take]; rfl)) ?_; (with_reducible refine (walkmillref02_Goes.calls kj38 a0_0 a0_1 a0_2 a0_3 a0_4 a0_5 a0_6 _ _ l1 _ _ l2 t214 t215 _ ?side1 ?side2 ?side3 ?side4 A42.out).mono ?_); (case side1 => repeat (first | exact (Kd.C_below HR1.out HB.out) | (with_reducible refine Kd.C_alloc ?_ _) | (with_reducible refine Kd.C_drewN ?_ _) | (with_reducible refine Kd.C_drew ?_))); (case side2 => exact HC1.out); (case side3 => repeat (first | exact (Kd.C_below HR2.out HB.out) | (with_reducible refine Kd.C_alloc ?_ _) | (with_reducible refine Kd.C_drewN ?_ _) | (with_reducible refine Kd.C_drew ?_))); (case side4 => exact HC2.out); rintro e w51 ⟨rfl, hb⟩; refine ⟨_, rfl, ?_⟩; have n0_ := Aside0.mk (Kd.R_below (by (with_reducible repeat (first | apply Kd.R_alloc | apply Kd.R_drewN | apply Kd.R_drew)); exact HO_13.out) hb); have n1_ := Aside0.mk (blk_below (g := gb193) (o := .cells #[.int .i64 a0_0, .int .i64 a0_1, .int .i64 a0_2, .int .i64 a0_3, .int .i64 a0_4, .int .i64 a0_5, .int .i64 a0_6] 25 (0, 0)) (by (with_reducible repeat (first | refine blk_drewN ?_ _ | refine blk_drew ?_ | refine blk_alloc ?_ _)); exact BK193.out) hb); have n2_ := Aside0.mk (below_step (by repeat (first | (with_reducible first | exact HB.out | apply below_alloc | apply pw_below_drewN | apply below_drew1 | refine below_set ?_ GE193.out) | exact HB.out)) hb); clear HO_13; clear BK193; clear HB; have HO_13 := n0_; have BK193 := n1_; have HB := n2_; clear n0_ n1_ n2_; (try clear hb); (try clear hb2); (try clear hk); (try clear hi); obtain ⟨Ao52, co52, eo52⟩ := Kd.R_slice HO_13.out; subst eo52) | (go_at_call 15; (with_reducible refine (walkmilllaw02_known.calls  t216 _ A49.out).mono ?_); rintro e w53 ⟨rfl, hb⟩; have n0_ := Aside0.mk (Kd.R_below (by (with_reducible repeat (first | apply Kd.R_alloc | apply Kd.R_drewN | apply Kd.R_drew)); exact HO_13.out) hb); have n1_ := Aside0.mk (blk_below (g := gb193) (o := .cells #[.int .i64 a0_0, .int .i64 a0_1, .int .i64 a0_2, .int .i64 a0_3, .int .i64 a0_4, .int .i64 a0_5, .int .i64 a0_6] 25 (0, 0)) (by (with_reducible repeat (first | refine blk_drewN ?_ _ | refine blk_drew ?_ | refine blk_alloc ?_ _)); exact BK193.out) hb); have n2_ := Aside0.mk (below_step (by repeat (first | (with_reducible first | exact HB.out | apply below_alloc | apply pw_below_drewN | apply below_drew1 | refine below_set ?_ GE193.out) | exact HB.out)) hb); clear HO_13; clear BK193; clear HB; have HO_13 := n0_; have BK193 := n1_; have HB := n2_; clear n0_ n1_ n2_; (try clear hb); (try clear hb2); (try clear hk); (try clear hi)))
                                    go_ret
                                    exact ⟨by first | rfl | (simp [errW_none, errW_some] <;> rfl) | (simp [*, errW_none, errW_some] <;> rfl), by repeat (first | (with_reducible first | exact HB.out | apply below_alloc | apply pw_below_drewN | apply below_drew1 | refine below_set ?_ GE193.out) | exact HB.out)⟩
                                  · rw [if_neg c48] at H
                                    have c48b0 : ((t205.length : Int) == 0) = false := beq_eq_false_iff_ne.mpr c48
                                    have c48b1 : ((t205.length : Int) != 0) = true := bne_iff_ne.mpr c48
                                    have c48b2 : ¬ (t205 = []) := fun h_ => c48 (by rw [h_]; rfl)
                                    obtain rfl := Option.some.inj H
                                    have hcz54_0 : wc.cell? ⟨gb193, 0, none⟩ = some (.int .i64 a0_0) := (blk_cell BK193.out 0).trans rfl
                                    have hcz54_1 : wc.cell? ⟨gb193, 1, none⟩ = some (.int .i64 a0_1) := (blk_cell BK193.out 1).trans rfl
                                    have hcz54_2 : wc.cell? ⟨gb193, 2, none⟩ = some (.int .i64 a0_2) := (blk_cell BK193.out 2).trans rfl
                                    have hcz54_3 : wc.cell? ⟨gb193, 3, none⟩ = some (.int .i64 a0_3) := (blk_cell BK193.out 3).trans rfl
                                    have hcz54_4 : wc.cell? ⟨gb193, 4, none⟩ = some (.int .i64 a0_4) := (blk_cell BK193.out 4).trans rfl
                                    have hcz54_5 : wc.cell? ⟨gb193, 5, none⟩ = some (.int .i64 a0_5) := (blk_cell BK193.out 5).trans rfl
                                    have hcz54_6 : wc.cell? ⟨gb193, 6, none⟩ = some (.int .i64 a0_6) := (blk_cell BK193.out 6).trans rfl
                                    have hfz54_0 := blk_frozen BK193.out 0
                                    have hfz54_1 := blk_frozen BK193.out 1
                                    have hfz54_2 := blk_frozen BK193.out 2
                                    have hfz54_3 := blk_frozen BK193.out 3
                                    have hfz54_4 := blk_frozen BK193.out 4
                                    have hfz54_5 := blk_frozen BK193.out 5
                                    have hfz54_6 := blk_frozen BK193.out 6
                                    go_wp2_with (first | ((with_reducible refine gate_callee (f := 25) rfl ?_); refine goesL_ (some 109) rfl rfl Try.func25 (by kernel_rfl) rfl #[.agg #[.int .i64 a0_0, .int .i64 a0_1, .int .i64 a0_2, .int .i64 a0_3, .int .i64 a0_4, .int .i64 a0_5, .int .i64 a0_6], .slice A1 l1.length c1, .slice A2 l2.length c2] rfl (by (try simp only [List.map_toArray, List.map_cons, List.map_nil]); first | done | rfl | (simp only [List.length_drop, List.length_take]; rfl)) ?_; (with_reducible refine (walkmillref02_Goes.calls kj38 a0_0 a0_1 a0_2 a0_3 a0_4 a0_5 a0_6 _ _ l1 _ _ l2 t214 t215 _ ?side1 ?side2 ?side3 ?side4 A42.out).mono ?_); (case side1 => repeat (first | exact (Kd.C_below HR1.out HB.out) | (with_reducible refine Kd.C_alloc ?_ _) | (with_reducible refine Kd.C_drewN ?_ _) | (with_reducible refine Kd.C_drew ?_))); (case side2 => exact HC1.out); (case side3 => repeat (first | exact (Kd.C_below HR2.out HB.out) | (with_reducible refine Kd.C_alloc ?_ _) | (with_reducible refine Kd.C_drewN ?_ _) | (with_reducible refine Kd.C_drew ?_))); (case side4 => exact HC2.out); rintro e w55 ⟨rfl, hb⟩; refine ⟨_, rfl, ?_⟩; have n0_ := Aside0.mk (Kd.R_below (by (with_reducible repeat (first | apply Kd.R_alloc | apply Kd.R_drewN | apply Kd.R_drew)); exact HO_13.out) hb); have n1_ := Aside0.mk (blk_below (g := gb193) (o := .cells #[.int .i64 a0_0, .int .i64 a0_1, .int .i64 a0_2, .int .i64 a0_3, .int .i64 a0_4, .int .i64 a0_5, .int .i64 a0_6] 25 (0, 0)) (by (with_reducible repeat (first | refine blk_drewN ?_ _ | refine blk_drew ?_ | refine blk_alloc ?_ _)); exact BK193.out) hb); have n2_ := Aside0.mk (below_step (by repeat (first | (with_reducible first | exact HB.out | apply below_alloc | apply pw_below_drewN | apply below_drew1 | refine below_set ?_ GE193.out) | exact HB.out)) hb); clear HO_13; clear BK193; clear HB; have HO_13 := n0_; have BK193 := n1_; have HB := n2_; clear n0_ n1_ n2_; (try clear hb); (try clear hb2); (try clear hk); (try clear hi); obtain ⟨Ao56, co56, eo56⟩ := Kd.R_slice HO_13.out; subst eo56))
                                    go_ret
                                    exact ⟨by first | rfl | (simp [errW_none, errW_some] <;> rfl) | (simp [*, errW_none, errW_some] <;> rfl), by repeat (first | (with_reducible first | exact HB.out | apply below_alloc | apply pw_below_drewN | apply below_drew1 | refine below_set ?_ GE193.out) | exact HB.out)⟩
                                · rw [if_neg c47] at H
                                  have c47b0 : (t208 == 9) = false := beq_eq_false_iff_ne.mpr c47
                                  have c47b1 : (t208 != 9) = true := bne_iff_ne.mpr c47
                                  obtain rfl := Option.some.inj H
                                  have hcz57_0 : wc.cell? ⟨gb193, 0, none⟩ = some (.int .i64 a0_0) := (blk_cell BK193.out 0).trans rfl
                                  have hcz57_1 : wc.cell? ⟨gb193, 1, none⟩ = some (.int .i64 a0_1) := (blk_cell BK193.out 1).trans rfl
                                  have hcz57_2 : wc.cell? ⟨gb193, 2, none⟩ = some (.int .i64 a0_2) := (blk_cell BK193.out 2).trans rfl
                                  have hcz57_3 : wc.cell? ⟨gb193, 3, none⟩ = some (.int .i64 a0_3) := (blk_cell BK193.out 3).trans rfl
                                  have hcz57_4 : wc.cell? ⟨gb193, 4, none⟩ = some (.int .i64 a0_4) := (blk_cell BK193.out 4).trans rfl
                                  have hcz57_5 : wc.cell? ⟨gb193, 5, none⟩ = some (.int .i64 a0_5) := (blk_cell BK193.out 5).trans rfl
                                  have hcz57_6 : wc.cell? ⟨gb193, 6, none⟩ = some (.int .i64 a0_6) := (blk_cell BK193.out 6).trans rfl
                                  have hfz57_0 := blk_frozen BK193.out 0
                                  have hfz57_1 := blk_frozen BK193.out 1
                                  have hfz57_2 := blk_frozen BK193.out 2
                                  have hfz57_3 := blk_frozen BK193.out 3
                                  have hfz57_4 := blk_frozen BK193.out 4
                                  have hfz57_5 := blk_frozen BK193.out 5
                                  have hfz57_6 := blk_frozen BK193.out 6
                                  go_wp2_with (first | ((with_reducible refine gate_callee (f := 25) rfl ?_); refine goesL_ (some 109) rfl rfl Try.func25 (by kernel_rfl) rfl #[.agg #[.int .i64 a0_0, .int .i64 a0_1, .int .i64 a0_2, .int .i64 a0_3, .int .i64 a0_4, .int .i64 a0_5, .int .i64 a0_6], .slice A1 l1.length c1, .slice A2 l2.length c2] rfl (by (try simp only [List.map_toArray, List.map_cons, List.map_nil]); first | done | rfl | (simp only [List.length_drop, List.length_take]; rfl)) ?_; (with_reducible refine (walkmillref02_Goes.calls kj38 a0_0 a0_1 a0_2 a0_3 a0_4 a0_5 a0_6 _ _ l1 _ _ l2 t214 t215 _ ?side1 ?side2 ?side3 ?side4 A42.out).mono ?_); (case side1 => repeat (first | exact (Kd.C_below HR1.out HB.out) | (with_reducible refine Kd.C_alloc ?_ _) | (with_reducible refine Kd.C_drewN ?_ _) | (with_reducible refine Kd.C_drew ?_))); (case side2 => exact HC1.out); (case side3 => repeat (first | exact (Kd.C_below HR2.out HB.out) | (with_reducible refine Kd.C_alloc ?_ _) | (with_reducible refine Kd.C_drewN ?_ _) | (with_reducible refine Kd.C_drew ?_))); (case side4 => exact HC2.out); rintro e w58 ⟨rfl, hb⟩; refine ⟨_, rfl, ?_⟩; have n0_ := Aside0.mk (Kd.R_below (by (with_reducible repeat (first | apply Kd.R_alloc | apply Kd.R_drewN | apply Kd.R_drew)); exact HO_13.out) hb); have n1_ := Aside0.mk (blk_below (g := gb193) (o := .cells #[.int .i64 a0_0, .int .i64 a0_1, .int .i64 a0_2, .int .i64 a0_3, .int .i64 a0_4, .int .i64 a0_5, .int .i64 a0_6] 25 (0, 0)) (by (with_reducible repeat (first | refine blk_drewN ?_ _ | refine blk_drew ?_ | refine blk_alloc ?_ _)); exact BK193.out) hb); have n2_ := Aside0.mk (below_step (by repeat (first | (with_reducible first | exact HB.out | apply below_alloc | apply pw_below_drewN | apply below_drew1 | refine below_set ?_ GE193.out) | exact HB.out)) hb); clear HO_13; clear BK193; clear HB; have HO_13 := n0_; have BK193 := n1_; have HB := n2_; clear n0_ n1_ n2_; (try clear hb); (try clear hb2); (try clear hk); (try clear hi)))
                                  go_ret
                                  exact ⟨by first | rfl | (simp [errW_none, errW_some] <;> rfl) | (simp [*, errW_none, errW_some] <;> rfl), by repeat (first | (with_reducible first | exact HB.out | apply below_alloc | apply pw_below_drewN | apply below_drew1 | refine below_set ?_ GE193.out) | exact HB.out)⟩
                              · rw [if_neg c46] at H
                                have c46b0 : (t203 == t215) = false := by simpa using c46
                                (try (have c46b1 : decide (t203 = t215) = false := by simpa using c46))
                                (try (have c46b2 : (t203 == t215) = false := by simpa using c46))
                                (try (have c46b3 : ¬ (t203 = t215) := by simpa using c46))
                                clear c46
                                obtain rfl := Option.some.inj H
                                have hcz59_0 : wc.cell? ⟨gb193, 0, none⟩ = some (.int .i64 a0_0) := (blk_cell BK193.out 0).trans rfl
                                have hcz59_1 : wc.cell? ⟨gb193, 1, none⟩ = some (.int .i64 a0_1) := (blk_cell BK193.out 1).trans rfl
                                have hcz59_2 : wc.cell? ⟨gb193, 2, none⟩ = some (.int .i64 a0_2) := (blk_cell BK193.out 2).trans rfl
                                have hcz59_3 : wc.cell? ⟨gb193, 3, none⟩ = some (.int .i64 a0_3) := (blk_cell BK193.out 3).trans rfl
                                have hcz59_4 : wc.cell? ⟨gb193, 4, none⟩ = some (.int .i64 a0_4) := (blk_cell BK193.out 4).trans rfl
                                have hcz59_5 : wc.cell? ⟨gb193, 5, none⟩ = some (.int .i64 a0_5) := (blk_cell BK193.out 5).trans rfl
                                have hcz59_6 : wc.cell? ⟨gb193, 6, none⟩ = some (.int .i64 a0_6) := (blk_cell BK193.out 6).trans rfl
                                have hfz59_0 := blk_frozen BK193.out 0
                                have hfz59_1 := blk_frozen BK193.out 1
                                have hfz59_2 := blk_frozen BK193.out 2
                                have hfz59_3 := blk_frozen BK193.out 3
                                have hfz59_4 := blk_frozen BK193.out 4
                                have hfz59_5 := blk_frozen BK193.out 5
                                have hfz59_6 := blk_frozen BK193.out 6
                                go_wp2_with (first | ((with_reducible refine gate_callee (f := 25) rfl ?_); refine goesL_ (some 109) rfl rfl Try.func25 (by kernel_rfl) rfl #[.agg #[.int .i64 a0_0, .int .i64 a0_1, .int .i64 a0_2, .int .i64 a0_3, .int .i64 a0_4, .int .i64 a0_5, .int .i64 a0_6], .slice A1 l1.length c1, .slice A2 l2.length c2] rfl (by (try simp only [List.map_toArray, List.map_cons, List.map_nil]); first | done | rfl | (simp only [List.length_drop, List.length_take]; rfl)) ?_; (with_reducible refine (walkmillref02_Goes.calls kj38 a0_0 a0_1 a0_2 a0_3 a0_4 a0_5 a0_6 _ _ l1 _ _ l2 t214 t215 _ ?side1 ?side2 ?side3 ?side4 A42.out).mono ?_); (case side1 => repeat (first | exact (Kd.C_below HR1.out HB.out) | (with_reducible refine Kd.C_alloc ?_ _) | (with_reducible refine Kd.C_drewN ?_ _) | (with_reducible refine Kd.C_drew ?_))); (case side2 => exact HC1.out); (case side3 => repeat (first | exact (Kd.C_below HR2.out HB.out) | (with_reducible refine Kd.C_alloc ?_ _) | (with_reducible refine Kd.C_drewN ?_ _) | (with_reducible refine Kd.C_drew ?_))); (case side4 => exact HC2.out); rintro e w60 ⟨rfl, hb⟩; refine ⟨_, rfl, ?_⟩; have n0_ := Aside0.mk (Kd.R_below (by (with_reducible repeat (first | apply Kd.R_alloc | apply Kd.R_drewN | apply Kd.R_drew)); exact HO_13.out) hb); have n1_ := Aside0.mk (blk_below (g := gb193) (o := .cells #[.int .i64 a0_0, .int .i64 a0_1, .int .i64 a0_2, .int .i64 a0_3, .int .i64 a0_4, .int .i64 a0_5, .int .i64 a0_6] 25 (0, 0)) (by (with_reducible repeat (first | refine blk_drewN ?_ _ | refine blk_drew ?_ | refine blk_alloc ?_ _)); exact BK193.out) hb); have n2_ := Aside0.mk (below_step (by repeat (first | (with_reducible first | exact HB.out | apply below_alloc | apply pw_below_drewN | apply below_drew1 | refine below_set ?_ GE193.out) | exact HB.out)) hb); clear HO_13; clear BK193; clear HB; have HO_13 := n0_; have BK193 := n1_; have HB := n2_; clear n0_ n1_ n2_; (try clear hb); (try clear hb2); (try clear hk); (try clear hi)))
                                go_ret
                                exact ⟨by first | rfl | (simp [errW_none, errW_some] <;> rfl) | (simp [*, errW_none, errW_some] <;> rfl), by repeat (first | (with_reducible first | exact HB.out | apply below_alloc | apply pw_below_drewN | apply below_drew1 | refine below_set ?_ GE193.out) | exact HB.out)⟩
                            · rw [if_neg c45] at H
                              have c45b0 : (t202 == t214) = false := beq_eq_false_iff_ne.mpr c45
                              have c45b1 : (t202 != t214) = true := bne_iff_ne.mpr c45
                              obtain rfl := Option.some.inj H
                              have hcz61_0 : wc.cell? ⟨gb193, 0, none⟩ = some (.int .i64 a0_0) := (blk_cell BK193.out 0).trans rfl
                              have hcz61_1 : wc.cell? ⟨gb193, 1, none⟩ = some (.int .i64 a0_1) := (blk_cell BK193.out 1).trans rfl
                              have hcz61_2 : wc.cell? ⟨gb193, 2, none⟩ = some (.int .i64 a0_2) := (blk_cell BK193.out 2).trans rfl
                              have hcz61_3 : wc.cell? ⟨gb193, 3, none⟩ = some (.int .i64 a0_3) := (blk_cell BK193.out 3).trans rfl
                              have hcz61_4 : wc.cell? ⟨gb193, 4, none⟩ = some (.int .i64 a0_4) := (blk_cell BK193.out 4).trans rfl
                              have hcz61_5 : wc.cell? ⟨gb193, 5, none⟩ = some (.int .i64 a0_5) := (blk_cell BK193.out 5).trans rfl
                              have hcz61_6 : wc.cell? ⟨gb193, 6, none⟩ = some (.int .i64 a0_6) := (blk_cell BK193.out 6).trans rfl
                              have hfz61_0 := blk_frozen BK193.out 0
                              have hfz61_1 := blk_frozen BK193.out 1
                              have hfz61_2 := blk_frozen BK193.out 2
                              have hfz61_3 := blk_frozen BK193.out 3
                              have hfz61_4 := blk_frozen BK193.out 4
                              have hfz61_5 := blk_frozen BK193.out 5
                              have hfz61_6 := blk_frozen BK193.out 6
                              go_wp2_with (first | ((with_reducible refine gate_callee (f := 25) rfl ?_); refine goesL_ (some 109) rfl rfl Try.func25 (by kernel_rfl) rfl #[.agg #[.int .i64 a0_0, .int .i64 a0_1, .int .i64 a0_2, .int .i64 a0_3, .int .i64 a0_4, .int .i64 a0_5, .int .i64 a0_6], .slice A1 l1.length c1, .slice A2 l2.length c2] rfl (by (try simp only [List.map_toArray, List.map_cons, List.map_nil]); first | done | rfl | (simp only [List.length_drop, List.length_take]; rfl)) ?_; (with_reducible refine (walkmillref02_Goes.calls kj38 a0_0 a0_1 a0_2 a0_3 a0_4 a0_5 a0_6 _ _ l1 _ _ l2 t214 t215 _ ?side1 ?side2 ?side3 ?side4 A42.out).mono ?_); (case side1 => repeat (first | exact (Kd.C_below HR1.out HB.out) | (with_reducible refine Kd.C_alloc ?_ _) | (with_reducible refine Kd.C_drewN ?_ _) | (with_reducible refine Kd.C_drew ?_))); (case side2 => exact HC1.out); (case side3 => repeat (first | exact (Kd.C_below HR2.out HB.out) | (with_reducible refine Kd.C_alloc ?_ _) | (with_reducible refine Kd.C_drewN ?_ _) | (with_reducible refine Kd.C_drew ?_))); (case side4 => exact HC2.out); rintro e w62 ⟨rfl, hb⟩; refine ⟨_, rfl, ?_⟩; have n0_ := Aside0.mk (Kd.R_below (by (with_reducible repeat (first | apply Kd.R_alloc | apply Kd.R_drewN | apply Kd.R_drew)); exact HO_13.out) hb); have n1_ := Aside0.mk (blk_below (g := gb193) (o := .cells #[.int .i64 a0_0, .int .i64 a0_1, .int .i64 a0_2, .int .i64 a0_3, .int .i64 a0_4, .int .i64 a0_5, .int .i64 a0_6] 25 (0, 0)) (by (with_reducible repeat (first | refine blk_drewN ?_ _ | refine blk_drew ?_ | refine blk_alloc ?_ _)); exact BK193.out) hb); have n2_ := Aside0.mk (below_step (by repeat (first | (with_reducible first | exact HB.out | apply below_alloc | apply pw_below_drewN | apply below_drew1 | refine below_set ?_ GE193.out) | exact HB.out)) hb); clear HO_13; clear BK193; clear HB; have HO_13 := n0_; have BK193 := n1_; have HB := n2_; clear n0_ n1_ n2_; (try clear hb); (try clear hb2); (try clear hk); (try clear hi)))
                              go_ret
                              exact ⟨by first | rfl | (simp [errW_none, errW_some] <;> rfl) | (simp [*, errW_none, errW_some] <;> rfl), by repeat (first | (with_reducible first | exact HB.out | apply below_alloc | apply pw_below_drewN | apply below_drew1 | refine below_set ?_ GE193.out) | exact HB.out)⟩
                          · rw [if_neg c44] at H
                            have c44b0 : (t204 == 0) = false := beq_eq_false_iff_ne.mpr c44
                            have c44b1 : (t204 != 0) = true := bne_iff_ne.mpr c44
                            obtain rfl := Option.some.inj H
                            have hcz63_0 : wc.cell? ⟨gb193, 0, none⟩ = some (.int .i64 a0_0) := (blk_cell BK193.out 0).trans rfl
                            have hcz63_1 : wc.cell? ⟨gb193, 1, none⟩ = some (.int .i64 a0_1) := (blk_cell BK193.out 1).trans rfl
                            have hcz63_2 : wc.cell? ⟨gb193, 2, none⟩ = some (.int .i64 a0_2) := (blk_cell BK193.out 2).trans rfl
                            have hcz63_3 : wc.cell? ⟨gb193, 3, none⟩ = some (.int .i64 a0_3) := (blk_cell BK193.out 3).trans rfl
                            have hcz63_4 : wc.cell? ⟨gb193, 4, none⟩ = some (.int .i64 a0_4) := (blk_cell BK193.out 4).trans rfl
                            have hcz63_5 : wc.cell? ⟨gb193, 5, none⟩ = some (.int .i64 a0_5) := (blk_cell BK193.out 5).trans rfl
                            have hcz63_6 : wc.cell? ⟨gb193, 6, none⟩ = some (.int .i64 a0_6) := (blk_cell BK193.out 6).trans rfl
                            have hfz63_0 := blk_frozen BK193.out 0
                            have hfz63_1 := blk_frozen BK193.out 1
                            have hfz63_2 := blk_frozen BK193.out 2
                            have hfz63_3 := blk_frozen BK193.out 3
                            have hfz63_4 := blk_frozen BK193.out 4
                            have hfz63_5 := blk_frozen BK193.out 5
                            have hfz63_6 := blk_frozen BK193.out 6
                            go_wp2_with (first | ((with_reducible refine gate_callee (f := 25) rfl ?_); refine goesL_ (some 109) rfl rfl Try.func25 (by kernel_rfl) rfl #[.agg #[.int .i64 a0_0, .int .i64 a0_1, .int .i64 a0_2, .int .i64 a0_3, .int .i64 a0_4, .int .i64 a0_5, .int .i64 a0_6], .slice A1 l1.length c1, .slice A2 l2.length c2] rfl (by (try simp only [List.map_toArray, List.map_cons, List.map_nil]); first | done | rfl | (simp only [List.length_drop, List.length_take]; rfl)) ?_; (with_reducible refine (walkmillref02_Goes.calls kj38 a0_0 a0_1 a0_2 a0_3 a0_4 a0_5 a0_6 _ _ l1 _ _ l2 t214 t215 _ ?side1 ?side2 ?side3 ?side4 A42.out).mono ?_); (case side1 => repeat (first | exact (Kd.C_below HR1.out HB.out) | (with_reducible refine Kd.C_alloc ?_ _) | (with_reducible refine Kd.C_drewN ?_ _) | (with_reducible refine Kd.C_drew ?_))); (case side2 => exact HC1.out); (case side3 => repeat (first | exact (Kd.C_below HR2.out HB.out) | (with_reducible refine Kd.C_alloc ?_ _) | (with_reducible refine Kd.C_drewN ?_ _) | (with_reducible refine Kd.C_drew ?_))); (case side4 => exact HC2.out); rintro e w64 ⟨rfl, hb⟩; refine ⟨_, rfl, ?_⟩; have n0_ := Aside0.mk (Kd.R_below (by (with_reducible repeat (first | apply Kd.R_alloc | apply Kd.R_drewN | apply Kd.R_drew)); exact HO_13.out) hb); have n1_ := Aside0.mk (blk_below (g := gb193) (o := .cells #[.int .i64 a0_0, .int .i64 a0_1, .int .i64 a0_2, .int .i64 a0_3, .int .i64 a0_4, .int .i64 a0_5, .int .i64 a0_6] 25 (0, 0)) (by (with_reducible repeat (first | refine blk_drewN ?_ _ | refine blk_drew ?_ | refine blk_alloc ?_ _)); exact BK193.out) hb); have n2_ := Aside0.mk (below_step (by repeat (first | (with_reducible first | exact HB.out | apply below_alloc | apply pw_below_drewN | apply below_drew1 | refine below_set ?_ GE193.out) | exact HB.out)) hb); clear HO_13; clear BK193; clear HB; have HO_13 := n0_; have BK193 := n1_; have HB := n2_; clear n0_ n1_ n2_; (try clear hb); (try clear hb2); (try clear hk); (try clear hi)))
                            go_ret
                            exact ⟨by first | rfl | (simp [errW_none, errW_some] <;> rfl) | (simp [*, errW_none, errW_some] <;> rfl), by repeat (first | (with_reducible first | exact HB.out | apply below_alloc | apply pw_below_drewN | apply below_drew1 | refine below_set ?_ GE193.out) | exact HB.out)⟩
                        · rw [if_neg c43] at H
                          have c43b0 : decide (0 ≤ t214) = false := decide_eq_false c43
                          clear c43
                          by_cases c65 : t204 = 7
                          · rw [if_pos c65] at H
                            have c65b0 : (t204 == 7) = true := beq_iff_eq.mpr c65
                            have c65b1 : (t204 != 7) = false := bne_eq_false_iff_eq.mpr c65
                            clear c65
                            by_cases c66 : t202 = 0
                            · rw [if_pos c66] at H
                              have c66b0 : (t202 == 0) = true := beq_iff_eq.mpr c66
                              have c66b1 : (t202 != 0) = false := bne_eq_false_iff_eq.mpr c66
                              clear c66
                              by_cases c67 : t203 = true
                              · subst c67
                                have H1 : (some false) = some r := by rw [if_pos rfl] at H; exact H
                                clear H
                                have H := H1
                                clear H1
                                obtain rfl := Option.some.inj H
                                have hcz68_0 : wc.cell? ⟨gb193, 0, none⟩ = some (.int .i64 a0_0) := (blk_cell BK193.out 0).trans rfl
                                have hcz68_1 : wc.cell? ⟨gb193, 1, none⟩ = some (.int .i64 a0_1) := (blk_cell BK193.out 1).trans rfl
                                have hcz68_2 : wc.cell? ⟨gb193, 2, none⟩ = some (.int .i64 a0_2) := (blk_cell BK193.out 2).trans rfl
                                have hcz68_3 : wc.cell? ⟨gb193, 3, none⟩ = some (.int .i64 a0_3) := (blk_cell BK193.out 3).trans rfl
                                have hcz68_4 : wc.cell? ⟨gb193, 4, none⟩ = some (.int .i64 a0_4) := (blk_cell BK193.out 4).trans rfl
                                have hcz68_5 : wc.cell? ⟨gb193, 5, none⟩ = some (.int .i64 a0_5) := (blk_cell BK193.out 5).trans rfl
                                have hcz68_6 : wc.cell? ⟨gb193, 6, none⟩ = some (.int .i64 a0_6) := (blk_cell BK193.out 6).trans rfl
                                have hfz68_0 := blk_frozen BK193.out 0
                                have hfz68_1 := blk_frozen BK193.out 1
                                have hfz68_2 := blk_frozen BK193.out 2
                                have hfz68_3 := blk_frozen BK193.out 3
                                have hfz68_4 := blk_frozen BK193.out 4
                                have hfz68_5 := blk_frozen BK193.out 5
                                have hfz68_6 := blk_frozen BK193.out 6
                                go_wp2_with (first | ((with_reducible refine gate_callee (f := 25) rfl ?_); refine goesL_ (some 109) rfl rfl Try.func25 (by kernel_rfl) rfl #[.agg #[.int .i64 a0_0, .int .i64 a0_1, .int .i64 a0_2, .int .i64 a0_3, .int .i64 a0_4, .int .i64 a0_5, .int .i64 a0_6], .slice A1 l1.length c1, .slice A2 l2.length c2] rfl (by (try simp only [List.map_toArray, List.map_cons, List.map_nil]); first | done | rfl | (simp only [List.length_drop, List.length_take]; rfl)) ?_; (with_reducible refine (walkmillref02_Goes.calls kj38 a0_0 a0_1 a0_2 a0_3 a0_4 a0_5 a0_6 _ _ l1 _ _ l2 t214 t215 _ ?side1 ?side2 ?side3 ?side4 A42.out).mono ?_); (case side1 => repeat (first | exact (Kd.C_below HR1.out HB.out) | (with_reducible refine Kd.C_alloc ?_ _) | (with_reducible refine Kd.C_drewN ?_ _) | (with_reducible refine Kd.C_drew ?_))); (case side2 => exact HC1.out); (case side3 => repeat (first | exact (Kd.C_below HR2.out HB.out) | (with_reducible refine Kd.C_alloc ?_ _) | (with_reducible refine Kd.C_drewN ?_ _) | (with_reducible refine Kd.C_drew ?_))); (case side4 => exact HC2.out); rintro e w69 ⟨rfl, hb⟩; refine ⟨_, rfl, ?_⟩; have n0_ := Aside0.mk (Kd.R_below (by (with_reducible repeat (first | apply Kd.R_alloc | apply Kd.R_drewN | apply Kd.R_drew)); exact HO_13.out) hb); have n1_ := Aside0.mk (blk_below (g := gb193) (o := .cells #[.int .i64 a0_0, .int .i64 a0_1, .int .i64 a0_2, .int .i64 a0_3, .int .i64 a0_4, .int .i64 a0_5, .int .i64 a0_6] 25 (0, 0)) (by (with_reducible repeat (first | refine blk_drewN ?_ _ | refine blk_drew ?_ | refine blk_alloc ?_ _)); exact BK193.out) hb); have n2_ := Aside0.mk (below_step (by repeat (first | (with_reducible first | exact HB.out | apply below_alloc | apply pw_below_drewN | apply below_drew1 | refine below_set ?_ GE193.out) | exact HB.out)) hb); clear HO_13; clear BK193; clear HB; have HO_13 := n0_; have BK193 := n1_; have HB := n2_; clear n0_ n1_ n2_; (try clear hb); (try clear hb2); (try clear hk); (try clear hi)))
                                go_ret
                                exact ⟨by first | rfl | (simp [errW_none, errW_some] <;> rfl) | (simp [*, errW_none, errW_some] <;> rfl), by repeat (first | (with_reducible first | exact HB.out | apply below_alloc | apply pw_below_drewN | apply below_drew1 | refine below_set ?_ GE193.out) | exact HB.out)⟩
                              · replace c67 := Bool.eq_false_iff.mpr c67
                                subst c67
                                have H1 : (if t208 = 0 then ((walkmillref02_Levels.f kj38 a0_0 a0_1 a0_2 a0_3 a0_4 a0_5 a0_6 l1 l2).bind fun t217 => ((walkmillref02_Same.f kj38 t205 t217).bind fun t220 => (if t220 = true then ((walkmilllaw02_known.f).bind fun t221 => (some t221)) else (some false)))) else (some false)) = some r := by rw [if_neg (show ¬ (false = true) by decide)] at H; exact H
                                clear H
                                have H := H1
                                clear H1
                                by_cases c70 : t208 = 0
                                · rw [if_pos c70] at H
                                  have c70b0 : (t208 == 0) = true := beq_iff_eq.mpr c70
                                  have c70b1 : (t208 != 0) = false := bne_eq_false_iff_eq.mpr c70
                                  clear c70
                                  replace H := Option.bind_eq_some_iff.mp H
                                  obtain ⟨t217, A710, H⟩ := H
                                  replace H : ((walkmillref02_Same.f kj38 t205 t217).bind fun t220 => (if t220 = true then ((walkmilllaw02_known.f).bind fun t221 => (some t221)) else (some false))) = some r := H
                                  have A71 := Aside0.mk A710
                                  clear A710
                                  replace H := Option.bind_eq_some_iff.mp H
                                  obtain ⟨t220, A720, H⟩ := H
                                  replace H : (if t220 = true then ((walkmilllaw02_known.f).bind fun t221 => (some t221)) else (some false)) = some r := H
                                  have A72 := Aside0.mk A720
                                  clear A720
                                  by_cases c73 : t220 = true
                                  · subst c73
                                    have H1 : ((walkmilllaw02_known.f).bind fun t221 => (some t221)) = some r := by rw [if_pos rfl] at H; exact H
                                    clear H
                                    have H := H1
                                    clear H1
                                    replace H := Option.bind_eq_some_iff.mp H
                                    obtain ⟨t221, A740, H⟩ := H
                                    replace H : (some t221) = some r := H
                                    have A74 := Aside0.mk A740
                                    clear A740
                                    obtain rfl := Option.some.inj H
                                    have hcz75_0 : wc.cell? ⟨gb193, 0, none⟩ = some (.int .i64 a0_0) := (blk_cell BK193.out 0).trans rfl
                                    have hcz75_1 : wc.cell? ⟨gb193, 1, none⟩ = some (.int .i64 a0_1) := (blk_cell BK193.out 1).trans rfl
                                    have hcz75_2 : wc.cell? ⟨gb193, 2, none⟩ = some (.int .i64 a0_2) := (blk_cell BK193.out 2).trans rfl
                                    have hcz75_3 : wc.cell? ⟨gb193, 3, none⟩ = some (.int .i64 a0_3) := (blk_cell BK193.out 3).trans rfl
                                    have hcz75_4 : wc.cell? ⟨gb193, 4, none⟩ = some (.int .i64 a0_4) := (blk_cell BK193.out 4).trans rfl
                                    have hcz75_5 : wc.cell? ⟨gb193, 5, none⟩ = some (.int .i64 a0_5) := (blk_cell BK193.out 5).trans rfl
                                    have hcz75_6 : wc.cell? ⟨gb193, 6, none⟩ = some (.int .i64 a0_6) := (blk_cell BK193.out 6).trans rfl
                                    have hfz75_0 := blk_frozen BK193.out 0
                                    have hfz75_1 := blk_frozen BK193.out 1
                                    have hfz75_2 := blk_frozen BK193.out 2
                                    have hfz75_3 := blk_frozen BK193.out 3
                                    have hfz75_4 := blk_frozen BK193.out 4
                                    have hfz75_5 := blk_frozen BK193.out 5
                                    have hfz75_6 := blk_frozen BK193.out 6
                                    go_wp2_with (first | ((with_reducible refine gate_callee (f := 25) rfl ?_); refine goesL_ (some 109) rfl rfl Try.func25 (by kernel_rfl) rfl #[.agg #[.int .i64 a0_0, .int .i64 a0_1, .int .i64 a0_2, .int .i64 a0_3, .int .i64 a0_4, .int .i64 a0_5, .int .i64 a0_6], .slice A1 l1.length c1, .slice A2 l2.length c2] rfl (by (try simp only [List.map_toArray, List.map_cons, List.map_nil]); first | done | rfl | (simp only [List.length_drop, List.length_take]; rfl)) ?_; (with_reducible refine (walkmillref02_Goes.calls kj38 a0_0 a0_1 a0_2 a0_3 a0_4 a0_5 a0_6 _ _ l1 _ _ l2 t214 t215 _ ?side1 ?side2 ?side3 ?side4 A42.out).mono ?_); (case side1 => repeat (first | exact (Kd.C_below HR1.out HB.out) | (with_reducible refine Kd.C_alloc ?_ _) | (with_reducible refine Kd.C_drewN ?_ _) | (with_reducible refine Kd.C_drew ?_))); (case side2 => exact HC1.out); (case side3 => repeat (first | exact (Kd.C_below HR2.out HB.out) | (with_reducible refine Kd.C_alloc ?_ _) | (with_reducible refine Kd.C_drewN ?_ _) | (with_reducible refine Kd.C_drew ?_))); (case side4 => exact HC2.out); rintro e w76 ⟨rfl, hb⟩; refine ⟨_, rfl, ?_⟩; have n0_ := Aside0.mk (Kd.R_below (by (with_reducible repeat (first | apply Kd.R_alloc | apply Kd.R_drewN | apply Kd.R_drew)); exact HO_13.out) hb); have n1_ := Aside0.mk (blk_below (g := gb193) (o := .cells #[.int .i64 a0_0, .int .i64 a0_1, .int .i64 a0_2, .int .i64 a0_3, .int .i64 a0_4, .int .i64 a0_5, .int .i64 a0_6] 25 (0, 0)) (by (with_reducible repeat (first | refine blk_drewN ?_ _ | refine blk_drew ?_ | refine blk_alloc ?_ _)); exact BK193.out) hb); have n2_ := Aside0.mk (below_step (by repeat (first | (with_reducible first | exact HB.out | apply below_alloc | apply pw_below_drewN | apply below_drew1 | refine below_set ?_ GE193.out) | exact HB.out)) hb); clear HO_13; clear BK193; clear HB; have HO_13 := n0_; have BK193 := n1_; have HB := n2_; clear n0_ n1_ n2_; (try clear hb); (try clear hb2); (try clear hk); (try clear hi); have hcz77_0 : w76.cell? ⟨gb193, 0, none⟩ = some (.int .i64 a0_0) := (blk_cell BK193.out 0).trans rfl; have hcz77_1 : w76.cell? ⟨gb193, 1, none⟩ = some (.int .i64 a0_1) := (blk_cell BK193.out 1).trans rfl; have hcz77_2 : w76.cell? ⟨gb193, 2, none⟩ = some (.int .i64 a0_2) := (blk_cell BK193.out 2).trans rfl; have hcz77_3 : w76.cell? ⟨gb193, 3, none⟩ = some (.int .i64 a0_3) := (blk_cell BK193.out 3).trans rfl; have hcz77_4 : w76.cell? ⟨gb193, 4, none⟩ = some (.int .i64 a0_4) := (blk_cell BK193.out 4).trans rfl; have hcz77_5 : w76.cell? ⟨gb193, 5, none⟩ = some (.int .i64 a0_5) := (blk_cell BK193.out 5).trans rfl; have hcz77_6 : w76.cell? ⟨gb193, 6, none⟩ = some (.int .i64 a0_6) := (blk_cell BK193.out 6).trans rfl; have hfz77_0 := blk_frozen BK193.out 0; have hfz77_1 := blk_frozen BK193.out 1; have hfz77_2 := blk_frozen BK193.out 2; have hfz77_3 := blk_frozen BK193.out 3; have hfz77_4 := blk_frozen BK193.out 4; have hfz77_5 := blk_frozen BK193.out 5; have hfz77_6 := blk_frozen BK193.out 6) | (go_at_call 26; (with_reducible refine (walkmillref02_Levels.calls kj38 a0_0 a0_1 a0_2 a0_3 a0_4 a0_5 a0_6 _ _ l1 _ _ l2 t217 _ ?side1 ?side2 ?side3 ?side4 A71.out).mono ?_); (case side1 => repeat (first | exact (Kd.C_below HR1.out HB.out) | (with_reducible refine Kd.C_alloc ?_ _) | (with_reducible refine Kd.C_drewN ?_ _) | (with_reducible refine Kd.C_drew ?_))); (case side2 => exact HC1.out); (case side3 => repeat (first | exact (Kd.C_below HR2.out HB.out) | (with_reducible refine Kd.C_alloc ?_ _) | (with_reducible refine Kd.C_drewN ?_ _) | (with_reducible refine Kd.C_drew ?_))); (case side4 => exact HC2.out); rintro e w78 ⟨v218, rfl, ho0, hb⟩; have n0_ := Aside0.mk (Kd.R_elder' (by (with_reducible repeat (first | apply Kd.R_alloc | apply Kd.R_drewN | apply Kd.R_drew)); exact HO_13.out) (Kd.R_base ho0) hb); have n1_ := Aside0.mk (Kd.R_lower (Kd.R_new' ho0 (Kd.R_lt (by (with_reducible repeat (first | apply Kd.R_alloc | apply Kd.R_drewN | apply Kd.R_drew)); exact HO_13.out))) (below_size (by repeat (first | (with_reducible first | exact HB.out | apply below_alloc | apply pw_below_drewN | apply below_drew1 | refine below_set ?_ GE193.out) | exact HB.out)))); have n2_ := Aside0.mk (blk_below (g := gb193) (o := .cells #[.int .i64 a0_0, .int .i64 a0_1, .int .i64 a0_2, .int .i64 a0_3, .int .i64 a0_4, .int .i64 a0_5, .int .i64 a0_6] 25 (0, 0)) (by (with_reducible repeat (first | refine blk_drewN ?_ _ | refine blk_drew ?_ | refine blk_alloc ?_ _)); exact BK193.out) hb); have n3_ := Aside0.mk (below_step (by repeat (first | (with_reducible first | exact HB.out | apply below_alloc | apply pw_below_drewN | apply below_drew1 | refine below_set ?_ GE193.out) | exact HB.out)) hb); clear HO_13; clear BK193; clear HB; have HO_13 := n0_; have HO219 := n1_; have BK193 := n2_; have HB := n3_; clear n0_ n1_ n2_ n3_; (try clear hb); (try clear hb2); (try clear hk); (try clear hi); (try clear ho0); obtain ⟨Ao79, co79, eo79⟩ := Kd.R_slice HO_13.out; subst eo79; obtain ⟨Ao80, co80, eo80⟩ := Kd.R_slice HO219.out; subst eo80) | (go_at_call 22; (with_reducible refine (walkmillref02_Same.calls kj38 _ _ t205 _ _ t217 true _ ?side1 ?side2 ?side3 ?side4 A72.out).mono ?_); (case side1 => repeat (first | exact (Kd.R_reads' HO_13.out).2.2 | (with_reducible refine Kd.C_alloc ?_ _) | (with_reducible refine Kd.C_drewN ?_ _) | (with_reducible refine Kd.C_drew ?_))); (case side2 => exact (Kd.R_reads' HO_13.out).2.1); (case side3 => repeat (first | exact (Kd.R_reads' HO219.out).2.2 | (with_reducible refine Kd.C_alloc ?_ _) | (with_reducible refine Kd.C_drewN ?_ _) | (with_reducible refine Kd.C_drew ?_))); (case side4 => exact (Kd.R_reads' HO219.out).2.1); rintro e w' ⟨rfl, ⟨nd, rfl⟩⟩) | (go_at_call 15; (with_reducible refine (walkmilllaw02_known.calls  t221 _ A74.out).mono ?_); rintro e w81 ⟨rfl, hb⟩; have n0_ := Aside0.mk (Kd.R_below (by (with_reducible repeat (first | apply Kd.R_alloc | apply Kd.R_drewN | apply Kd.R_drew)); exact HO_13.out) hb); have n1_ := Aside0.mk (Kd.R_below (by (with_reducible repeat (first | apply Kd.R_alloc | apply Kd.R_drewN | apply Kd.R_drew)); exact HO219.out) hb); have n2_ := Aside0.mk (blk_below (g := gb193) (o := .cells #[.int .i64 a0_0, .int .i64 a0_1, .int .i64 a0_2, .int .i64 a0_3, .int .i64 a0_4, .int .i64 a0_5, .int .i64 a0_6] 25 (0, 0)) (by (with_reducible repeat (first | refine blk_drewN ?_ _ | refine blk_drew ?_ | refine blk_alloc ?_ _)); exact BK193.out) hb); have n3_ := Aside0.mk (below_step (by repeat (first | (with_reducible first | exact HB.out | apply below_alloc | apply pw_below_drewN | apply below_drew1 | refine below_set ?_ GE193.out) | exact HB.out)) hb); clear HO_13; clear HO219; clear BK193; clear HB; have HO_13 := n0_; have HO219 := n1_; have BK193 := n2_; have HB := n3_; clear n0_ n1_ n2_ n3_; (try clear hb); (try clear hb2); (try clear hk); (try clear hi)))
                                    go_ret
                                    exact ⟨by first | rfl | (simp [errW_none, errW_some] <;> rfl) | (simp [*, errW_none, errW_some] <;> rfl), by repeat (first | (with_reducible first | exact HB.out | apply below_alloc | apply pw_below_drewN | apply below_drew1 | refine below_set ?_ GE193.out) | exact HB.out)⟩
                                  · replace c73 := Bool.eq_false_iff.mpr c73
                                    subst c73
                                    have H1 : (some false) = some r := by rw [if_neg (show ¬ (false = true) by decide)] at H; exact H
                                    clear H
                                    have H := H1
                                    clear H1
                                    obtain rfl := Option.some.inj H
                                    have hcz82_0 : wc.cell? ⟨gb193, 0, none⟩ = some (.int .i64 a0_0) := (blk_cell BK193.out 0).trans rfl
                                    have hcz82_1 : wc.cell? ⟨gb193, 1, none⟩ = some (.int .i64 a0_1) := (blk_cell BK193.out 1).trans rfl
                                    have hcz82_2 : wc.cell? ⟨gb193, 2, none⟩ = some (.int .i64 a0_2) := (blk_cell BK193.out 2).trans rfl
                                    have hcz82_3 : wc.cell? ⟨gb193, 3, none⟩ = some (.int .i64 a0_3) := (blk_cell BK193.out 3).trans rfl
                                    have hcz82_4 : wc.cell? ⟨gb193, 4, none⟩ = some (.int .i64 a0_4) := (blk_cell BK193.out 4).trans rfl
                                    have hcz82_5 : wc.cell? ⟨gb193, 5, none⟩ = some (.int .i64 a0_5) := (blk_cell BK193.out 5).trans rfl
                                    have hcz82_6 : wc.cell? ⟨gb193, 6, none⟩ = some (.int .i64 a0_6) := (blk_cell BK193.out 6).trans rfl
                                    have hfz82_0 := blk_frozen BK193.out 0
                                    have hfz82_1 := blk_frozen BK193.out 1
                                    have hfz82_2 := blk_frozen BK193.out 2
                                    have hfz82_3 := blk_frozen BK193.out 3
                                    have hfz82_4 := blk_frozen BK193.out 4
                                    have hfz82_5 := blk_frozen BK193.out 5
                                    have hfz82_6 := blk_frozen BK193.out 6
                                    go_wp2_with (first | ((with_reducible refine gate_callee (f := 25) rfl ?_); refine goesL_ (some 109) rfl rfl Try.func25 (by kernel_rfl) rfl #[.agg #[.int .i64 a0_0, .int .i64 a0_1, .int .i64 a0_2, .int .i64 a0_3, .int .i64 a0_4, .int .i64 a0_5, .int .i64 a0_6], .slice A1 l1.length c1, .slice A2 l2.length c2] rfl (by (try simp only [List.map_toArray, List.map_cons, List.map_nil]); first | done | rfl | (simp only [List.length_drop, List.length_take]; rfl)) ?_; (with_reducible refine (walkmillref02_Goes.calls kj38 a0_0 a0_1 a0_2 a0_3 a0_4 a0_5 a0_6 _ _ l1 _ _ l2 t214 t215 _ ?side1 ?side2 ?side3 ?side4 A42.out).mono ?_); (case side1 => repeat (first | exact (Kd.C_below HR1.out HB.out) | (with_reducible refine Kd.C_alloc ?_ _) | (with_reducible refine Kd.C_drewN ?_ _) | (with_reducible refine Kd.C_drew ?_))); (case side2 => exact HC1.out); (case side3 => repeat (first | exact (Kd.C_below HR2.out HB.out) | (with_reducible refine Kd.C_alloc ?_ _) | (with_reducible refine Kd.C_drewN ?_ _) | (with_reducible refine Kd.C_drew ?_))); (case side4 => exact HC2.out); rintro e w83 ⟨rfl, hb⟩; refine ⟨_, rfl, ?_⟩; have n0_ := Aside0.mk (Kd.R_below (by (with_reducible repeat (first | apply Kd.R_alloc | apply Kd.R_drewN | apply Kd.R_drew)); exact HO_13.out) hb); have n1_ := Aside0.mk (blk_below (g := gb193) (o := .cells #[.int .i64 a0_0, .int .i64 a0_1, .int .i64 a0_2, .int .i64 a0_3, .int .i64 a0_4, .int .i64 a0_5, .int .i64 a0_6] 25 (0, 0)) (by (with_reducible repeat (first | refine blk_drewN ?_ _ | refine blk_drew ?_ | refine blk_alloc ?_ _)); exact BK193.out) hb); have n2_ := Aside0.mk (below_step (by repeat (first | (with_reducible first | exact HB.out | apply below_alloc | apply pw_below_drewN | apply below_drew1 | refine below_set ?_ GE193.out) | exact HB.out)) hb); clear HO_13; clear BK193; clear HB; have HO_13 := n0_; have BK193 := n1_; have HB := n2_; clear n0_ n1_ n2_; (try clear hb); (try clear hb2); (try clear hk); (try clear hi); have hcz84_0 : w83.cell? ⟨gb193, 0, none⟩ = some (.int .i64 a0_0) := (blk_cell BK193.out 0).trans rfl; have hcz84_1 : w83.cell? ⟨gb193, 1, none⟩ = some (.int .i64 a0_1) := (blk_cell BK193.out 1).trans rfl; have hcz84_2 : w83.cell? ⟨gb193, 2, none⟩ = some (.int .i64 a0_2) := (blk_cell BK193.out 2).trans rfl; have hcz84_3 : w83.cell? ⟨gb193, 3, none⟩ = some (.int .i64 a0_3) := (blk_cell BK193.out 3).trans rfl; have hcz84_4 : w83.cell? ⟨gb193, 4, none⟩ = some (.int .i64 a0_4) := (blk_cell BK193.out 4).trans rfl; have hcz84_5 : w83.cell? ⟨gb193, 5, none⟩ = some (.int .i64 a0_5) := (blk_cell BK193.out 5).trans rfl; have hcz84_6 : w83.cell? ⟨gb193, 6, none⟩ = some (.int .i64 a0_6) := (blk_cell BK193.out 6).trans rfl; have hfz84_0 := blk_frozen BK193.out 0; have hfz84_1 := blk_frozen BK193.out 1; have hfz84_2 := blk_frozen BK193.out 2; have hfz84_3 := blk_frozen BK193.out 3; have hfz84_4 := blk_frozen BK193.out 4; have hfz84_5 := blk_frozen BK193.out 5; have hfz84_6 := blk_frozen BK193.out 6) | (go_at_call 26; (with_reducible refine (walkmillref02_Levels.calls kj38 a0_0 a0_1 a0_2 a0_3 a0_4 a0_5 a0_6 _ _ l1 _ _ l2 t217 _ ?side1 ?side2 ?side3 ?side4 A71.out).mono ?_); (case side1 => repeat (first | exact (Kd.C_below HR1.out HB.out) | (with_reducible refine Kd.C_alloc ?_ _) | (with_reducible refine Kd.C_drewN ?_ _) | (with_reducible refine Kd.C_drew ?_))); (case side2 => exact HC1.out); (case side3 => repeat (first | exact (Kd.C_below HR2.out HB.out) | (with_reducible refine Kd.C_alloc ?_ _) | (with_reducible refine Kd.C_drewN ?_ _) | (with_reducible refine Kd.C_drew ?_))); (case side4 => exact HC2.out); rintro e w85 ⟨v218, rfl, ho0, hb⟩; have n0_ := Aside0.mk (Kd.R_elder' (by (with_reducible repeat (first | apply Kd.R_alloc | apply Kd.R_drewN | apply Kd.R_drew)); exact HO_13.out) (Kd.R_base ho0) hb); have n1_ := Aside0.mk (Kd.R_lower (Kd.R_new' ho0 (Kd.R_lt (by (with_reducible repeat (first | apply Kd.R_alloc | apply Kd.R_drewN | apply Kd.R_drew)); exact HO_13.out))) (below_size (by repeat (first | (with_reducible first | exact HB.out | apply below_alloc | apply pw_below_drewN | apply below_drew1 | refine below_set ?_ GE193.out) | exact HB.out)))); have n2_ := Aside0.mk (blk_below (g := gb193) (o := .cells #[.int .i64 a0_0, .int .i64 a0_1, .int .i64 a0_2, .int .i64 a0_3, .int .i64 a0_4, .int .i64 a0_5, .int .i64 a0_6] 25 (0, 0)) (by (with_reducible repeat (first | refine blk_drewN ?_ _ | refine blk_drew ?_ | refine blk_alloc ?_ _)); exact BK193.out) hb); have n3_ := Aside0.mk (below_step (by repeat (first | (with_reducible first | exact HB.out | apply below_alloc | apply pw_below_drewN | apply below_drew1 | refine below_set ?_ GE193.out) | exact HB.out)) hb); clear HO_13; clear BK193; clear HB; have HO_13 := n0_; have HO219 := n1_; have BK193 := n2_; have HB := n3_; clear n0_ n1_ n2_ n3_; (try clear hb); (try clear hb2); (try clear hk); (try clear hi); (try clear ho0); obtain ⟨Ao86, co86, eo86⟩ := Kd.R_slice HO_13.out; subst eo86; obtain ⟨Ao87, co87, eo87⟩ := Kd.R_slice HO219.out; subst eo87) | (go_at_call 22; (with_reducible refine (walkmillref02_Same.calls kj38 _ _ t205 _ _ t217 false _ ?side1 ?side2 ?side3 ?side4 A72.out).mono ?_); (case side1 => repeat (first | exact (Kd.R_reads' HO_13.out).2.2 | (with_reducible refine Kd.C_alloc ?_ _) | (with_reducible refine Kd.C_drewN ?_ _) | (with_reducible refine Kd.C_drew ?_))); (case side2 => exact (Kd.R_reads' HO_13.out).2.1); (case side3 => repeat (first | exact (Kd.R_reads' HO219.out).2.2 | (with_reducible refine Kd.C_alloc ?_ _) | (with_reducible refine Kd.C_drewN ?_ _) | (with_reducible refine Kd.C_drew ?_))); (case side4 => exact (Kd.R_reads' HO219.out).2.1); rintro e w' ⟨rfl, ⟨nd, rfl⟩⟩))
                                    go_ret
                                    exact ⟨by first | rfl | (simp [errW_none, errW_some] <;> rfl) | (simp [*, errW_none, errW_some] <;> rfl), by repeat (first | (with_reducible first | exact HB.out | apply below_alloc | apply pw_below_drewN | apply below_drew1 | refine below_set ?_ GE193.out) | exact HB.out)⟩
                                · rw [if_neg c70] at H
                                  have c70b0 : (t208 == 0) = false := beq_eq_false_iff_ne.mpr c70
                                  have c70b1 : (t208 != 0) = true := bne_iff_ne.mpr c70
                                  obtain rfl := Option.some.inj H
                                  have hcz88_0 : wc.cell? ⟨gb193, 0, none⟩ = some (.int .i64 a0_0) := (blk_cell BK193.out 0).trans rfl
                                  have hcz88_1 : wc.cell? ⟨gb193, 1, none⟩ = some (.int .i64 a0_1) := (blk_cell BK193.out 1).trans rfl
                                  have hcz88_2 : wc.cell? ⟨gb193, 2, none⟩ = some (.int .i64 a0_2) := (blk_cell BK193.out 2).trans rfl
                                  have hcz88_3 : wc.cell? ⟨gb193, 3, none⟩ = some (.int .i64 a0_3) := (blk_cell BK193.out 3).trans rfl
                                  have hcz88_4 : wc.cell? ⟨gb193, 4, none⟩ = some (.int .i64 a0_4) := (blk_cell BK193.out 4).trans rfl
                                  have hcz88_5 : wc.cell? ⟨gb193, 5, none⟩ = some (.int .i64 a0_5) := (blk_cell BK193.out 5).trans rfl
                                  have hcz88_6 : wc.cell? ⟨gb193, 6, none⟩ = some (.int .i64 a0_6) := (blk_cell BK193.out 6).trans rfl
                                  have hfz88_0 := blk_frozen BK193.out 0
                                  have hfz88_1 := blk_frozen BK193.out 1
                                  have hfz88_2 := blk_frozen BK193.out 2
                                  have hfz88_3 := blk_frozen BK193.out 3
                                  have hfz88_4 := blk_frozen BK193.out 4
                                  have hfz88_5 := blk_frozen BK193.out 5
                                  have hfz88_6 := blk_frozen BK193.out 6
                                  go_wp2_with (first | ((with_reducible refine gate_callee (f := 25) rfl ?_); refine goesL_ (some 109) rfl rfl Try.func25 (by kernel_rfl) rfl #[.agg #[.int .i64 a0_0, .int .i64 a0_1, .int .i64 a0_2, .int .i64 a0_3, .int .i64 a0_4, .int .i64 a0_5, .int .i64 a0_6], .slice A1 l1.length c1, .slice A2 l2.length c2] rfl (by (try simp only [List.map_toArray, List.map_cons, List.map_nil]); first | done | rfl | (simp only [List.length_drop, List.length_take]; rfl)) ?_; (with_reducible refine (walkmillref02_Goes.calls kj38 a0_0 a0_1 a0_2 a0_3 a0_4 a0_5 a0_6 _ _ l1 _ _ l2 t214 t215 _ ?side1 ?side2 ?side3 ?side4 A42.out).mono ?_); (case side1 => repeat (first | exact (Kd.C_below HR1.out HB.out) | (with_reducible refine Kd.C_alloc ?_ _) | (with_reducible refine Kd.C_drewN ?_ _) | (with_reducible refine Kd.C_drew ?_))); (case side2 => exact HC1.out); (case side3 => repeat (first | exact (Kd.C_below HR2.out HB.out) | (with_reducible refine Kd.C_alloc ?_ _) | (with_reducible refine Kd.C_drewN ?_ _) | (with_reducible refine Kd.C_drew ?_))); (case side4 => exact HC2.out); rintro e w89 ⟨rfl, hb⟩; refine ⟨_, rfl, ?_⟩; have n0_ := Aside0.mk (Kd.R_below (by (with_reducible repeat (first | apply Kd.R_alloc | apply Kd.R_drewN | apply Kd.R_drew)); exact HO_13.out) hb); have n1_ := Aside0.mk (blk_below (g := gb193) (o := .cells #[.int .i64 a0_0, .int .i64 a0_1, .int .i64 a0_2, .int .i64 a0_3, .int .i64 a0_4, .int .i64 a0_5, .int .i64 a0_6] 25 (0, 0)) (by (with_reducible repeat (first | refine blk_drewN ?_ _ | refine blk_drew ?_ | refine blk_alloc ?_ _)); exact BK193.out) hb); have n2_ := Aside0.mk (below_step (by repeat (first | (with_reducible first | exact HB.out | apply below_alloc | apply pw_below_drewN | apply below_drew1 | refine below_set ?_ GE193.out) | exact HB.out)) hb); clear HO_13; clear BK193; clear HB; have HO_13 := n0_; have BK193 := n1_; have HB := n2_; clear n0_ n1_ n2_; (try clear hb); (try clear hb2); (try clear hk); (try clear hi)))
                                  go_ret
                                  exact ⟨by first | rfl | (simp [errW_none, errW_some] <;> rfl) | (simp [*, errW_none, errW_some] <;> rfl), by repeat (first | (with_reducible first | exact HB.out | apply below_alloc | apply pw_below_drewN | apply below_drew1 | refine below_set ?_ GE193.out) | exact HB.out)⟩
                            · rw [if_neg c66] at H
                              have c66b0 : (t202 == 0) = false := beq_eq_false_iff_ne.mpr c66
                              have c66b1 : (t202 != 0) = true := bne_iff_ne.mpr c66
                              obtain rfl := Option.some.inj H
                              have hcz90_0 : wc.cell? ⟨gb193, 0, none⟩ = some (.int .i64 a0_0) := (blk_cell BK193.out 0).trans rfl
                              have hcz90_1 : wc.cell? ⟨gb193, 1, none⟩ = some (.int .i64 a0_1) := (blk_cell BK193.out 1).trans rfl
                              have hcz90_2 : wc.cell? ⟨gb193, 2, none⟩ = some (.int .i64 a0_2) := (blk_cell BK193.out 2).trans rfl
                              have hcz90_3 : wc.cell? ⟨gb193, 3, none⟩ = some (.int .i64 a0_3) := (blk_cell BK193.out 3).trans rfl
                              have hcz90_4 : wc.cell? ⟨gb193, 4, none⟩ = some (.int .i64 a0_4) := (blk_cell BK193.out 4).trans rfl
                              have hcz90_5 : wc.cell? ⟨gb193, 5, none⟩ = some (.int .i64 a0_5) := (blk_cell BK193.out 5).trans rfl
                              have hcz90_6 : wc.cell? ⟨gb193, 6, none⟩ = some (.int .i64 a0_6) := (blk_cell BK193.out 6).trans rfl
                              have hfz90_0 := blk_frozen BK193.out 0
                              have hfz90_1 := blk_frozen BK193.out 1
                              have hfz90_2 := blk_frozen BK193.out 2
                              have hfz90_3 := blk_frozen BK193.out 3
                              have hfz90_4 := blk_frozen BK193.out 4
                              have hfz90_5 := blk_frozen BK193.out 5
                              have hfz90_6 := blk_frozen BK193.out 6
                              go_wp2_with (first | ((with_reducible refine gate_callee (f := 25) rfl ?_); refine goesL_ (some 109) rfl rfl Try.func25 (by kernel_rfl) rfl #[.agg #[.int .i64 a0_0, .int .i64 a0_1, .int .i64 a0_2, .int .i64 a0_3, .int .i64 a0_4, .int .i64 a0_5, .int .i64 a0_6], .slice A1 l1.length c1, .slice A2 l2.length c2] rfl (by (try simp only [List.map_toArray, List.map_cons, List.map_nil]); first | done | rfl | (simp only [List.length_drop, List.length_take]; rfl)) ?_; (with_reducible refine (walkmillref02_Goes.calls kj38 a0_0 a0_1 a0_2 a0_3 a0_4 a0_5 a0_6 _ _ l1 _ _ l2 t214 t215 _ ?side1 ?side2 ?side3 ?side4 A42.out).mono ?_); (case side1 => repeat (first | exact (Kd.C_below HR1.out HB.out) | (with_reducible refine Kd.C_alloc ?_ _) | (with_reducible refine Kd.C_drewN ?_ _) | (with_reducible refine Kd.C_drew ?_))); (case side2 => exact HC1.out); (case side3 => repeat (first | exact (Kd.C_below HR2.out HB.out) | (with_reducible refine Kd.C_alloc ?_ _) | (with_reducible refine Kd.C_drewN ?_ _) | (with_reducible refine Kd.C_drew ?_))); (case side4 => exact HC2.out); rintro e w91 ⟨rfl, hb⟩; refine ⟨_, rfl, ?_⟩; have n0_ := Aside0.mk (Kd.R_below (by (with_reducible repeat (first | apply Kd.R_alloc | apply Kd.R_drewN | apply Kd.R_drew)); exact HO_13.out) hb); have n1_ := Aside0.mk (blk_below (g := gb193) (o := .cells #[.int .i64 a0_0, .int .i64 a0_1, .int .i64 a0_2, .int .i64 a0_3, .int .i64 a0_4, .int .i64 a0_5, .int .i64 a0_6] 25 (0, 0)) (by (with_reducible repeat (first | refine blk_drewN ?_ _ | refine blk_drew ?_ | refine blk_alloc ?_ _)); exact BK193.out) hb); have n2_ := Aside0.mk (below_step (by repeat (first | (with_reducible first | exact HB.out | apply below_alloc | apply pw_below_drewN | apply below_drew1 | refine below_set ?_ GE193.out) | exact HB.out)) hb); clear HO_13; clear BK193; clear HB; have HO_13 := n0_; have BK193 := n1_; have HB := n2_; clear n0_ n1_ n2_; (try clear hb); (try clear hb2); (try clear hk); (try clear hi)))
                              go_ret
                              exact ⟨by first | rfl | (simp [errW_none, errW_some] <;> rfl) | (simp [*, errW_none, errW_some] <;> rfl), by repeat (first | (with_reducible first | exact HB.out | apply below_alloc | apply pw_below_drewN | apply below_drew1 | refine below_set ?_ GE193.out) | exact HB.out)⟩
                          · rw [if_neg c65] at H
                            have c65b0 : (t204 == 7) = false := beq_eq_false_iff_ne.mpr c65
                            have c65b1 : (t204 != 7) = true := bne_iff_ne.mpr c65
                            obtain rfl := Option.some.inj H
                            have hcz92_0 : wc.cell? ⟨gb193, 0, none⟩ = some (.int .i64 a0_0) := (blk_cell BK193.out 0).trans rfl
                            have hcz92_1 : wc.cell? ⟨gb193, 1, none⟩ = some (.int .i64 a0_1) := (blk_cell BK193.out 1).trans rfl
                            have hcz92_2 : wc.cell? ⟨gb193, 2, none⟩ = some (.int .i64 a0_2) := (blk_cell BK193.out 2).trans rfl
                            have hcz92_3 : wc.cell? ⟨gb193, 3, none⟩ = some (.int .i64 a0_3) := (blk_cell BK193.out 3).trans rfl
                            have hcz92_4 : wc.cell? ⟨gb193, 4, none⟩ = some (.int .i64 a0_4) := (blk_cell BK193.out 4).trans rfl
                            have hcz92_5 : wc.cell? ⟨gb193, 5, none⟩ = some (.int .i64 a0_5) := (blk_cell BK193.out 5).trans rfl
                            have hcz92_6 : wc.cell? ⟨gb193, 6, none⟩ = some (.int .i64 a0_6) := (blk_cell BK193.out 6).trans rfl
                            have hfz92_0 := blk_frozen BK193.out 0
                            have hfz92_1 := blk_frozen BK193.out 1
                            have hfz92_2 := blk_frozen BK193.out 2
                            have hfz92_3 := blk_frozen BK193.out 3
                            have hfz92_4 := blk_frozen BK193.out 4
                            have hfz92_5 := blk_frozen BK193.out 5
                            have hfz92_6 := blk_frozen BK193.out 6
                            go_wp2_with (first | ((with_reducible refine gate_callee (f := 25) rfl ?_); refine goesL_ (some 109) rfl rfl Try.func25 (by kernel_rfl) rfl #[.agg #[.int .i64 a0_0, .int .i64 a0_1, .int .i64 a0_2, .int .i64 a0_3, .int .i64 a0_4, .int .i64 a0_5, .int .i64 a0_6], .slice A1 l1.length c1, .slice A2 l2.length c2] rfl (by (try simp only [List.map_toArray, List.map_cons, List.map_nil]); first | done | rfl | (simp only [List.length_drop, List.length_take]; rfl)) ?_; (with_reducible refine (walkmillref02_Goes.calls kj38 a0_0 a0_1 a0_2 a0_3 a0_4 a0_5 a0_6 _ _ l1 _ _ l2 t214 t215 _ ?side1 ?side2 ?side3 ?side4 A42.out).mono ?_); (case side1 => repeat (first | exact (Kd.C_below HR1.out HB.out) | (with_reducible refine Kd.C_alloc ?_ _) | (with_reducible refine Kd.C_drewN ?_ _) | (with_reducible refine Kd.C_drew ?_))); (case side2 => exact HC1.out); (case side3 => repeat (first | exact (Kd.C_below HR2.out HB.out) | (with_reducible refine Kd.C_alloc ?_ _) | (with_reducible refine Kd.C_drewN ?_ _) | (with_reducible refine Kd.C_drew ?_))); (case side4 => exact HC2.out); rintro e w93 ⟨rfl, hb⟩; refine ⟨_, rfl, ?_⟩; have n0_ := Aside0.mk (Kd.R_below (by (with_reducible repeat (first | apply Kd.R_alloc | apply Kd.R_drewN | apply Kd.R_drew)); exact HO_13.out) hb); have n1_ := Aside0.mk (blk_below (g := gb193) (o := .cells #[.int .i64 a0_0, .int .i64 a0_1, .int .i64 a0_2, .int .i64 a0_3, .int .i64 a0_4, .int .i64 a0_5, .int .i64 a0_6] 25 (0, 0)) (by (with_reducible repeat (first | refine blk_drewN ?_ _ | refine blk_drew ?_ | refine blk_alloc ?_ _)); exact BK193.out) hb); have n2_ := Aside0.mk (below_step (by repeat (first | (with_reducible first | exact HB.out | apply below_alloc | apply pw_below_drewN | apply below_drew1 | refine below_set ?_ GE193.out) | exact HB.out)) hb); clear HO_13; clear BK193; clear HB; have HO_13 := n0_; have BK193 := n1_; have HB := n2_; clear n0_ n1_ n2_; (try clear hb); (try clear hb2); (try clear hk); (try clear hi)))
                            go_ret
                            exact ⟨by first | rfl | (simp [errW_none, errW_some] <;> rfl) | (simp [*, errW_none, errW_some] <;> rfl), by repeat (first | (with_reducible first | exact HB.out | apply below_alloc | apply pw_below_drewN | apply below_drew1 | refine below_set ?_ GE193.out) | exact HB.out)⟩
                      · rw [if_neg c41] at H
                        have c41b0 : (x15_38 == 0) = false := beq_eq_false_iff_ne.mpr c41
                        have c41b1 : (x15_38 != 0) = true := bne_iff_ne.mpr c41
                        by_cases c94 : t204 = x15_38
                        · rw [if_pos c94] at H
                          have c94b0 : (t204 == x15_38) = true := beq_iff_eq.mpr c94
                          have c94b1 : (t204 != x15_38) = false := bne_eq_false_iff_eq.mpr c94
                          clear c94
                          by_cases c95 : t208 = x15_38
                          · rw [if_pos c95] at H
                            have c95b0 : (t208 == x15_38) = true := beq_iff_eq.mpr c95
                            have c95b1 : (t208 != x15_38) = false := bne_eq_false_iff_eq.mpr c95
                            clear c95
                            by_cases c96 : t202 = 0
                            · rw [if_pos c96] at H
                              have c96b0 : (t202 == 0) = true := beq_iff_eq.mpr c96
                              have c96b1 : (t202 != 0) = false := bne_eq_false_iff_eq.mpr c96
                              clear c96
                              by_cases c97 : t203 = true
                              · subst c97
                                have H1 : (some false) = some r := by rw [if_pos rfl] at H; exact H
                                clear H
                                have H := H1
                                clear H1
                                obtain rfl := Option.some.inj H
                                go_wp2
                                go_ret
                                exact ⟨by first | rfl | (simp [errW_none, errW_some] <;> rfl) | (simp [*, errW_none, errW_some] <;> rfl), by repeat (first | (with_reducible first | exact HB.out | apply below_alloc | apply pw_below_drewN | apply below_drew1 | refine below_set ?_ GE193.out) | exact HB.out)⟩
                              · replace c97 := Bool.eq_false_iff.mpr c97
                                subst c97
                                have H1 : (if (t205.length : Int) = 0 then ((walkmilllaw02_known.f).bind fun t213 => (some t213)) else (some false)) = some r := by rw [if_neg (show ¬ (false = true) by decide)] at H; exact H
                                clear H
                                have H := H1
                                clear H1
                                by_cases c98 : (t205.length : Int) = 0
                                · rw [if_pos c98] at H
                                  have c98b0 : ((t205.length : Int) == 0) = true := beq_iff_eq.mpr c98
                                  have c98b1 : ((t205.length : Int) != 0) = false := bne_eq_false_iff_eq.mpr c98
                                  clear c98
                                  replace H := Option.bind_eq_some_iff.mp H
                                  obtain ⟨t213, A990, H⟩ := H
                                  replace H : (some t213) = some r := H
                                  have A99 := Aside0.mk A990
                                  clear A990
                                  obtain rfl := Option.some.inj H
                                  obtain ⟨Ao100, co100, eo100⟩ := Kd.R_slice HO_13.out
                                  subst eo100
                                  go_wp2_with (first | (go_at_call 15; (with_reducible refine (walkmilllaw02_known.calls  t213 _ A99.out).mono ?_); rintro e w101 ⟨rfl, hb⟩; have n0_ := Aside0.mk (Kd.R_below (by (with_reducible repeat (first | apply Kd.R_alloc | apply Kd.R_drewN | apply Kd.R_drew)); exact HO_13.out) hb); have n1_ := Aside0.mk (blk_below (g := gb193) (o := .cells #[.int .i64 a0_0, .int .i64 a0_1, .int .i64 a0_2, .int .i64 a0_3, .int .i64 a0_4, .int .i64 a0_5, .int .i64 a0_6] 25 (0, 0)) (by (with_reducible repeat (first | refine blk_drewN ?_ _ | refine blk_drew ?_ | refine blk_alloc ?_ _)); exact BK193.out) hb); have n2_ := Aside0.mk (below_step (by repeat (first | (with_reducible first | exact HB.out | apply below_alloc | apply pw_below_drewN | apply below_drew1 | refine below_set ?_ GE193.out) | exact HB.out)) hb); clear HO_13; clear BK193; clear HB; have HO_13 := n0_; have BK193 := n1_; have HB := n2_; clear n0_ n1_ n2_; (try clear hb); (try clear hb2); (try clear hk); (try clear hi)))
                                  go_ret
                                  exact ⟨by first | rfl | (simp [errW_none, errW_some] <;> rfl) | (simp [*, errW_none, errW_some] <;> rfl), by repeat (first | (with_reducible first | exact HB.out | apply below_alloc | apply pw_below_drewN | apply below_drew1 | refine below_set ?_ GE193.out) | exact HB.out)⟩
                                · rw [if_neg c98] at H
                                  have c98b0 : ((t205.length : Int) == 0) = false := beq_eq_false_iff_ne.mpr c98
                                  have c98b1 : ((t205.length : Int) != 0) = true := bne_iff_ne.mpr c98
                                  have c98b2 : ¬ (t205 = []) := fun h_ => c98 (by rw [h_]; rfl)
                                  obtain rfl := Option.some.inj H
                                  obtain ⟨Ao102, co102, eo102⟩ := Kd.R_slice HO_13.out
                                  subst eo102
                                  go_wp2
                                  go_ret
                                  exact ⟨by first | rfl | (simp [errW_none, errW_some] <;> rfl) | (simp [*, errW_none, errW_some] <;> rfl), by repeat (first | (with_reducible first | exact HB.out | apply below_alloc | apply pw_below_drewN | apply below_drew1 | refine below_set ?_ GE193.out) | exact HB.out)⟩
                            · rw [if_neg c96] at H
                              have c96b0 : (t202 == 0) = false := beq_eq_false_iff_ne.mpr c96
                              have c96b1 : (t202 != 0) = true := bne_iff_ne.mpr c96
                              obtain rfl := Option.some.inj H
                              go_wp2
                              go_ret
                              exact ⟨by first | rfl | (simp [errW_none, errW_some] <;> rfl) | (simp [*, errW_none, errW_some] <;> rfl), by repeat (first | (with_reducible first | exact HB.out | apply below_alloc | apply pw_below_drewN | apply below_drew1 | refine below_set ?_ GE193.out) | exact HB.out)⟩
                          · rw [if_neg c95] at H
                            have c95b0 : (t208 == x15_38) = false := beq_eq_false_iff_ne.mpr c95
                            have c95b1 : (t208 != x15_38) = true := bne_iff_ne.mpr c95
                            obtain rfl := Option.some.inj H
                            go_wp2
                            go_ret
                            exact ⟨by first | rfl | (simp [errW_none, errW_some] <;> rfl) | (simp [*, errW_none, errW_some] <;> rfl), by repeat (first | (with_reducible first | exact HB.out | apply below_alloc | apply pw_below_drewN | apply below_drew1 | refine below_set ?_ GE193.out) | exact HB.out)⟩
                        · rw [if_neg c94] at H
                          have c94b0 : (t204 == x15_38) = false := beq_eq_false_iff_ne.mpr c94
                          have c94b1 : (t204 != x15_38) = true := bne_iff_ne.mpr c94
                          obtain rfl := Option.some.inj H
                          go_wp2
                          go_ret
                          exact ⟨by first | rfl | (simp [errW_none, errW_some] <;> rfl) | (simp [*, errW_none, errW_some] <;> rfl), by repeat (first | (with_reducible first | exact HB.out | apply below_alloc | apply pw_below_drewN | apply below_drew1 | refine below_set ?_ GE193.out) | exact HB.out)⟩
end Go.Proofs.Ytcnlbbmokphjnaa.Q
namespace Go.Proofs.Ytcnlbbmokphjnaa.Rw
open Go.RowKit Go.Proofs.YtcnlbbmokphjnaaW.PrintWords
set_option linter.unusedVariables false
set_option linter.unusedSimpArgs false
theorem add_two (a : Addr) (x y : Nat) : (a.add x).add y = a.add (x + y) := by
  unfold Addr.add
  by_cases h1 : x = 0
  · subst h1; simp
  · by_cases h2 : y = 0
    · subst h2; simp
    · have h3 : ¬ x + y = 0 := by omega
      simp [h1, h2, Nat.add_assoc]
structure Opens {α : Type} (P : Program) (t : TypeId) (d : Kd α) (good : α → Prop) : Prop where
  size : d.sz = P.cellsOf t
  read : ∀ {H : Type} {enc : TypeId × Value → H} {w : World} {base : Nat} {sp : Nat → Bool} {held : Bool} {fuel : Nat} {cs : List Value} {x : DataW H × List MemPlace}, DataW.trod enc P w base sp held fuel t cs = some x → ∃ y : α, d.K w y cs ∧ good y
theorem Opens.int {P : Program} {t : TypeId} {k : IntKind} (ht : P.underlying t = some (.int k)) (hc : 1 = P.cellsOf t) : Opens P t (Kd.int k) (fun n => (Lit.int k n).wf = true) := ⟨hc, fun h => by
  obtain ⟨n, rfl, rfl, hw⟩ := DataW.trod_int ht h
  exact ⟨n, rfl, hw⟩⟩
theorem Opens.bool {P : Program} {t : TypeId} (ht : P.underlying t = some .bool) (hc : 1 = P.cellsOf t) : Opens P t Kd.bool (fun _ => True) := ⟨hc, fun h => by
  obtain ⟨b, rfl, rfl⟩ := DataW.trod_bool ht h
  exact ⟨b, rfl, trivial⟩⟩
theorem Opens.string {P : Program} {t : TypeId} (ht : P.underlying t = some .string) (hc : 1 = P.cellsOf t) : Opens P t Kd.string (fun _ => True) := ⟨hc, fun h => by
  obtain ⟨s, rfl, rfl, _⟩ := DataW.trod_string ht h
  exact ⟨s, rfl, trivial⟩⟩
theorem Opens.slice {α : Type} {P : Program} {t e : TypeId} {d : Kd α} {good : α → Prop} (ht : P.underlying t = some (.slice e)) (hc : 1 = P.cellsOf t) (h : Opens P e d good) : Opens P t (Kd.slice e d) (fun l => ∀ x ∈ l, good x) := ⟨hc, fun {H enc w base sp held fuel cs x} hx => by
  rcases DataW.trod_slice ht hx with ⟨rfl, _⟩ | ⟨a, len, cap, elems, rest, n, _, rfl, _, hb, hl, hm, hlen, hel, _, _⟩
  · exact ⟨[], ⟨none, 0, rfl, Nat.le_refl _, Kd.C_nil _ _⟩, fun x hx => by cases hx⟩
  · have key : ∀ m, m ≤ len → ∃ l : List α, l.length = m ∧ ∀ i z, l[i]? = some z → good z ∧ ∃ c, c.length = d.sz ∧ d.K w z c ∧ ∀ j u, c[j]? = some u → w.cell? (a.add (i * d.sz + j)) = some u := by
      intro m
      induction m with
      | zero => intro _; exact ⟨[], rfl, fun i z hz => by simp at hz⟩
      | succ m ih =>
        intro hle
        obtain ⟨l, hll, hl2⟩ := ih (by omega)
        have h1 := hel m (by omega)
        rw [List.getElem?_eq_getElem (by omega), Option.bind_eq_some_iff] at h1
        obtain ⟨c, hc1, hc2⟩ := h1
        obtain ⟨z, hz, hg⟩ := h.read hc2
        obtain ⟨_, hcl, hcc⟩ := World.cells?_some hc1
        refine ⟨l ++ [z], by simp [hll], fun i z' hz' => ?_⟩
        rcases Nat.lt_or_ge i l.length with hlt | hge
        · rw [List.getElem?_append_left hlt] at hz'
          exact hl2 i z' hz'
        · rw [List.getElem?_append_right hge] at hz'
          have e : i = m := by
            rcases Nat.eq_zero_or_pos (i - l.length) with e | e
            · omega
            · rw [List.getElem?_eq_none (by simp; omega)] at hz'; cases hz'
          subst e
          rw [show i - l.length = 0 by omega] at hz'
          simp only [List.getElem?_cons_zero, Option.some.injEq] at hz'
          subst hz'
          refine ⟨hg, c, by rw [hcl, h.size], hz, fun j u hu => ?_⟩
          have hj : j < P.cellsOf e := by rw [← hcl]; exact (List.getElem?_eq_some_iff.1 hu).1
          have := hcc j hj
          rw [hu] at this
          rw [h.size, ← this, add_two]
    obtain ⟨l, hll, hl2⟩ := key len (Nat.le_refl _)
    refine ⟨l, ⟨some a, cap, by rw [hll], by omega, rfl, by unfold maxLen at hm; omega, fun _ => ⟨a, rfl, fun j p hj => ?_⟩⟩, fun x hx => ?_⟩
    · obtain ⟨_, c, h1, h2, h3⟩ := hl2 j p hj
      exact ⟨c, h1, h2, h3⟩
    · obtain ⟨i, hi⟩ := List.getElem?_of_mem hx
      exact (hl2 i x hi).1⟩
structure FOpens {α : Type} (P : Program) (fs : List Field) (off : Nat) (d : Kd α) (good : α → Prop) : Prop where
  read : ∀ {H : Type} {enc : TypeId × Value → H} {w : World} {base : Nat} {sp : Nat → Bool} {held : Bool} {fuel : Nat} {cs : List Value},
  (∀ (i : Nat) (f : Field), fs[i]? = some f → ∃ y, DataW.trod enc P w base sp held fuel f.type ((cs.drop f.offset).take (P.cellsOf f.type)) = some y) → cs.length = off + d.sz → ∃ y : α, d.K w y (cs.drop off) ∧ good y
theorem FOpens.one {α : Type} {P : Program} {f : Field} {off : Nat} {d : Kd α} {good : α → Prop} (h : Opens P f.type d good) (ho : f.offset = off) : FOpens P [f] off d good := ⟨fun {H enc w base sp held fuel cs} hf hl => by
  obtain ⟨y, hy⟩ := hf 0 f rfl
  rw [ho, ← h.size, List.take_of_length_le (by rw [List.length_drop]; omega)] at hy
  exact h.read hy⟩
theorem FOpens.cons {α β : Type} {P : Program} {f : Field} {fs : List Field} {off : Nat} {d1 : Kd α} {d2 : Kd β} {g1 : α → Prop} {g2 : β → Prop} (h1 : Opens P f.type d1 g1) (ho : f.offset = off) (h2 : FOpens P fs (off + d1.sz) d2 g2) : FOpens P (f :: fs) off (Kd.pair d1 d2) (fun x => g1 x.1 ∧ g2 x.2) := ⟨fun {H enc w base sp held fuel cs} hf hl => by
  have hsz : (Kd.pair d1 d2).sz = d1.sz + d2.sz := rfl
  obtain ⟨y1, hy1⟩ := hf 0 f rfl
  rw [ho, ← h1.size] at hy1
  obtain ⟨x1, hk1, hg1⟩ := h1.read hy1
  obtain ⟨x2, hk2, hg2⟩ := h2.read (cs := cs) (fun i g hg => hf (i + 1) g (by simpa using hg)) (by omega)
  refine ⟨(x1, x2), ⟨_, _, ?_, hk1, hk2⟩, hg1, hg2⟩
  rw [← List.drop_drop, List.take_append_drop]⟩
theorem Opens.struct {α : Type} {P : Program} {t : TypeId} {fs : Array Field} {d : Kd α} {good : α → Prop} (ht : P.underlying t = some (.struct fs)) (hs : d.sz = P.cellsOf t) (h : FOpens P fs.toList 0 d good) : Opens P t d good := ⟨hs, fun {H enc w base sp held fuel cs x} hx => by
  obtain ⟨xs, n, _, _, hcl, hxl, hf⟩ := DataW.trod_struct ht hx
  have := h.read (enc := enc) (w := w) (base := base) (sp := sp) (held := held) (fuel := n) (cs := cs) (fun i f hi => by
    rw [Array.getElem?_toList] at hi
    have hlt := (Array.getElem?_eq_some_iff.1 hi).1
    exact ⟨xs[i]'(by omega), by rw [hf i f hi, List.getElem?_eq_getElem]⟩) (by omega)
  simpa using this⟩
def fld (e : TypeId) (off : Nat) : Field := { name := "", type := e, offset := off, embedded := false, tag := "", pkgPath := "", byteOffset := 0 }
theorem Opens.array {α : Type} {P : Program} {t e : TypeId} {n : Nat} {d : Kd α} {good : α → Prop} (c : Nat) (ht : P.underlying t = some (.array n e)) (hs : d.sz = P.cellsOf t) (hc : c = P.cellsOf e) (h : FOpens P ((List.range n).map fun i => fld e (i * c)) 0 d good) : Opens P t d good := ⟨hs, fun {H enc w base sp held fuel cs x} hx => by
  subst hc
  obtain ⟨xs, m, _, _, hcl, hxl, hf⟩ := DataW.trod_array ht hx
  have := h.read (enc := enc) (w := w) (base := base) (sp := sp) (held := held) (fuel := m) (cs := cs) (fun i f hi => by
    rw [List.getElem?_map, Option.map_eq_some_iff] at hi
    obtain ⟨j, hj, rfl⟩ := hi
    have hlt := (List.getElem?_eq_some_iff.1 hj).1
    rw [List.length_range] at hlt
    rw [List.getElem?_range hlt] at hj
    cases hj
    exact ⟨xs[i]'(by omega), (hf i hlt).trans (List.getElem?_eq_getElem (by omega))⟩) (by omega)
  simpa using this⟩
theorem okWide_array {P : Program} {w : World} {r : Reach} {base : Nat} {t e : TypeId} {n : Nat} {v : Value} (ht : P.underlying t = some (.array n e)) (h : Value.okWide P w r base t v) : ∃ cs, v = .agg cs ∧ cs.size = P.cellsOf t := by
  simp only [Value.okWide, ht] at h
  obtain ⟨cs, h1, h2, _⟩ := h
  exact ⟨cs, h1, h2⟩
theorem Opens.iso {α β : Type} {P : Program} {t : TypeId} {d : Kd α} {good : α → Prop} (f : β → α) (g : α → β) (hfg : ∀ x, f (g x) = x) (h : Opens P t d good) : Opens P t (Kd.iso d f) (fun y => good (f y)) := ⟨h.size, fun hx => by
  obtain ⟨y, hk, hg⟩ := h.read hx
  exact ⟨g y, by show d.K _ (f (g y)) _; rw [hfg]; exact hk, by rw [hfg]; exact hg⟩⟩
end Go.Proofs.Ytcnlbbmokphjnaa.Rw
namespace Go.Proofs.Ytcnlbbmokphjnaa.Q
open Go.RowKit Go.Proofs.YtcnlbbmokphjnaaW.PrintWords Go.Proofs.YtcnlbbmokphjnaaW.PrintLast Go.Proofs.YtcnlbbmokphjnaaW.PrintMore
attribute [local go_sem] max2_int min2_int max_two min_two max_three min_three max_four min_four   -- for this text's walks alone
set_option linter.unusedVariables false
set_option linter.unusedSimpArgs false
def stream_Blows.f (a0_0 : Int) (a0_1 : Int) (a0_2 : Int) (a0_3 : Int) (a0_4 : Int) (a0_5 : Int) (a0_6 : Int) (l1 : List Int) : Option (Int × Int × Int) := some ((blowsS ⟨a0_0, a0_1, a0_2, a0_3, a0_4, a0_5, a0_6⟩ l1).lo, (blowsS ⟨a0_0, a0_1, a0_2, a0_3, a0_4, a0_5, a0_6⟩ l1).hi, blowsE ⟨a0_0, a0_1, a0_2, a0_3, a0_4, a0_5, a0_6⟩ l1)
theorem stream_Blows.calls (a0_0 : Int) (a0_1 : Int) (a0_2 : Int) (a0_3 : Int) (a0_4 : Int) (a0_5 : Int) (a0_6 : Int) (A1 : Option Addr) (c1 : Nat) (l1 : List Int) (r1 : Int) (r2 : Int) (r3 : Int) (w : World) (hr1 : Kd.C (Kd.int .i64) w A1 l1.length l1) (hc1 : l1.length ≤ c1) (h : stream_Blows.f a0_0 a0_1 a0_2 a0_3 a0_4 a0_5 a0_6 l1 = some (r1, r2, r3)) :
    Calls Try.prog 27 #[.agg #[.int .i64 a0_0, .int .i64 a0_1, .int .i64 a0_2, .int .i64 a0_3, .int .i64 a0_4, .int .i64 a0_5, .int .i64 a0_6], .slice A1 l1.length c1] w fun e w' => e = .returned (.tuple #[.agg #[.int .i64 r1, .int .i64 r2], .int .i64 r3]) ∧ Below w.heap.size w w' := by
  simp only [stream_Blows.f, Option.some.injEq, Prod.mk.injEq] at h
  obtain ⟨rfl, rfl, rfl⟩ := h
  exact blowsF_ ⟨a0_0, a0_1, a0_2, a0_3, a0_4, a0_5, a0_6⟩ A1 c1 l1 w hr1 hc1
def walkmillref02_Sum.l0 : Nat → List Int → Int → Int → Option (Int)
  | 0, _, _, _ => none
  | k + 1, x0, x3, x4 => if x4 < (x0.length : Int) then (if 0 ≤ x4 then (walkmillref02_Sum.l0 k x0 (wrap64 (x3 + (rd x0 x4))) (wrap64 (x4 + 1))) else (none)) else (some x3)
def walkmillref02_Sum.f (k : Nat) (l0 : List Int) : Option (Int) := walkmillref02_Sum.l0 k l0 0 0
theorem walkmillref02_Sum.mono_l : ∀ k, (∀ y0 y1 y2, LeO (walkmillref02_Sum.l0 k y0 y1 y2) (walkmillref02_Sum.l0 (k + 1) y0 y1 y2))
  | 0 => fun _ _ _ r h => by simp [walkmillref02_Sum.l0] at h
  | k + 1 => by
    have ih0 := walkmillref02_Sum.mono_l k
    · intro y0 y1 y2
      unfold walkmillref02_Sum.l0
      repeat' first
      | (with_reducible exact ih0 _ _ _)
      | (with_reducible exact LeO.refl _)
      | (with_reducible exact LeO.none _)
      | (with_reducible refine LeO.ite ?_ ?_)
      | (with_reducible refine LeO.bind ?_ (fun _ => ?_))
      | exact ih0 _ _ _
      | exact LeO.none _
      | refine LeO.ite ?_ ?_
      | refine LeO.bind ?_ (fun _ => ?_)
theorem walkmillref02_Sum.mono : ∀ a0 k, LeO (walkmillref02_Sum.f k a0) (walkmillref02_Sum.f (k + 1) a0) := by
  intro a0 k
  have ih0 := walkmillref02_Sum.mono_l k
  unfold walkmillref02_Sum.f
  repeat' first
      | (with_reducible exact ih0 _ _ _)
      | (with_reducible exact LeO.refl _)
      | (with_reducible exact LeO.none _)
      | (with_reducible refine LeO.ite ?_ ?_)
      | (with_reducible refine LeO.bind ?_ (fun _ => ?_))
      | exact ih0 _ _ _
      | exact LeO.none _
      | refine LeO.ite ?_ ?_
      | refine LeO.bind ?_ (fun _ => ?_)
set_option maxHeartbeats 8000000 in
set_option maxRecDepth 100000 in
theorem walkmillref02_Sum.calls (k : Nat) (A0 : Option Addr) (c0 : Nat) (l0 : List Int) (r : Int) (w : World) (hr0 : Kd.C (Kd.int .i64) w A0 l0.length l0) (hc0 : l0.length ≤ c0) (h : walkmillref02_Sum.f k l0 = some r) :
    Calls Try.prog 29 #[.slice A0 l0.length c0] w fun e w' => e = .returned (.int .i64 r) ∧ Drawn0 w w' := by
  have HR0 := Aside0.mk hr0
  have HC0 := Aside0.mk hc0
  clear hr0 hc0
  have H : (walkmillref02_Sum.l0 k l0 0 0) = some r := h
  clear h
  have H' := Aside0.mk H
  clear H
  go_enter Try.func29, Try.ntmps29
  go_wp2
  go_loopg [3, 4] k (fun kq v3 v4 w' => ∃ (x3_1 : Int) (x4_1 : Int), v3 = .int .i64 x3_1 ∧ v4 = .int .i64 x4_1 ∧ Aside0 (walkmillref02_Sum.l0 kq l0 x3_1 x4_1 = some r) ∧ Aside0 (kq ≤ k) ∧ Drawn0 w w')
  case atStart => exact ⟨(0), (0), (by first | rfl | (simp; done) | (simp [*]; done)), (by first | rfl | (simp; done) | (simp [*]; done)), H', ⟨Nat.le_refl _⟩, by repeat (first | exact Drawn0.refl _ | apply Drawn0.step)⟩
  case round =>
    clear H'
    obtain ⟨x3_1, x4_1, rfl, rfl, HA, HK1, ⟨m1, rfl⟩⟩ := hrel
    cases gk with
    | zero => exact absurd HA.out (by simp [walkmillref02_Sum.l0])
    | succ k1 =>
      have H := HA.out
      clear HA
      simp only [walkmillref02_Sum.l0] at H
      by_cases c2 : x4_1 < (l0.length : Int)
      · rw [if_pos c2] at H
        have c2b0 : decide (x4_1 < (l0.length : Int)) = true := decide_eq_true c2
        clear c2
        by_cases c3 : 0 ≤ x4_1
        · rw [if_pos c3] at H
          have c3b0 : decide (0 ≤ x4_1) = true := decide_eq_true c3
          clear c3
          have H' := Aside0.mk H
          clear H
          have p222 : 0 ≤ (x4_1 : Int) := of_decide_eq_true (by first | (with_reducible assumption) | assumption)
          have q222 : x4_1 < (l0.length : Int) := of_decide_eq_true (by first | (with_reducible assumption) | assumption)
          obtain ⟨ad222, e222, hx222_0⟩ := Kd.at_int HR0.out x4_1 p222 q222
          cases e222
          replace p222 := eq_true p222
          replace q222 := eq_true q222
          go_wp2
          go_roundg k1
          case measure => have := HK1.out; omega
          case rel => exact ⟨(wrap64 (x3_1 + (rd l0 x4_1))), (wrap64 (x4_1 + 1)), (by first | rfl | (simp; done) | (simp [*]; done)), (by first | rfl | (simp; done) | (simp [*]; done)), H', ⟨by have := HK1.out; omega⟩, by repeat (first | exact Drawn0.refl _ | apply Drawn0.step)⟩
        · rw [if_neg c3] at H
          exact absurd H (by simp)
      · rw [if_neg c2] at H
        have c2b0 : decide (x4_1 < (l0.length : Int)) = false := decide_eq_false c2
        clear c2
        obtain rfl := Option.some.inj H
        go_wp2
        go_ret
        exact ⟨by first | rfl | (simp; done) | (simp [*]; done), by repeat (first | exact Drawn0.refl _ | apply Drawn0.step)⟩
def walkmilllaw02_span.f (a0 : Int) (a1 : Int) : Option (Int × Int) := some (a0, a1)
set_option maxHeartbeats 8000000 in
set_option maxRecDepth 100000 in
theorem walkmilllaw02_span.calls (a0 : Int) (a1 : Int) (r1 : Int) (r2 : Int) (w : World) (h : walkmilllaw02_span.f a0 a1 = some (r1, r2)) :
    Calls Try.prog 30 #[.int .i64 a0, .int .i64 a1] w fun e w' => e = .returned (.agg #[.int .i64 r1, .int .i64 r2]) ∧ Below w.heap.size w w' := by
  have hu23 := Try.underlying23
  have HB := Aside0.mk (Below.refl w.heap.size w)
  have H : (some (a0, a1)) = some (r1, r2) := h
  clear h
  simp only [Option.some.injEq, Prod.mk.injEq] at H
  obtain ⟨rfl, rfl⟩ := H
  go_enter Try.func30, Try.ntmps30
  go_wp2_with (first | ((with_reducible refine gate_dst (N := 4) rfl ?_); refine box_event ?hg (N := 4) ?hd (cs := #[.int .i64 0, .int .i64 0]) (t := 23) ?hr ?_; (case hd => rfl); (case hg => rfl); (case hr => first | (go_simp; done) | (go_simp; rfl)); intro gb223 hg w3 hbox hb; have n0_ := Aside0.mk (below_step (by repeat (first | (with_reducible first | exact HB.out | apply below_alloc | apply pw_below_drewN | apply below_drew1) | exact HB.out)) hb); have n1_ := Aside0.mk (hbox); have n2_ := Aside0.mk ((by rw [hg]; exact (below_size (by repeat (first | (with_reducible first | exact HB.out | apply below_alloc | apply pw_below_drewN | apply below_drew1) | exact HB.out))) : w.heap.size ≤ gb223)); have n3_ := Aside0.mk ((by rw [hg]; exact (below_size (by repeat (first | (with_reducible first | exact HB.out | apply below_alloc | apply pw_below_drewN | apply below_drew1) | exact HB.out))) : w.heap.size ≤ gb223)); clear HB; have HB := n0_; have BK223 := n1_; have GW223 := n2_; have GE223 := n3_; clear n0_ n1_ n2_ n3_; clear hb hbox hg; have hcz4_0 : w3.cell? ⟨gb223, 0, none⟩ = some (.int .i64 0) := (blk_cell BK223.out 0).trans rfl; have hcz4_1 : w3.cell? ⟨gb223, 1, none⟩ = some (.int .i64 0) := (blk_cell BK223.out 1).trans rfl; have hfz4_0 := blk_frozen BK223.out 0; have hfz4_1 := blk_frozen BK223.out 1))
  refine bodyPost_ret (results_cell_row rfl _ _ gb223 23 #[.int .i64 a0, .int .i64 a1] (0, 0) _ rfl (by (with_reducible repeat (first | refine blk_drewN ?_ _ | refine blk_drew ?_ | refine blk_alloc ?_ _)); refine blk_put (cs := #[.int .i64 a0, .int .i64 0]) ?_ 1 _ rfl; (with_reducible repeat (first | refine blk_drewN ?_ _ | refine blk_drew ?_ | refine blk_alloc ?_ _)); refine blk_put (cs := #[.int .i64 0, .int .i64 0]) ?_ 0 _ rfl; (with_reducible repeat (first | refine blk_drewN ?_ _ | refine blk_drew ?_ | refine blk_alloc ?_ _)); exact BK223.out) Try.underlying23 rfl (by kernel_rfl)) rfl ?_
  exact ⟨by first | rfl | (simp [errW_none, errW_some] <;> rfl) | (simp [*, errW_none, errW_some] <;> rfl), by repeat (first | (with_reducible first | exact HB.out | apply below_alloc | apply pw_below_drewN | apply below_drew1 | refine below_set ?_ GE223.out) | exact HB.out)⟩
end Go.Proofs.Ytcnlbbmokphjnaa.Q
namespace Go.Proofs.Ytcnlbbmokphjnaa.Q
open Go.RowKit Go.Proofs.YtcnlbbmokphjnaaW.PrintWords
set_option linter.unusedVariables false
set_option linter.unusedSimpArgs false
theorem Ev.up {α : Type} {g : Nat → Option α} {r : α} (h : Ev (fun k => g (k + 1)) r) : Ev g r := by
  obtain ⟨K, hK⟩ := h
  refine ⟨K + 1, fun k hk => ?_⟩
  obtain ⟨m, rfl⟩ : ∃ m, k = m + 1 := ⟨k - 1, by omega⟩
  exact hK m (by omega)
theorem wr {x : Int} (h : -9223372036854775808 ≤ x ∧ x ≤ 9223372036854775807) : wrap64 x = x := by unfold wrap64; omega
theorem wi (i : Nat) (h : i ≤ 100000) : wrap64 ((i : Int) + 1) = ((i + 1 : Nat) : Int) := by rw [wr (by omega)]; omega
theorem rd23 (l : List S23) (i : Nat) (h : i < l.length) : rd_T23 l (i : Int) = l[i] := by simp [rd_T23, h]
theorem rdI (l : List Int) (i : Nat) (h : i < l.length) : rd l (i : Int) = l[i] := by simp [rd, h]
theorem toSp_drop (l : List S23) (i : Nat) (h : i < l.length) : (toSp l).drop i = ⟨(l[i]).f0, (l[i]).f1⟩ :: (toSp l).drop (i + 1) := by
  rw [List.drop_eq_getElem_cons (by rw [toSp_len]; exact h)]
  simp [toSp]
theorem toSp_inj {a b : List S23} (h : toSp a = toSp b) : a = b := by
  have h2 := congrArg ofSp h
  simpa [toSp, ofSp, Function.comp_def] using h2
instance : DecidableEq S23 := fun a b => if h : a.f0 = b.f0 ∧ a.f1 = b.f1 then isTrue (by cases a; cases b; simp_all) else isFalse (by rintro rfl; exact h ⟨rfl, rfl⟩)
theorem drop_dec {α : Type} [DecidableEq α] (a b : List α) (i : Nat) (ha : i < a.length) (hb : i < b.length) : decide (a.drop i = b.drop i) = (decide (a[i] = b[i]) && decide (a.drop (i + 1) = b.drop (i + 1))) := by
  rw [List.drop_eq_getElem_cons ha, List.drop_eq_getElem_cons hb, Bool.eq_iff_iff]
  simp only [decide_eq_true_eq, Bool.and_eq_true, List.cons.injEq]
theorem Copy_f (l : List S23) (h : l.length ≤ 1000) : walkmillref02_Copy.f l = some l := by
  simp only [walkmillref02_Copy.f, Option.bind_some, List.length_nil, Nat.zero_add, List.nil_append]
  rw [if_pos (by omega)]
theorem Ints_f (l : List Int) (h : l.length ≤ 1000) : walkmillref02_Ints.f l = some l := by
  simp only [walkmillref02_Ints.f, Option.bind_some, List.length_nil, Nat.zero_add, List.nil_append]
  rw [if_pos (by omega)]
theorem In_f (a b c : Int) : walkmillref02_In.f a b c = some (inB b c [a]) := by
  have e : inB b c [a] = (decide (b ≤ a) && decide (a ≤ c)) := by
    rw [Bool.eq_iff_iff, inB_iff]
    simp
  rw [e]
  unfold walkmillref02_In.f
  split <;> simp_all <;> omega
theorem Span_f (a b lo hi : Int) : walkmillref02_Span.f a b lo hi = some (isSpanB a b lo hi) := by
  have e : isSpanB a b lo hi = (inB lo b [a] && decide (b ≤ hi)) := by
    rw [Bool.eq_iff_iff, isSpanB_iff]
    simp [inB_iff]
    omega
  rw [e]
  unfold walkmillref02_Span.f
  rw [In_f, Option.bind_some]
  split <;> simp_all
theorem Mill_f (a0 a1 a2 a3 a4 a5 a6 : Int) : walkmillref02_Mill.f a0 a1 a2 a3 a4 a5 a6 = some (millE ⟨a0, a1, a2, a3, a4, a5, a6⟩) := by
  unfold walkmillref02_Mill.f millE millB
  simp only [In_f, Span_f, Option.bind_some]
  repeat' split
  all_goals simp_all
theorem Check_l0 (l : List S23) (hl : l.length ≤ 1000) : ∀ (d i : Nat), i + d = l.length → Ev (fun k => walkmillref02_Check.l0 k l (i : Int)) (if ((toSp l).drop i).any badSp then 3 else 0)
  | 0, i, h => by
    refine Ev.up ?_
    simp only [walkmillref02_Check.l0, if_neg (show ¬ (i : Int) < (l.length : Int) by omega)]
    rw [List.drop_eq_nil_of_le (by rw [toSp_len]; omega)]
    exact Ev.now 0
  | d + 1, i, h => by
    refine Ev.up ?_
    simp only [walkmillref02_Check.l0, if_pos (show (i : Int) < (l.length : Int) by omega), if_pos (show (0 : Int) ≤ (i : Int) by omega), Span_f, Option.bind_some, wi i (by omega), rd23 l i (by omega)]
    rw [toSp_drop l i (by omega), List.any_cons]
    have hb : badSp ⟨l[i].f0, l[i].f1⟩ = !isSpanB l[i].f0 l[i].f1 0 500 := rfl
    rw [hb]
    cases isSpanB l[i].f0 l[i].f1 0 500
    · simpa using Ev.now 3
    · simpa using Check_l0 l hl d (i + 1) (by omega)
theorem Check_f (a0 a1 a2 a3 a4 a5 a6 : Int) (l : List S23) (hl : l.length ≤ 1000) : Ev (fun k => walkmillref02_Check.f k a0 a1 a2 a3 a4 a5 a6 l) (checkE ⟨a0, a1, a2, a3, a4, a5, a6⟩ (toSp l)) := by
  simp only [walkmillref02_Check.f, Mill_f, Option.bind_some, checkE, toSp_len]
  by_cases h0 : millE ⟨a0, a1, a2, a3, a4, a5, a6⟩ = 0
  · simp only [if_pos h0]
    by_cases h1 : l.length > 24
    · simp only [if_pos h1, if_pos (show (l.length : Int) > 24 by omega)]
      exact Ev.now 5
    · simp only [if_neg h1, if_neg (show ¬ (l.length : Int) > 24 by omega)]
      by_cases h2 : l.length = 0
      · simp only [if_pos h2, if_pos (show (l.length : Int) = 0 by omega)]
        exact Ev.now 7
      · simp only [if_neg h2, if_neg (show ¬ (l.length : Int) = 0 by omega)]
        exact Check_l0 l hl l.length 0 (by omega)
  · simp only [if_neg h0]
    exact Ev.now _
theorem Same_l0 (a b : List S23) (hl : a.length ≤ 1000) (hab : a.length = b.length) : ∀ (d i : Nat), i + d = a.length → Ev (fun k => walkmillref02_Same.l0 k a b (i : Int)) (decide (a.drop i = b.drop i))
  | 0, i, h => by
    refine Ev.up ?_
    simp only [walkmillref02_Same.l0, if_neg (show ¬ (i : Int) < (a.length : Int) by omega)]
    rw [List.drop_eq_nil_of_le (by omega), List.drop_eq_nil_of_le (by omega)]
    simpa using Ev.now true
  | d + 1, i, h => by
    refine Ev.up ?_
    simp only [walkmillref02_Same.l0, if_pos (show (i : Int) < (a.length : Int) by omega), if_pos (show (0 : Int) ≤ (i : Int) by omega), if_pos (show (i : Int) < (b.length : Int) by omega), wi i (by omega), rd23 a i (by omega), rd23 b i (by omega)]
    rw [drop_dec a b i (by omega) (by omega)]
    by_cases hq : a[i] = b[i]
    · rw [decide_eq_true hq, Bool.true_and]
      have h2 : (!(a[i].f0 == b[i].f0) || !(a[i].f1 == b[i].f1)) = false := by rw [hq]; simp
      simp only [h2, Bool.false_eq_true, if_false]
      exact Same_l0 a b hl hab d (i + 1) (by omega)
    · have h2 : (!(a[i].f0 == b[i].f0) || !(a[i].f1 == b[i].f1)) = true := by
        cases hx : (!(a[i].f0 == b[i].f0) || !(a[i].f1 == b[i].f1))
        · simp at hx
          exact absurd (by
            have e1 : a[i] = ⟨a[i].f0, a[i].f1⟩ := rfl
            have e2 : b[i] = ⟨b[i].f0, b[i].f1⟩ := rfl
            rw [e1, e2, hx.1, hx.2]) hq
        · rfl
      simp only [h2, if_true]
      rw [decide_eq_false hq, Bool.false_and]
      exact Ev.now false
theorem Same_f (a b : List S23) (hl : a.length ≤ 1000) : Ev (fun k => walkmillref02_Same.f k a b) (decide (a = b)) := by
  unfold walkmillref02_Same.f
  by_cases h : a.length = b.length
  · simp only [if_pos (show (a.length : Int) = (b.length : Int) by omega)]
    simpa using Same_l0 a b hl h a.length 0 (by omega)
  · simp only [if_neg (show ¬ (a.length : Int) = (b.length : Int) by omega)]
    have : ¬ a = b := fun e => h (by rw [e])
    simpa [this] using Ev.now false
theorem Like_l0 (a b : List Int) (hl : a.length ≤ 1000) (hab : a.length = b.length) : ∀ (d i : Nat), i + d = a.length → Ev (fun k => walkmillref02_Like.l0 k a b (i : Int)) (decide (a.drop i = b.drop i))
  | 0, i, h => by
    refine Ev.up ?_
    simp only [walkmillref02_Like.l0, if_neg (show ¬ (i : Int) < (a.length : Int) by omega)]
    rw [List.drop_eq_nil_of_le (by omega), List.drop_eq_nil_of_le (by omega)]
    simpa using Ev.now true
  | d + 1, i, h => by
    refine Ev.up ?_
    simp only [walkmillref02_Like.l0, if_pos (show (i : Int) < (a.length : Int) by omega), if_pos (show (0 : Int) ≤ (i : Int) by omega), if_pos (show (i : Int) < (b.length : Int) by omega), wi i (by omega), rdI a i (by omega), rdI b i (by omega)]
    rw [drop_dec a b i (by omega) (by omega)]
    by_cases hq : a[i] = b[i]
    · rw [decide_eq_true hq, Bool.true_and]
      simp only [if_pos hq]
      exact Like_l0 a b hl hab d (i + 1) (by omega)
    · rw [decide_eq_false hq, Bool.false_and]
      simp only [if_neg hq]
      exact Ev.now false
theorem Like_f (a b : List Int) (hl : a.length ≤ 1000) : Ev (fun k => walkmillref02_Like.f k a b) (decide (a = b)) := by
  unfold walkmillref02_Like.f
  by_cases h : a.length = b.length
  · simp only [if_pos (show (a.length : Int) = (b.length : Int) by omega)]
    simpa using Like_l0 a b hl h a.length 0 (by omega)
  · simp only [if_neg (show ¬ (a.length : Int) = (b.length : Int) by omega)]
    have : ¬ a = b := fun e => h (by rw [e])
    simpa [this] using Ev.now false
theorem Plan_l0 (p : List Int) (hl : p.length ≤ 1000) (b c a0 a1 a2 a3 a4 a5 a6 : Int) : ∀ (d i : Nat), i + d = p.length → Ev (fun k => walkmillref02_Plan.l0 k p b c (i : Int) a0 a1 a2 a3 a4 a5 a6) (inB b c [(p.length : Int)] && inB 0 a0 (p.drop i))
  | 0, i, h => by
    refine Ev.up ?_
    simp only [walkmillref02_Plan.l0, if_neg (show ¬ (i : Int) < (p.length : Int) by omega), In_f, Option.bind_some]
    rw [List.drop_eq_nil_of_le (by omega)]
    simpa [inB] using Ev.now (inB b c [(p.length : Int)])
  | d + 1, i, h => by
    refine Ev.up ?_
    simp only [walkmillref02_Plan.l0, if_pos (show (i : Int) < (p.length : Int) by omega), if_pos (show (0 : Int) ≤ (i : Int) by omega), In_f, Option.bind_some, wi i (by omega), rdI p i (by omega)]
    rw [List.drop_eq_getElem_cons (show i < p.length by omega)]
    have e : inB 0 a0 (p[i] :: p.drop (i + 1)) = (inB 0 a0 [p[i]] && inB 0 a0 (p.drop (i + 1))) := by
      simp only [inB, List.any_cons, List.any_nil, Bool.or_false, Bool.not_or]
    rw [e]
    cases inB 0 a0 [p[i]]
    · simpa using Ev.now false
    · simpa using Plan_l0 p hl b c a0 a1 a2 a3 a4 a5 a6 d (i + 1) (by omega)
theorem Plan_f (a0 a1 a2 a3 a4 a5 a6 : Int) (p : List Int) (hl : p.length ≤ 1000) (b c : Int) : Ev (fun k => walkmillref02_Plan.f k a0 a1 a2 a3 a4 a5 a6 p b c) (inB b c [(p.length : Int)] && inB 0 a0 p) := by
  have h := Plan_l0 p hl b c a0 a1 a2 a3 a4 a5 a6 p.length 0 (by omega)
  simpa [walkmillref02_Plan.f] using h
theorem Sum_l0 (l : List Int) (hl : l.length ≤ 1000) (hb : ∀ x ∈ l, 0 ≤ x ∧ x ≤ 10) : ∀ (d i : Nat), i + d = l.length → Ev (fun k => walkmillref02_Sum.l0 k l (l.take i).sum (i : Int)) l.sum
  | 0, i, h => by
    refine Ev.up ?_
    simp only [walkmillref02_Sum.l0, if_neg (show ¬ (i : Int) < (l.length : Int) by omega)]
    rw [List.take_of_length_le (by omega)]
    exact Ev.now _
  | d + 1, i, h => by
    refine Ev.up ?_
    have h1 := sum_bd (l.take i) 10 (fun x hx => hb x (List.mem_of_mem_take hx))
    have h2 := hb (rd l i) (by rw [rdI l i (by omega)]; exact List.getElem_mem _)
    rw [List.length_take] at h1
    simp only [walkmillref02_Sum.l0, if_pos (show (i : Int) < (l.length : Int) by omega), if_pos (show (0 : Int) ≤ (i : Int) by omega), wi i (by omega)]
    rw [wr (by omega), ← take_sum l i (by omega)]
    exact Sum_l0 l hl hb d (i + 1) (by omega)
theorem Sum_f (l : List Int) (hl : l.length ≤ 1000) (hb : ∀ x ∈ l, 0 ≤ x ∧ x ≤ 10) : Ev (fun k => walkmillref02_Sum.f k l) l.sum := by
  simpa [walkmillref02_Sum.f] using Sum_l0 l hl hb l.length 0 (by omega)
theorem known_f : walkmilllaw02_known.f = some true := rfl
theorem span_f (a b : Int) : walkmilllaw02_span.f a b = some (a, b) := rfl
end Go.Proofs.Ytcnlbbmokphjnaa.Q
namespace Go.Proofs.Ytcnlbbmokphjnaa.Q
open Go.RowKit Go.Proofs.YtcnlbbmokphjnaaW.PrintWords
set_option linter.unusedVariables false
set_option linter.unusedSimpArgs false
def endG (most : Bool) : Sp → Int := if most then Sp.hi else Sp.lo
theorem Truth_l0 (l : List S23) (hl : l.length ≤ 1000) (most : Bool) (now : Int) : ∀ (d i : Nat) (out : List Int), i + d = l.length → out.length = i → Ev (fun k => walkmillref02_Truth.l0 k l most now out (i : Int)) (now, out ++ ((toSp l).drop i).map (endG most))
  | 0, i, out, h, ho => by
    refine Ev.up ?_
    simp only [walkmillref02_Truth.l0, if_neg (show ¬ (i : Int) < (l.length : Int) by omega)]
    rw [List.drop_eq_nil_of_le (by rw [toSp_len]; omega)]
    simpa using Ev.now (now, out)
  | d + 1, i, out, h, ho => by
    refine Ev.up ?_
    simp only [walkmillref02_Truth.l0, if_pos (show (i : Int) < (l.length : Int) by omega), if_pos (show (0 : Int) ≤ (i : Int) by omega), if_pos (show out.length < 17592186044416 by omega), wi i (by omega), rd23 l i (by omega)]
    rw [toSp_drop l i (by omega), List.map_cons]
    cases most
    · have := Truth_l0 l hl false now d (i + 1) (out ++ [l[i].f0]) (by omega) (by simp [ho])
      simpa [endG] using this
    · have := Truth_l0 l hl true now d (i + 1) (out ++ [l[i].f1]) (by omega) (by simp [ho])
      simpa [endG] using this
theorem Truth_f (a0 a1 a2 a3 a4 a5 a6 : Int) (l : List S23) (hl : l.length ≤ 1000) (most : Bool) : Ev (fun k => walkmillref02_Truth.f k a0 a1 a2 a3 a4 a5 a6 l most) (endG most ⟨a5, a6⟩, (toSp l).map (endG most)) := by
  simp only [walkmillref02_Truth.f, Option.bind_some]
  cases most
  · refine Ev.up ?_
    have := Truth_l0 l hl false a5 l.length 0 [] (by omega) rfl
    simpa [walkmillref02_Truth.j0, endG] using this
  · refine Ev.up ?_
    have := Truth_l0 l hl true a6 l.length 0 [] (by omega) rfl
    simpa [walkmillref02_Truth.j0, endG] using this
def pondL (m : Mill) : Int → List Int → List Int → List Int
  | now, c :: cs, p :: ps => (min m.ho (now + c) - p * m.T) :: if min m.ho (now + c) - p * m.T < 0 then [] else pondL m (min m.ho (now + c) - p * m.T) cs ps
  | _, _, _ => []
structure FineC (m : Mill) (came plan : List Int) : Prop where
  ho : 0 ≤ m.ho ∧ m.ho ≤ 500
  T : 0 ≤ m.T ∧ m.T ≤ 100
  flow : ∀ c ∈ came, 0 ≤ c ∧ c ≤ 2000
  pl : ∀ k ∈ plan, 0 ≤ k ∧ k ≤ 10
  len : plan.length ≤ came.length
  long : came.length ≤ 1000
theorem FineC.step {m came plan} (h : FineC m came plan) (now : Int) (hn : 0 ≤ now ∧ now ≤ 2000) (i : Nat) (hi : i < plan.length) :
    wrap64 (mn m.ho (wrap64 (now + rd came i)) - wrap64 (rd plan i * m.T)) = min m.ho (now + rd came i) - rd plan i * m.T ∧ (0 ≤ min m.ho (now + rd came i) - rd plan i * m.T → min m.ho (now + rd came i) - rd plan i * m.T ≤ 2000) := by
  have h1 := h.flow (rd came i) (by rw [rdI came i (by have := h.len; omega)]; exact List.getElem_mem _)
  have h2 := h.pl (rd plan i) (by rw [rdI plan i hi]; exact List.getElem_mem _)
  have hT := h.T
  have hho := h.ho
  have h3 : 0 ≤ rd plan i * m.T := Int.mul_nonneg h2.1 hT.1
  have h4 : rd plan i * m.T ≤ 10 * 100 := Int.mul_le_mul h2.2 hT.2 hT.1 (by omega)
  rw [wr (x := now + rd came i) (by omega), wr (x := rd plan i * m.T) (by omega)]
  have e : mn m.ho (now + rd came i) = min m.ho (now + rd came i) := by unfold mn; omega
  rw [e, wr (by omega)]
  exact ⟨rfl, fun _ => by omega⟩
theorem Pond_l0 (a0 a1 a2 a3 a4 a5 a6 : Int) (came plan : List Int) (hf : FineC ⟨a0, a1, a2, a3, a4, a5, a6⟩ came plan) : ∀ (d i : Nat) (now : Int) (out : List Int), i + d = plan.length → out.length = i → 0 ≤ now ∧ now ≤ 2000 →
    Ev (fun k => walkmillref02_Pond.l0 k now came plan out (i : Int) a0 a1 a2 a3 a4 a5 a6) (out ++ pondL ⟨a0, a1, a2, a3, a4, a5, a6⟩ now (came.drop i) (plan.drop i))
  | 0, i, now, out, h, ho, hn => by
    refine Ev.up ?_
    simp only [walkmillref02_Pond.l0, if_neg (show ¬ (i : Int) < (plan.length : Int) by omega)]
    have e2 : plan.drop i = [] := List.drop_eq_nil_of_le (by omega)
    have e : pondL ⟨a0, a1, a2, a3, a4, a5, a6⟩ now (came.drop i) [] = [] := by cases came.drop i <;> rfl
    rw [e2, e, List.append_nil]
    exact Ev.now out
  | d + 1, i, now, out, h, ho, hn => by
    refine Ev.up ?_
    have hl := hf.len
    have hlong := hf.long
    obtain ⟨hs, hb⟩ := hf.step now hn i (by omega)
    simp only [walkmillref02_Pond.l0, if_pos (show (i : Int) < (plan.length : Int) by omega), if_pos (show (0 : Int) ≤ (i : Int) by omega), if_pos (show (i : Int) < (came.length : Int) by omega), if_pos (show out.length < 17592186044416 by omega), wi i (by omega), Option.bind_some]
    simp only at hs hb
    simp only [hs]
    rw [List.drop_eq_getElem_cons (show i < came.length by omega), List.drop_eq_getElem_cons (show i < plan.length by omega)]
    simp only [pondL]
    rw [← rdI came i (by omega), ← rdI plan i (by omega)]
    by_cases hlt : min a4 (now + rd came i) - rd plan i * a1 < 0
    · simp only [if_pos hlt]
      exact Ev.now _
    · simp only [if_neg hlt]
      have := Pond_l0 a0 a1 a2 a3 a4 a5 a6 came plan hf d (i + 1) (min a4 (now + rd came i) - rd plan i * a1) (out ++ [min a4 (now + rd came i) - rd plan i * a1]) (by omega) (by simp [ho]) ⟨by omega, hb (by omega)⟩
      simpa using this
theorem Pond_f (a0 a1 a2 a3 a4 a5 a6 now : Int) (came plan : List Int) (hf : FineC ⟨a0, a1, a2, a3, a4, a5, a6⟩ came plan) (hn : 0 ≤ now ∧ now ≤ 2000) : Ev (fun k => walkmillref02_Pond.f k a0 a1 a2 a3 a4 a5 a6 now came plan) (pondL ⟨a0, a1, a2, a3, a4, a5, a6⟩ now came plan) := by
  simpa [walkmillref02_Pond.f] using Pond_l0 a0 a1 a2 a3 a4 a5 a6 came plan hf plan.length 0 now [] (by omega) rfl hn
def dryP (m : Mill) : Int → List Int → List Int → Int
  | now, c :: cs, p :: ps => if min m.ho (now + c) - p * m.T < 0 then 0 else (if dryP m (min m.ho (now + c) - p * m.T) cs ps < 0 then -1 else dryP m (min m.ho (now + c) - p * m.T) cs ps + 1)
  | _, _, _ => -1
def lastNeg (t : List Int) : Int := if 0 < t.length ∧ rd t ((t.length : Int) - 1) < 0 then (t.length : Int) - 1 else -1
theorem lastNeg_cons (x : Int) (t : List Int) (ht : t ≠ []) : lastNeg (x :: t) = if lastNeg t < 0 then -1 else lastNeg t + 1 := by
  have hp : 0 < t.length := List.length_pos_iff.2 ht
  have e : rd (x :: t) (((x :: t).length : Int) - 1) = rd t ((t.length : Int) - 1) := by
    rw [show (((x :: t).length : Int) - 1) = (((t.length - 1) + 1 : Nat) : Int) by simp; omega, show ((t.length : Int) - 1) = ((t.length - 1 : Nat) : Int) by omega]
    simp [rd]
  unfold lastNeg
  rw [e]
  simp only [List.length_cons]
  by_cases h : rd t ((t.length : Int) - 1) < 0
  · simp only [h, hp, and_self, and_true, Nat.succ_pos, if_true]
    rw [if_neg (by omega)]
    omega
  · simp only [h, and_false, if_false]
    rw [if_pos (by omega)]
theorem pondL_ne (m : Mill) (now c p : Int) (cs ps : List Int) : pondL m now (c :: cs) (p :: ps) ≠ [] := by simp [pondL]
theorem lastNeg_pond (m : Mill) : ∀ (ps cs : List Int) (now : Int), ps.length ≤ cs.length → lastNeg (pondL m now cs ps) = dryP m now cs ps
  | [], cs, now, _ => by cases cs <;> simp [pondL, dryP, lastNeg]
  | p :: ps, [], now, h => by simp at h
  | p :: ps, c :: cs, now, h => by
    simp only [pondL, dryP]
    by_cases hlt : min m.ho (now + c) - p * m.T < 0
    · rw [if_pos hlt, if_pos hlt]
      simp [lastNeg, rd, hlt]
    · rw [if_neg hlt, if_neg hlt]
      have ih := lastNeg_pond m ps cs (min m.ho (now + c) - p * m.T) (by simpa using h)
      by_cases hn : pondL m (min m.ho (now + c) - p * m.T) cs ps = []
      · rw [hn] at ih ⊢
        rw [← ih]
        simp [lastNeg, rd]
        omega
      · rw [lastNeg_cons _ _ hn, ih]
theorem Dry_f (a0 a1 a2 a3 a4 a5 a6 now : Int) (came plan : List Int) (hf : FineC ⟨a0, a1, a2, a3, a4, a5, a6⟩ came plan) (hn : 0 ≤ now ∧ now ≤ 2000) : Ev (fun k => walkmillref02_Dry.f k a0 a1 a2 a3 a4 a5 a6 now came plan) (dryP ⟨a0, a1, a2, a3, a4, a5, a6⟩ now came plan) := by
  rw [← lastNeg_pond _ _ _ _ hf.len]
  have hlen : ∀ (ps cs : List Int) (now : Int), (pondL ⟨a0, a1, a2, a3, a4, a5, a6⟩ now cs ps).length ≤ ps.length := by
    intro ps
    induction ps with
    | nil => intro cs now; cases cs <;> simp [pondL]
    | cons p ps ih =>
      intro cs now
      cases cs with
      | nil => simp [pondL]
      | cons c cs =>
        simp only [pondL]
        split
        · simp
        · have := ih cs (min a4 (now + c) - p * a1)
          simp only [List.length_cons]
          omega
  have hl := hlen plan came now
  have h1 := hf.len
  have h2 := hf.long
  refine Ev.bind (Pond_f a0 a1 a2 a3 a4 a5 a6 now came plan hf hn) ?_
  generalize pondL ⟨a0, a1, a2, a3, a4, a5, a6⟩ now came plan = t at hl
  by_cases h0 : 0 < t.length
  · simp only [if_pos (show (t.length : Int) > 0 by omega), wr (x := (t.length : Int) - 1) (by omega), if_pos (show (0 : Int) ≤ (t.length : Int) - 1 by omega), if_pos (show (t.length : Int) - 1 < (t.length : Int) by omega)]
    by_cases hneg : rd t ((t.length : Int) - 1) < 0
    · simp only [if_pos hneg]
      rw [lastNeg, if_pos ⟨h0, hneg⟩]
      exact Ev.now _
    · simp only [if_neg hneg]
      rw [lastNeg, if_neg (fun h => hneg h.2)]
      exact Ev.now _
  · simp only [if_neg (show ¬ (t.length : Int) > 0 by omega)]
    rw [lastNeg, if_neg (fun h => h0 h.1)]
    exact Ev.now _
theorem dryF_cons (t : Tide) (ts : List Tide) : dryF (t :: ts) = if t.left < 0 then (t.hour : Int) else dryF ts := by
  unfold dryF
  rw [List.find?_cons]
  by_cases h : t.left < 0
  · simp [h]
  · simp [h]
theorem dryF_pond (m : Mill) (g : Sp → Int) (l : List Sp) : ∀ (p : List Int) (water : Int) (h : Nat), h + p.length ≤ l.length → dryF (tidesL m g l water p h) = if dryP m water ((l.drop h).map g) p < 0 then -1 else dryP m water ((l.drop h).map g) p + h
  | [], water, h, hl => by
    have e : dryP m water ((l.drop h).map g) [] = -1 := by cases (l.drop h).map g <;> rfl
    rw [e]
    rfl
  | k :: ks, water, h, hl => by
    rw [List.length_cons] at hl
    rw [List.drop_eq_getElem_cons (show h < l.length by omega), List.map_cons]
    simp only [tidesL, dryP, dryF_cons]
    have e : leftA m g l water h k = min m.ho (water + g l[h]) - k * m.T := by rw [leftA, fullA, rdS_nat l h (by omega)]
    rw [e]
    by_cases hlt : min m.ho (water + g l[h]) - k * m.T < 0
    · simp only [hlt, if_true]
      simp
    · simp only [hlt, if_false]
      rw [dryF_pond m g l ks _ (h + 1) (by omega)]
      by_cases h3 : dryP m (min m.ho (water + g l[h]) - k * m.T) ((l.drop (h + 1)).map g) ks < 0
      · rw [if_pos h3, if_pos h3, if_pos (by omega)]
      · rw [if_neg h3, if_neg h3, if_neg (by omega)]
        omega
theorem dryP_lo (m : Mill) : ∀ (ps cs : List Int) (now : Int), -1 ≤ dryP m now cs ps
  | [], cs, now => by cases cs <;> simp [dryP]
  | p :: ps, [], now => by simp [dryP]
  | p :: ps, c :: cs, now => by
    simp only [dryP]
    have := dryP_lo m ps cs (min m.ho (now + c) - p * m.T)
    split
    · omega
    · split <;> omega
theorem dryS_pond (m : Mill) (g : Sp → Int) (l : List Sp) (p : List Int) (hl : p.length ≤ l.length) : dryS m g l p = dryP m (g ⟨m.nl, m.nh⟩) (l.map g) p := by
  have h := dryF_pond m g l p (g ⟨m.nl, m.nh⟩) 0 (by omega)
  have h2 := dryP_lo m p (l.map g) (g ⟨m.nl, m.nh⟩)
  rw [List.drop_zero] at h
  unfold dryS
  rw [h]
  split <;> omega
theorem FineC.ofFine {m g l plan} (h : Fine m g l plan) (hl : l.length ≤ 1000) : FineC m (l.map g) plan :=
  ⟨h.ho, h.T, fun c hc => by obtain ⟨s, hs, rfl⟩ := List.mem_map.1 hc; exact h.flow s hs, h.pl, by rw [List.length_map]; exact h.len, by rw [List.length_map]; exact hl⟩
theorem Goes_f (a0 a1 a2 a3 a4 a5 a6 : Int) (l : List S23) (plan : List Int) (hl : l.length ≤ 1000) (h0 : Fine ⟨a0, a1, a2, a3, a4, a5, a6⟩ Sp.lo (toSp l) plan) (h1 : Fine ⟨a0, a1, a2, a3, a4, a5, a6⟩ Sp.hi (toSp l) plan) :
    Ev (fun k => walkmillref02_Goes.f k a0 a1 a2 a3 a4 a5 a6 l plan) (dryS ⟨a0, a1, a2, a3, a4, a5, a6⟩ Sp.lo (toSp l) plan, decide (0 ≤ dryS ⟨a0, a1, a2, a3, a4, a5, a6⟩ Sp.lo (toSp l) plan) && (dryS ⟨a0, a1, a2, a3, a4, a5, a6⟩ Sp.hi (toSp l) plan == dryS ⟨a0, a1, a2, a3, a4, a5, a6⟩ Sp.lo (toSp l) plan)) := by
  unfold walkmillref02_Goes.f
  have hln : (toSp l).length ≤ 1000 := by rw [toSp_len]; exact hl
  refine Ev.bind (Truth_f a0 a1 a2 a3 a4 a5 a6 l hl false) ?_
  refine Ev.bind (a := dryS ⟨a0, a1, a2, a3, a4, a5, a6⟩ Sp.lo (toSp l) plan) ?_ ?_
  · rw [dryS_pond _ _ _ _ h0.len]
    exact Dry_f a0 a1 a2 a3 a4 a5 a6 a5 _ plan (FineC.ofFine h0 hln) h0.now
  · refine Ev.bind (Truth_f a0 a1 a2 a3 a4 a5 a6 l hl true) ?_
    by_cases hp : 0 ≤ dryS ⟨a0, a1, a2, a3, a4, a5, a6⟩ Sp.lo (toSp l) plan
    · simp only [if_pos (show dryS ⟨a0, a1, a2, a3, a4, a5, a6⟩ Sp.lo (toSp l) plan ≥ 0 from hp), decide_eq_true hp, Bool.true_and]
      refine Ev.bind (a := dryS ⟨a0, a1, a2, a3, a4, a5, a6⟩ Sp.hi (toSp l) plan) ?_ (Ev.now _)
      rw [dryS_pond _ _ _ _ h1.len]
      exact Dry_f a0 a1 a2 a3 a4 a5 a6 a6 _ plan (FineC.ofFine h1 hln) h1.now
    · simp only [if_neg (show ¬ dryS ⟨a0, a1, a2, a3, a4, a5, a6⟩ Sp.lo (toSp l) plan ≥ 0 from hp), decide_eq_false hp, Bool.false_and]
      exact Ev.now _
theorem pondL_tides (m : Mill) (g : Sp → Int) (l : List Sp) : ∀ (p : List Int) (water : Int) (h : Nat), h + p.length ≤ l.length → pondL m water ((l.drop h).map g) p = (tidesL m g l water p h).map (·.left)
  | [], water, h, hl => by cases (l.drop h).map g <;> rfl
  | k :: ks, water, h, hl => by
    rw [List.length_cons] at hl
    rw [List.drop_eq_getElem_cons (show h < l.length by omega), List.map_cons]
    have e : leftA m g l water h k = min m.ho (water + g l[h]) - k * m.T := by rw [leftA, fullA, rdS_nat l h (by omega)]
    simp only [tidesL, pondL, List.map_cons]
    rw [e]
    by_cases hlt : min m.ho (water + g l[h]) - k * m.T < 0
    · rw [if_pos hlt, if_pos hlt]; rfl
    · rw [if_neg hlt, if_neg hlt, pondL_tides m g l ks _ (h + 1) (by omega)]
theorem Levels_l0 (p a b : List Int) (hl : p.length ≤ 1000) (ha : p.length ≤ a.length) (hb : p.length ≤ b.length) : ∀ (d i : Nat) (out : List S23), i + d = p.length → out.length = i → Ev (fun k => walkmillref02_Levels.l0 k p a b out (i : Int)) (out ++ ((List.range p.length).drop i).map (fun h => ⟨a.getD h 0, b.getD h 0⟩))
  | 0, i, out, h, ho => by
    refine Ev.up ?_
    simp only [walkmillref02_Levels.l0, if_neg (show ¬ (i : Int) < (p.length : Int) by omega)]
    rw [List.drop_eq_nil_of_le (by simp; omega)]
    simpa using Ev.now out
  | d + 1, i, out, h, ho => by
    refine Ev.up ?_
    simp only [walkmillref02_Levels.l0, if_pos (show (i : Int) < (p.length : Int) by omega), if_pos (show (0 : Int) ≤ (i : Int) by omega), if_pos (show (i : Int) < (a.length : Int) by omega), if_pos (show (i : Int) < (b.length : Int) by omega), if_pos (show out.length < 8796093022208 by omega), wi i (by omega)]
    rw [List.drop_eq_getElem_cons (show i < (List.range p.length).length by simp; omega), List.map_cons]
    have := Levels_l0 p a b hl ha hb d (i + 1) (out ++ [⟨rd a i, rd b i⟩]) (by omega) (by simp [ho])
    simpa [rd] using this
theorem Levels_f (a0 a1 a2 a3 a4 a5 a6 : Int) (l : List S23) (plan : List Int) (hl : l.length ≤ 1000) (h0 : Fine ⟨a0, a1, a2, a3, a4, a5, a6⟩ Sp.lo (toSp l) plan) (h1 : Fine ⟨a0, a1, a2, a3, a4, a5, a6⟩ Sp.hi (toSp l) plan)
    (hlo : dryS ⟨a0, a1, a2, a3, a4, a5, a6⟩ Sp.lo (toSp l) plan = -1) (hle : ∀ s ∈ toSp l, s.lo ≤ s.hi) (hnow : a5 ≤ a6) :
    Ev (fun k => walkmillref02_Levels.f k a0 a1 a2 a3 a4 a5 a6 l plan) (ofSp (levelsL ⟨a0, a1, a2, a3, a4, a5, a6⟩ (toSp l) plan)) := by
  unfold walkmillref02_Levels.f
  have hln : (toSp l).length ≤ 1000 := by rw [toSp_len]; exact hl
  have hpl : plan.length ≤ 1000 := by have := h0.len; omega
  have hn := dryS_none _ _ _ _ hlo
  have hn2 := more_water ⟨a0, a1, a2, a3, a4, a5, a6⟩ (toSp l) (by
    intro j
    by_cases hj : j < (toSp l).length
    · rw [rdS_nat _ j hj]; exact hle _ (List.getElem_mem _)
    · simp [rdS, List.getD_eq_getElem?_getD, List.getElem?_eq_none (Nat.le_of_not_lt hj), z_Sp]) plan a5 a6 0 hnow hn
  have hf1 := tidesL_full _ Sp.lo (toSp l) plan _ 0 hn
  have hf2 := tidesL_full _ Sp.hi (toSp l) plan _ 0 hn2
  have e0 := pondL_tides ⟨a0, a1, a2, a3, a4, a5, a6⟩ Sp.lo (toSp l) plan a5 0 (by have := h0.len; omega)
  have e1 := pondL_tides ⟨a0, a1, a2, a3, a4, a5, a6⟩ Sp.hi (toSp l) plan a6 0 (by have := h1.len; omega)
  rw [List.drop_zero] at e0 e1
  refine Ev.bind (Truth_f a0 a1 a2 a3 a4 a5 a6 l hl false) ?_
  refine Ev.bind (Pond_f a0 a1 a2 a3 a4 a5 a6 a5 _ plan (FineC.ofFine h0 hln) h0.now) ?_
  refine Ev.bind (Truth_f a0 a1 a2 a3 a4 a5 a6 l hl true) ?_
  refine Ev.bind (Pond_f a0 a1 a2 a3 a4 a5 a6 a6 _ plan (FineC.ofFine h1 hln) h1.now) ?_
  simp only [show endG false = Sp.lo from rfl, show endG true = Sp.hi from rfl, e0, e1]
  have hL := Levels_l0 plan ((tidesL ⟨a0, a1, a2, a3, a4, a5, a6⟩ Sp.lo (toSp l) a5 plan 0).map (·.left)) ((tidesL ⟨a0, a1, a2, a3, a4, a5, a6⟩ Sp.hi (toSp l) a6 plan 0).map (·.left)) hpl (by rw [List.length_map]; exact Nat.le_of_eq hf1.symm) (by rw [List.length_map]; exact Nat.le_of_eq hf2.symm) plan.length 0 [] (by omega) rfl
  rw [List.drop_zero, List.nil_append] at hL
  have e : ofSp (levelsL ⟨a0, a1, a2, a3, a4, a5, a6⟩ (toSp l) plan) = (List.range plan.length).map (fun h => (⟨((tidesL ⟨a0, a1, a2, a3, a4, a5, a6⟩ Sp.lo (toSp l) a5 plan 0).map (·.left)).getD h 0, ((tidesL ⟨a0, a1, a2, a3, a4, a5, a6⟩ Sp.hi (toSp l) a6 plan 0).map (·.left)).getD h 0⟩ : S23)) := by
    simp only [ofSp, levelsL, List.map_map]
    rfl
  rw [e]
  exact hL
end Go.Proofs.Ytcnlbbmokphjnaa.Q
namespace Go.Proofs.Ytcnlbbmokphjnaa.Q
open Go.RowKit Go.Proofs.YtcnlbbmokphjnaaW.PrintWords
set_option linter.unusedVariables false
set_option linter.unusedSimpArgs false
theorem ne_of_plan {m : Mill} {l : List Sp} {p : List Int} {least : Int} (hc : checkE m l = 0) (hp : (inB least l.length [(p.length : Int)] && inB 0 m.H p) = false) : openE m l p least = 4 := by
  unfold openE planB
  rw [if_pos hc, hp]
  rfl
theorem eq_of_plan {m : Mill} {l : List Sp} {p : List Int} {least : Int} (hc : checkE m l = 0) (hp : (inB least l.length [(p.length : Int)] && inB 0 m.H p) = true) : openE m l p least = 0 := by
  unfold openE planB
  rw [if_pos hc, hp]
  rfl
theorem ne_of_check {m : Mill} {l : List Sp} {p : List Int} {least : Int} (hc : ¬ checkE m l = 0) : openE m l p least = checkE m l := by
  unfold openE
  rw [if_neg hc]
theorem StreamGoes_ev (a0 a1 a2 a3 a4 a5 a6 : Int) (l1 : List S23) (l2 : List Int) : Ev (fun k => walkmilllaw02_StreamGoes.f k a0 a1 a2 a3 a4 a5 a6 l1 l2) true := by
  unfold walkmilllaw02_StreamGoes.f
  by_cases h1 : l1.length > 40
  · simp only [if_pos (show (l1.length : Int) > 40 by omega)]
    refine Ev.up ?_
    simp only [walkmilllaw02_StreamGoes.j0, if_true, known_f, Option.bind_some]
    exact Ev.now true
  simp only [if_neg (show ¬ (l1.length : Int) > 40 by omega)]
  by_cases h2 : l2.length > 40
  · simp only [decide_eq_true (show (l2.length : Int) > 40 by omega)]
    refine Ev.up ?_
    simp only [walkmilllaw02_StreamGoes.j0, if_true, known_f, Option.bind_some]
    exact Ev.now true
  simp only [decide_eq_false (show ¬ (l2.length : Int) > 40 by omega)]
  refine Ev.up ?_
  simp only [walkmilllaw02_StreamGoes.j0, Bool.false_eq_true, if_false, Copy_f l1 (by omega), Ints_f l2 (by omega), Option.bind_some, stream_Check.f, stream_Goes.f, stream_Levels.f]
  refine Ev.bind (Check_f a0 a1 a2 a3 a4 a5 a6 l1 (by omega)) ?_
  refine Ev.bind (Same_f l1 l1 (by omega)) ?_
  simp only [decide_true, if_true]
  refine Ev.bind (Like_f l2 l2 (by omega)) ?_
  simp only [decide_true, if_true, bne_self_eq_false]
  refine Ev.up ?_
  simp only [walkmilllaw02_StreamGoes.j1, Bool.false_eq_true, if_false]
  generalize hM : (⟨a0, a1, a2, a3, a4, a5, a6⟩ : Mill) = M
  have hH : M.H = a0 := by rw [← hM]
  by_cases hc : checkE M (toSp l1) = 0
  · simp only [if_pos hc]
    refine Ev.bind (Plan_f a0 a1 a2 a3 a4 a5 a6 l2 (by omega) _ _) ?_
    rw [← hH]
    cases hp : (inB (l1.length : Int) (l1.length : Int) [(l2.length : Int)] && inB 0 M.H l2)
    · have hE := ne_of_plan (least := ((toSp l1).length : Int)) hc (by rw [toSp_len]; exact hp)
      refine Ev.up ?_
      simp only [walkmilllaw02_StreamGoes.j2, Bool.not_false, if_true]
      refine Ev.up ?_
      have g1 : goesE M (toSp l1) l2 = 4 := by simp [goesE, hE]
      have g2 : goesI M (toSp l1) l2 = 0 := by simp [goesI, hE]
      have g3 : goesB M (toSp l1) l2 = false := by simp [goesB, hE]
      have g4 : levelsE M (toSp l1) l2 = 4 := by simp [levelsE, hE]
      have g5 : levelsS M (toSp l1) l2 = [] := by simp [levelsS, g4]
      simp only [walkmilllaw02_StreamGoes.j3, g1, g2, g3, g4, g5]
      simpa [known_f, ofSp] using Ev.now true
    · have hE := eq_of_plan (least := ((toSp l1).length : Int)) hc (by rw [toSp_len]; exact hp)
      have hv := open_of M (toSp l1) l2 _ hE
      have hlo := fine_lo hv.1 hv.2
      have hhi := fine_hi hv.1 hv.2
      have hlen : l2.length ≤ 1000 := by omega
      refine Ev.up ?_
      simp only [walkmilllaw02_StreamGoes.j2, Bool.not_true, Bool.false_eq_true, if_false]
      refine Ev.up ?_
      simp only [walkmilllaw02_StreamGoes.j3, if_pos hc]
      rw [← hM] at hlo hhi
      rw [hH]
      refine Ev.bind (Goes_f a0 a1 a2 a3 a4 a5 a6 l1 l2 (by omega) hlo hhi) ?_
      rw [hM] at hlo hhi ⊢
      have hge : -1 ≤ dryS M Sp.lo (toSp l1) l2 := (dryS_bd _ _ _ _).1
      by_cases hd : dryS M Sp.lo (toSp l1) l2 = -1
      · have g1 : goesE M (toSp l1) l2 = 7 := by simp [goesE, hE, hd]
        have g2 : goesI M (toSp l1) l2 = 0 := by simp [goesI, hE, hd]
        have g3 : goesB M (toSp l1) l2 = false := by simp [goesB, hE, hd]
        have g4 : levelsE M (toSp l1) l2 = 0 := by simp [levelsE, hE, rightB, hd]
        have g5 : levelsS M (toSp l1) l2 = levelsL M (toSp l1) l2 := by simp [levelsS, g4]
        simp only [hd, if_neg (show ¬ (-1 : Int) ≥ 0 by omega), g1, g2, g3, g4, g5, if_true, Bool.false_eq_true, if_false]
        subst hM
        refine Ev.bind (Levels_f a0 a1 a2 a3 a4 a5 a6 l1 l2 (by omega) hlo hhi hd (fun s hs => by have := hv.1.flow s hs; omega) (by have := hv.1.now; simp only at this; omega)) ?_
        refine Ev.bind (Same_f _ _ (by rw [ofSp_len, levelsL, List.length_map, List.length_range]; omega)) ?_
        simp only [decide_true, if_true, known_f, Option.bind_some]
        exact Ev.now true
      · have g1 : goesE M (toSp l1) l2 = 0 := by simp [goesE, hE, hd]
        have g2 : goesI M (toSp l1) l2 = dryS M Sp.lo (toSp l1) l2 := by simp [goesI, hE, hd]
        have g3 : goesB M (toSp l1) l2 = (dryS M Sp.hi (toSp l1) l2 == dryS M Sp.lo (toSp l1) l2) := by simp [goesB, hE, hd]
        have g4 : levelsE M (toSp l1) l2 = 9 := by simp [levelsE, hE, rightB, hd]
        have g5 : levelsS M (toSp l1) l2 = [] := by simp [levelsS, g4]
        simp only [if_pos (show dryS M Sp.lo (toSp l1) l2 ≥ 0 by omega), g1, g2, g3, g4, g5, decide_eq_true (show 0 ≤ dryS M Sp.lo (toSp l1) l2 by omega), Bool.true_and, beq_self_eq_true, if_true]
        simpa [known_f, ofSp] using Ev.now true
  · simp only [if_neg hc]
    have hE := ne_of_check (p := l2) (least := ((toSp l1).length : Int)) hc
    have hE0 : ¬ openE M (toSp l1) l2 (toSp l1).length = 0 := by rw [hE]; exact hc
    refine Ev.up ?_
    simp only [walkmilllaw02_StreamGoes.j2, Bool.false_eq_true, if_false]
    refine Ev.up ?_
    have g1 : goesE M (toSp l1) l2 = checkE M (toSp l1) := by rw [goesE, if_neg hE0, hE]
    have g2 : goesI M (toSp l1) l2 = 0 := by rw [goesI, if_neg hE0]
    have g3 : goesB M (toSp l1) l2 = false := by rw [goesB, if_neg hE0]
    have g4 : levelsE M (toSp l1) l2 = checkE M (toSp l1) := by rw [levelsE, if_neg hE0, hE]
    have g5 : levelsS M (toSp l1) l2 = [] := by rw [levelsS, g4, if_neg hc]
    simp only [walkmilllaw02_StreamGoes.j3, if_neg hc, g1, g2, g3, g4, g5]
    simpa [known_f, ofSp] using Ev.now true
theorem StreamGoes_pure (a0 a1 a2 a3 a4 a5 a6 : Int) (l1 : List S23) (l2 : List Int) : ∃ k, walkmilllaw02_StreamGoes.f k a0 a1 a2 a3 a4 a5 a6 l1 l2 = some true := (StreamGoes_ev a0 a1 a2 a3 a4 a5 a6 l1 l2).rounds
end Go.Proofs.Ytcnlbbmokphjnaa.Q
