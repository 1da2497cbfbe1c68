/- Functions printed by the kit's printer over these walks, and the plain law. No condition. -/
import Derived.Test.YtdlekcdedahbhaaProg
import Derived.Below
import Derived.Deep.Draws
import Derived.Deep.AppendLies
import Derived.Maps.AppendAt
import Derived.OwnWalk
import Derived.Laws.BytesArg
import Derived.Laws.MakeOwn
import Derived.Laws.OwnMore
import Derived.Deep.OwnRows
import Derived.Tactics
import Derived.Lib.ConvBytes
import Derived.Laws.Slices
import Derived.WalkKit
import Derived.KernelRfl
import Derived.RowKit3
import Derived.Deep.LoopGhost
import Derived.Deep.QuietTactic
import Derived.BigQuiet
import Derived.WideLaws
import Derived.Deep.DeepCutAuto
import Derived.Deep.CutBlock
import Derived.Deep.RegionHeld3
import Derived.Laws.Rows
import Derived.Lib.AppendStr
import Derived.ArgAppend
import Derived.Laws.IdiomCopy
import Derived.OrdersHeld
import Derived.Laws.BitsLemmas
import Derived.RowKit
import Derived.Test.YtdlekcdedahbhaaWWords
import Derived.Test.YtdlekcdedahbhaaWLast
import Derived.Test.YtdlekcdedahbhaaWApart
import Derived.Test.YtdlekcdedahbhaaWN
import Derived.Test.YtdlekcdedahbhaaWEqStruct
import Derived.Test.YtdlekcdedahbhaaWRepsOne
import Derived.Test.YtdlekcdedahbhaaWGuard
import Derived.Test.YtdlekcdedahbhaaWMore
import Derived.Test.YtdlekcdedahbhaaM1
import Derived.ProofKit
import Derived.OpenShut
import Derived.ShutString
import Derived.ChangeOld
import Derived.SizedLaws
import Derived.ChangeArms
import Derived.WideShapes
import Derived.Carry
set_option linter.unusedVariables false
set_option linter.unusedSimpArgs false
namespace Go.Proofs.Ytdlekcdedahbhaa.Q
open Go.RowKit Go.Proofs.YtdlekcdedahbhaaW.PrintWords Go.Proofs.YtdlekcdedahbhaaW.PrintLast Go.Proofs.YtdlekcdedahbhaaW.PrintMore
attribute [local go_sem] max2_int min2_int max_two min_two max_three min_three max_four min_four   -- for this text's walks alone
set_option linter.unusedVariables false
set_option linter.unusedSimpArgs false
def errW : Option Int → Value
  | none => .nilIface
  | some c => .iface 0 (.int .i64 c)
theorem errW_none : errW none = .nilIface := rfl
theorem errW_some (c : Int) : errW (some c) = .iface 0 (.int .i64 c) := rfl
theorem info3 : (Try.prog.info? 3).map (fun i => (i.zero, i.size, i.bytes)) = some (some (.int .i64 0), 1, 8) := by kernel_rfl
end Go.Proofs.Ytdlekcdedahbhaa.Q
namespace Go.Proofs.Ytdlekcdedahbhaa.Q
open Go.RowKit Go.Proofs.YtdlekcdedahbhaaW.PrintWords Go.Proofs.YtdlekcdedahbhaaW.PrintLast Go.Proofs.YtdlekcdedahbhaaW.PrintMore
attribute [local go_sem] max2_int min2_int max_two min_two max_three min_three max_four min_four   -- for this text's walks alone
set_option linter.unusedVariables false
set_option linter.unusedSimpArgs false
def lw_known.f  : Option (Bool) := some true
theorem lw_known.calls  (r : Bool) (w : World) (h : lw_known.f  = some r) :
    Calls Try.prog 22 #[] w fun e w' => e = .returned (.bool r) ∧ Below w.heap.size w w' := by
  unfold lw_known.f at h
  obtain rfl := Option.some.inj h
  exact known_ w
end Go.Proofs.Ytdlekcdedahbhaa.Q
namespace Go.Proofs.Ytdlekcdedahbhaa.Q
open Go.RowKit Go.Proofs.YtdlekcdedahbhaaW.PrintWords Go.Proofs.YtdlekcdedahbhaaW.PrintLast Go.Proofs.YtdlekcdedahbhaaW.PrintMore
attribute [local go_sem] max2_int min2_int max_two min_two max_three min_three max_four min_four   -- for this text's walks alone
set_option linter.unusedVariables false
set_option linter.unusedSimpArgs false
def fee_within.f (a0 : Int) (a1 : Int) (l2 : List Int) : Option (Bool) := some (inB a0 a1 l2)
theorem fee_within.calls (a0 : Int) (a1 : Int) (A2 : Option Addr) (c2 : Nat) (l2 : List Int) (r : Bool) (w : World) (hr2 : Kd.C (Kd.int .i64) w A2 l2.length l2) (hc2 : l2.length ≤ c2) (h : fee_within.f a0 a1 l2 = some r) :
    Calls Try.prog 58 #[.int .i64 a0, .int .i64 a1, .slice A2 l2.length c2] w fun e w' => e = .returned (.bool r) ∧ Below w.heap.size w w' := by
  simp only [fee_within.f, Option.some.injEq, Prod.mk.injEq] at h
  obtain rfl := h
  exact within a0 a1 A2 c2 _ l2 w rfl hr2 hc2
end Go.Proofs.Ytdlekcdedahbhaa.Q
namespace Go.Proofs.Ytdlekcdedahbhaa.Q
open Go.RowKit Go.Proofs.YtdlekcdedahbhaaW.PrintWords Go.Proofs.YtdlekcdedahbhaaW.PrintLast Go.Proofs.YtdlekcdedahbhaaW.PrintMore
attribute [local go_sem] max2_int min2_int max_two min_two max_three min_three max_four min_four   -- for this text's walks alone
set_option linter.unusedVariables false
set_option linter.unusedSimpArgs false
mutual
def fee_Dividend.l0 : Nat → List Int → Int → Int → List Int → Int → Int → Option (List Int × Int × Int)
  | 0, _, _, _, _, _, _ => none
  | k + 1, x0, x1, x7, x29, x30, x31 => if x31 < x30 then (if 0 ≤ x31 then (if x31 < (x29.length : Int) then (fee_Dividend.l0 k x0 x1 (wrap64 (x7 + (rd x29 x31))) x29 x30 (wrap64 (x31 + 1))) else (none)) else (none)) else (fee_Dividend.l1 k x1 ([] : List Int) x1 x7 x0 (x0.length : Int) 0)
def fee_Dividend.l1 : Nat → Int → List Int → Int → Int → List Int → Int → Int → Option (List Int × Int × Int)
  | 0, _, _, _, _, _, _, _ => none
  | k + 1, x1, x4, x5, x7, x40, x41, x42 => if x42 < x41 then (if 0 ≤ x42 then (if x42 < (x40.length : Int) then (if x7 = 0 then (none) else (if x4.length < 17592186044416 then (fee_Dividend.l1 k x1 (x4 ++ [wrap64 (Int.tdiv (wrap64 (x1 * (rd x40 x42))) x7)]) (wrap64 (x5 - (wrap64 (Int.tdiv (wrap64 (x1 * (rd x40 x42))) x7)))) x7 x40 x41 (wrap64 (x42 + 1))) else (none))) else (none)) else (none)) else (some (x4, x5, 0))
end
def fee_Dividend.f (k : Nat) (l0 : List Int) (a1 : Int) : Option (List Int × Int × Int) := if (l0.length : Int) > 6 then (some (([] : List Int), 0, 5)) else (if (l0.length : Int) = 0 then (some (([] : List Int), 0, 7)) else ((fee_within.f 1 1000 l0).bind fun t540 => (if t540 = true then ((fee_within.f (-100000) 100000 (([a1] : List Int))).bind fun t544 => (if t544 = true then (fee_Dividend.l0 k l0 a1 0 l0 (l0.length : Int) 0) else (some (([] : List Int), 0, 3)))) else (some (([] : List Int), 0, 2)))))
set_option maxHeartbeats 8000000 in
set_option maxRecDepth 100000 in
theorem fee_Dividend.calls (k : Nat) (A0 : Option Addr) (c0 : Nat) (l0 : List Int) (a1 : Int) (r1 : List Int) (r2 : Int) (r3 : Int) (w : World) (hr0 : Kd.C (Kd.int .i64) w A0 l0.length l0) (hc0 : l0.length ≤ c0) (h : fee_Dividend.f k l0 a1 = some (r1, r2, r3)) :
    Calls Try.prog 45 #[.slice A0 l0.length c0, .int .i64 a1] w fun e w' => ∃ v0_ : Value, e = .returned (.tuple #[v0_, .int .i64 r2, .int .i64 r3]) ∧ Kd.R (Kd.int .i64) 3 w' w.heap.size (fun _ => True) v0_ r1 ∧ Below w.heap.size w w' := by
  have HR0 := Aside0.mk hr0
  have HC0 := Aside0.mk hc0
  clear hr0 hc0
  have HB := Aside0.mk (Below.refl w.heap.size w)
  have H : (if (l0.length : Int) > 6 then (some (([] : List Int), 0, 5)) else (if (l0.length : Int) = 0 then (some (([] : List Int), 0, 7)) else ((fee_within.f 1 1000 l0).bind fun t540 => (if t540 = true then ((fee_within.f (-100000) 100000 (([a1] : List Int))).bind fun t544 => (if t544 = true then (fee_Dividend.l0 k l0 a1 0 l0 (l0.length : Int) 0) else (some (([] : List Int), 0, 3)))) else (some (([] : List Int), 0, 2)))))) = some (r1, r2, r3) := h
  clear h
  by_cases c3 : (l0.length : Int) > 6
  · rw [if_pos c3] at H
    have c3b0 : decide (6 < (l0.length : Int)) = true := decide_eq_true c3
    have c3b1 : decide (6 < l0.length) = true := decide_eq_true (by omega)
    clear c3
    simp only [Option.some.injEq, Prod.mk.injEq] at H
    obtain ⟨rfl, rfl, rfl⟩ := H
    go_enter Try.func45, Try.ntmps45
    go_wp2
    go_ret3
    exact ⟨_, by first | rfl | (simp [errW_none, errW_some] <;> rfl) | (simp [*, errW_none, errW_some] <;> rfl), by first | exact Kd.R_nil _ _ _ _ _ | exact Kd.N_nil _ _ _ _ _ | exact Kd.V_nil _ _ _ _ _ | exact Kd.Q_nil _ _ _ _ _ | exact Kd.S_nil _ _ _ _ _, by repeat (first | (with_reducible first | exact HB.out | apply below_alloc | apply pw_below_drewN | apply below_drew1) | exact HB.out)⟩
  · rw [if_neg c3] at H
    have c3b0 : decide (6 < (l0.length : Int)) = false := decide_eq_false c3
    have c3b1 : decide (6 < l0.length) = false := decide_eq_false (by omega)
    clear c3
    by_cases c4 : (l0.length : Int) = 0
    · rw [if_pos c4] at H
      have c4b0 : ((l0.length : Int) == 0) = true := beq_iff_eq.mpr c4
      have c4b1 : ((l0.length : Int) != 0) = false := bne_eq_false_iff_eq.mpr c4
      clear c4
      simp only [Option.some.injEq, Prod.mk.injEq] at H
      obtain ⟨rfl, rfl, rfl⟩ := H
      go_enter Try.func45, Try.ntmps45
      go_wp2
      go_ret3
      exact ⟨_, by first | rfl | (simp [errW_none, errW_some] <;> rfl) | (simp [*, errW_none, errW_some] <;> rfl), by first | exact Kd.R_nil _ _ _ _ _ | exact Kd.N_nil _ _ _ _ _ | exact Kd.V_nil _ _ _ _ _ | exact Kd.Q_nil _ _ _ _ _ | exact Kd.S_nil _ _ _ _ _, by repeat (first | (with_reducible first | exact HB.out | apply below_alloc | apply pw_below_drewN | apply below_drew1) | exact HB.out)⟩
    · rw [if_neg c4] at H
      have c4b0 : ((l0.length : Int) == 0) = false := beq_eq_false_iff_ne.mpr c4
      have c4b1 : ((l0.length : Int) != 0) = true := bne_iff_ne.mpr c4
      have c4b2 : ¬ (l0 = []) := fun h_ => c4 (by rw [h_]; rfl)
      replace H := Option.bind_eq_some_iff.mp H
      obtain ⟨t540, A50, H⟩ := H
      replace H : (if t540 = true then ((fee_within.f (-100000) 100000 (([a1] : List Int))).bind fun t544 => (if t544 = true then (fee_Dividend.l0 k l0 a1 0 l0 (l0.length : Int) 0) else (some (([] : List Int), 0, 3)))) else (some (([] : List Int), 0, 2))) = some (r1, r2, r3) := H
      have A5 := Aside0.mk A50
      clear A50
      by_cases c6 : t540 = true
      · subst c6
        have H1 : ((fee_within.f (-100000) 100000 (([a1] : List Int))).bind fun t544 => (if t544 = true then (fee_Dividend.l0 k l0 a1 0 l0 (l0.length : Int) 0) else (some (([] : List Int), 0, 3)))) = some (r1, r2, r3) := by rw [if_pos rfl] at H; exact H
        clear H
        have H := H1
        clear H1
        obtain ⟨y541, hy541⟩ : ∃ y_ : List Int, y_ = (([a1] : List Int)) := ⟨_, rfl⟩
        replace H : ((fee_within.f (-100000) 100000 y541).bind fun t544 => (if t544 = true then (fee_Dividend.l0 k l0 a1 0 l0 (l0.length : Int) 0) else (some (([] : List Int), 0, 3)))) = some (r1, r2, r3) := by first | (rw [hy541]; with_reducible exact H) | (have H2_ := (Option.bind_some _ _).symm.trans H; rw [hy541]; with_reducible exact H2_) | (have H2_ := (Option.bind_some _ _).symm.trans H; with_reducible exact H2_) | with_reducible exact H | (rw [hy541]; exact H) | exact H
        have Ny541 := Aside0.mk hy541
        clear hy541
        replace H := Option.bind_eq_some_iff.mp H
        obtain ⟨t544, A70, H⟩ := H
        replace H : (if t544 = true then (fee_Dividend.l0 k l0 a1 0 l0 (l0.length : Int) 0) else (some (([] : List Int), 0, 3))) = some (r1, r2, r3) := H
        have A7 := Aside0.mk A70
        clear A70
        by_cases c8 : t544 = true
        · subst c8
          have H1 : (fee_Dividend.l0 k l0 a1 0 l0 (l0.length : Int) 0) = some (r1, r2, r3) := by rw [if_pos rfl] at H; exact H
          clear H
          have H := H1
          clear H1
          have H' := Aside0.mk H
          clear H
          go_enter Try.func45, Try.ntmps45
          go_wp2_with (first | ((with_reducible refine gate_callee (f := 58) rfl ?_); refine goesL_ (some 22) rfl rfl Try.func58 (by kernel_rfl) rfl #[.int .i64 1, .int .i64 1000, .slice A0 l0.length c0] rfl (by (try simp only [List.map_toArray, List.map_cons, List.map_nil]); first | done | rfl | (simp only [List.length_drop, List.length_take]; rfl)) ?_; (with_reducible refine (fee_within.calls 1 1000 _ _ l0 true _ ?side1 ?side2 A5.out).mono ?_); (case side1 => repeat (first | exact HR0.out | (with_reducible refine Kd.C_alloc ?_ _) | (with_reducible refine Kd.C_drewN ?_ _) | (with_reducible refine Kd.C_drew ?_))); (case side2 => exact HC0.out); rintro e w9 ⟨rfl, hb⟩; refine ⟨_, rfl, ?_⟩; have n0_ := Aside0.mk (below_step (by repeat (first | (with_reducible first | exact HB.out | apply below_alloc | apply pw_below_drewN | apply below_drew1) | exact HB.out)) hb); clear HB; have HB := n0_; clear n0_; (try clear hb); (try clear hb2); (try clear hk); (try clear hi)) | ((with_reducible refine gate_dst (N := 26) rfl ?_); refine Kd.R_lit (Kd.int .i64) _ 3 ?hg (N := 26) ?hd (xs := ([a1] : List Int)) (inner := [.int .i64 a1]) (ok := fun _ => True) (okp := fun _ => True) ?hr ?hp (fun _ hk => hk) trivial (Below.refl _ _) (Nat.le_refl _) (by simp) ?_; (case hd => rfl); (case hg => rfl); (case hr => first | (go_simp; done) | (go_simp; rfl)); (case hp => exact (Reps.one (show Kd.M (Kd.int .i64) _ _ _ a1 [.int .i64 a1] from rfl) (Reps.none _ _))); intro v542 w10 ho11 hb hg_ hnew_; clear hg_ hnew_; (first | rw [← Ny541.out] at ho11 | (simp only [Int.reduceToNat] at ho11; rw [← Ny541.out] at ho11)); have n0_ := Aside0.mk (Kd.R_lower ho11 (below_size (by repeat (first | (with_reducible first | exact HB.out | apply below_alloc | apply pw_below_drewN | apply below_drew1) | exact HB.out)))); have n1_ := Aside0.mk (below_step (by repeat (first | (with_reducible first | exact HB.out | apply below_alloc | apply pw_below_drewN | apply below_drew1) | exact HB.out)) hb); clear HB; have HO543 := n0_; have HB := n1_; clear n0_ n1_; clear hb ho11; obtain ⟨Ao12, co12, eo12⟩ := Kd.R_slice HO543.out; subst eo12) | ((with_reducible refine gate_callee (f := 58) rfl ?_); refine goesL_ (some 27) rfl rfl Try.func58 (by kernel_rfl) rfl #[.int .i64 (-100000), .int .i64 100000, .slice Ao12 y541.length co12] rfl (by (try simp only [List.map_toArray, List.map_cons, List.map_nil]); first | done | rfl | (simp only [List.length_drop, List.length_take]; rfl)) ?_; (with_reducible refine (fee_within.calls (-100000) 100000 _ _ y541 true _ ?side1 ?side2 A7.out).mono ?_); (case side1 => repeat (first | exact (Kd.R_reads' HO543.out).2.2 | (with_reducible refine Kd.C_alloc ?_ _) | (with_reducible refine Kd.C_drewN ?_ _) | (with_reducible refine Kd.C_drew ?_))); (case side2 => exact (Kd.R_reads' HO543.out).2.1); rintro e w13 ⟨rfl, hb⟩; refine ⟨_, rfl, ?_⟩; have n0_ := Aside0.mk (Kd.R_below (by (with_reducible repeat (first | apply Kd.R_alloc | apply Kd.R_drewN | apply Kd.R_drew)); exact HO543.out) hb); have n1_ := Aside0.mk (below_step (by repeat (first | (with_reducible first | exact HB.out | apply below_alloc | apply pw_below_drewN | apply below_drew1) | exact HB.out)) hb); clear HO543; clear HB; have HO543 := n0_; have HB := n1_; clear n0_ n1_; (try clear hb); (try clear hb2); (try clear hk); (try clear hi)))
          go_loopg [7, 31] k (fun kq v7 v31 w' => ∃ (x7_1 : Int) (x31_1 : Int), v7 = .int .i64 x7_1 ∧ v31 = .int .i64 x31_1 ∧ Aside0 (fee_Dividend.l0 kq l0 a1 x7_1 l0 (l0.length : Int) x31_1 = some (r1, r2, r3)) ∧ Aside0 (kq ≤ k) ∧ Aside0 (Below w.heap.size w w'))
          case atStart => exact ⟨(0), (0), (by first | rfl | (simp; done) | (simp [*]; done)), (by first | rfl | (simp; done) | (simp [*]; done)), H', ⟨Nat.le_refl _⟩, ⟨by repeat (first | (with_reducible first | exact HB.out | apply below_alloc | apply pw_below_drewN | apply below_drew1) | exact HB.out)⟩⟩
          case round =>
            clear H'
            try clear p2
            try clear c3
            try clear c3b0
            try clear c3b1
            try clear c4
            try clear c4b0
            try clear c4b1
            try clear c4b2
            try clear c5
            try clear c6
            try clear c8
            obtain ⟨x7_1, x31_1, rfl, rfl, HA, HK1, HB⟩ := hrel
            cases gk with
            | zero => exact absurd HA.out (by simp [fee_Dividend.l0])
            | succ k1 =>
              have H := HA.out
              clear HA
              simp only [fee_Dividend.l0] at H
              by_cases c14 : x31_1 < (l0.length : Int)
              · rw [if_pos c14] at H
                have c14b0 : decide (x31_1 < (l0.length : Int)) = true := decide_eq_true c14
                clear c14
                by_cases c15 : 0 ≤ x31_1
                · rw [if_pos c15] at H
                  have c15b0 : decide (0 ≤ x31_1) = true := decide_eq_true c15
                  clear c15
                  by_cases c16 : x31_1 < (l0.length : Int)
                  · rw [if_pos c16] at H
                    have c16b0 : decide (x31_1 < (l0.length : Int)) = true := decide_eq_true c16
                    clear c16
                    have H' := Aside0.mk H
                    clear H
                    have p545 : 0 ≤ (x31_1 : Int) := of_decide_eq_true (by first | (with_reducible assumption) | assumption)
                    have q545 : x31_1 < (l0.length : Int) := of_decide_eq_true (by first | (with_reducible assumption) | assumption)
                    obtain ⟨ad545, e545, hx545_0⟩ := Kd.at_int HR0.out x31_1 p545 q545
                    cases e545
                    replace hx545_0 := (HB.out.cell (World.block_lt_of_cell? w _ hx545_0)).trans hx545_0
                    replace p545 := eq_true p545
                    replace q545 := eq_true q545
                    go_wp2
                    go_roundg k1
                    case measure => have := HK1.out; omega
                    case rel => exact ⟨(wrap64 (x7_1 + (rd l0 x31_1))), (wrap64 (x31_1 + 1)), (by first | rfl | (simp; done) | (simp [*]; done)), (by first | rfl | (simp; done) | (simp [*]; done)), H', ⟨by have := HK1.out; omega⟩, ⟨by repeat (first | (with_reducible first | exact HB.out | apply below_alloc | apply pw_below_drewN | apply below_drew1) | exact HB.out)⟩⟩
                  · rw [if_neg c16] at H
                    exact absurd H (by simp)
                · rw [if_neg c15] at H
                  exact absurd H (by simp)
              · rw [if_neg c14] at H
                have c14b0 : decide (x31_1 < (l0.length : Int)) = false := decide_eq_false c14
                clear c14
                have H' := Aside0.mk H
                clear H
                go_wp2
                go_loopg [4, 5, 42] k1 (fun kq v4 v5 v42 w' => ∃ (x4_2 : List Int) (x5_2 : Int) (x42_2 : Int), v5 = .int .i64 x5_2 ∧ v42 = .int .i64 x42_2 ∧ Aside0 (fee_Dividend.l1 kq a1 x4_2 x5_2 x7_1 l0 (l0.length : Int) x42_2 = some (r1, r2, r3)) ∧ Aside0 (kq ≤ k1) ∧ Aside0 (Kd.R (Kd.int .i64) 3 w' w.heap.size (fun _ => True) v4 x4_2) ∧ Aside0 (Below w.heap.size w w'))
                case atStart => exact ⟨(([] : List Int)), (a1), (0), (by first | rfl | (simp; done) | (simp [*]; done)), (by first | rfl | (simp; done) | (simp [*]; done)), H', ⟨Nat.le_refl _⟩, ⟨by first | exact Kd.R_nil _ _ _ _ _ | exact Kd.N_nil _ _ _ _ _ | exact Kd.V_nil _ _ _ _ _ | exact Kd.Q_nil _ _ _ _ _ | exact Kd.S_nil _ _ _ _ _⟩, ⟨by repeat (first | (with_reducible first | exact HB.out | apply below_alloc | apply pw_below_drewN | apply below_drew1) | exact HB.out)⟩⟩
                case round =>
                  clear H'
                  try clear c1
                  try clear p2
                  try clear c3
                  try clear c3b0
                  try clear c3b1
                  try clear c4
                  try clear c4b0
                  try clear c4b1
                  try clear c4b2
                  try clear c5
                  try clear p5
                  try clear q5
                  try clear hx5
                  try clear c6
                  try clear p6
                  try clear c8
                  try clear c14
                  try clear c14b0
                  try clear c15
                  try clear c15b0
                  try clear c16
                  try clear c16b0
                  try clear hx545_0
                  try clear p2
                  try clear p545
                  try clear q545
                  obtain ⟨x4_2, x5_2, x42_2, rfl, rfl, HA, HK2, HO_4, HB⟩ := hrel
                  cases gk with
                  | zero => exact absurd HA.out (by simp [fee_Dividend.l1])
                  | succ k2 =>
                    have H := HA.out
                    clear HA
                    simp only [fee_Dividend.l1] at H
                    by_cases c17 : x42_2 < (l0.length : Int)
                    · rw [if_pos c17] at H
                      have c17b0 : decide (x42_2 < (l0.length : Int)) = true := decide_eq_true c17
                      clear c17
                      by_cases c18 : 0 ≤ x42_2
                      · rw [if_pos c18] at H
                        have c18b0 : decide (0 ≤ x42_2) = true := decide_eq_true c18
                        clear c18
                        by_cases c19 : x42_2 < (l0.length : Int)
                        · rw [if_pos c19] at H
                          have c19b0 : decide (x42_2 < (l0.length : Int)) = true := decide_eq_true c19
                          clear c19
                          by_cases c20 : x7_1 = 0
                          · rw [if_pos c20] at H
                            exact absurd H (by simp)
                          · rw [if_neg c20] at H
                            have c20b0 : (x7_1 == 0) = false := beq_eq_false_iff_ne.mpr c20
                            have c20b1 : (x7_1 != 0) = true := bne_iff_ne.mpr c20
                            by_cases c21 : x4_2.length < 17592186044416
                            · rw [if_pos c21] at H
                              have LMc21 := Aside0.mk c21
                              clear c21
                              obtain ⟨y547, hy547⟩ : ∃ y_ : List Int, y_ = (x4_2 ++ [wrap64 (Int.tdiv (wrap64 (a1 * (rd l0 x42_2))) x7_1)]) := ⟨_, rfl⟩
                              replace H : (fee_Dividend.l1 k2 a1 y547 (wrap64 (x5_2 - (wrap64 (Int.tdiv (wrap64 (a1 * (rd l0 x42_2))) x7_1)))) x7_1 l0 (l0.length : Int) (wrap64 (x42_2 + 1))) = some (r1, r2, r3) := by first | (rw [hy547]; with_reducible exact H) | (have H2_ := (Option.bind_some _ _).symm.trans H; rw [hy547]; with_reducible exact H2_) | (have H2_ := (Option.bind_some _ _).symm.trans H; with_reducible exact H2_) | with_reducible exact H | (rw [hy547]; exact H) | exact H
                              have Ny547 := Aside0.mk hy547
                              clear hy547
                              have H' := Aside0.mk H
                              clear H
                              have p546 : 0 ≤ (x42_2 : Int) := of_decide_eq_true (by first | (with_reducible assumption) | assumption)
                              have q546 : x42_2 < (l0.length : Int) := of_decide_eq_true (by first | (with_reducible assumption) | assumption)
                              obtain ⟨ad546, e546, hx546_0⟩ := Kd.at_int HR0.out x42_2 p546 q546
                              cases e546
                              replace hx546_0 := (HB.out.cell (World.block_lt_of_cell? w _ hx546_0)).trans hx546_0
                              replace p546 := eq_true p546
                              replace q546 := eq_true q546
                              go_wp2_with (first | ((with_reducible refine gate_builtin (b := .append) (xs := #[.tmp 46, .tmp 52]) rfl ?_); at_builtin; refine Kd.R_append (Kd.int .i64) (w0 := w) w.heap.size rfl (.tmp 46) (.tmp 52) 35 3 (.int .i64 0) 8 rfl Try.underlying35 info3 rfl (by decide) (by omega) u4 x4_2 (wrap64 (Int.tdiv (wrap64 (a1 * (rd l0 x42_2))) x7_1)) [.int .i64 (wrap64 (Int.tdiv (wrap64 (a1 * (rd l0 x42_2))) x7_1))] (fun _ => True) (fun _ => False) rfl rfl ?aP (fun _ hk => hk.elim) ?aF ?aO ?aB ?aS ?aL ?_; (case aP => exact rfl); (case aB => exact (by repeat (first | (with_reducible first | exact HB.out | apply below_alloc | apply pw_below_drewN | apply below_drew1) | exact HB.out))); (case aF => exact (fun _ _ => trivial)); (case aO => exact (by (with_reducible repeat (first | apply Kd.R_alloc | apply Kd.R_drewN | apply Kd.R_drew)); exact HO_4.out)); (case aS => exact (below_size (by repeat (first | (with_reducible first | exact HB.out | apply below_alloc | apply pw_below_drewN | apply below_drew1) | exact HB.out)))); (case aL => have := LMc21.out; omega); intro v548 w22 ho hb hg hat; rw [← Ny547.out] at ho; have n0_ := Aside0.mk (hb); have n1_ := Aside0.mk (ho); clear HB; clear HO_4; have HB := n0_; have HO549 := n1_; clear n0_ n1_; clear ho hb hg hat))
                              go_roundg k2
                              case measure => have := HK1.out; have := HK2.out; omega
                              case rel => exact ⟨(y547), (wrap64 (x5_2 - (wrap64 (Int.tdiv (wrap64 (a1 * (rd l0 x42_2))) x7_1)))), (wrap64 (x42_2 + 1)), (by first | rfl | (simp; done) | (simp [*]; done)), (by first | rfl | (simp; done) | (simp [*]; done)), H', ⟨by have := HK1.out; have := HK2.out; omega⟩, ⟨by (with_reducible repeat (first | apply Kd.R_alloc | apply Kd.R_drewN | apply Kd.R_drew)); exact HO549.out⟩, ⟨by repeat (first | (with_reducible first | exact HB.out | apply below_alloc | apply pw_below_drewN | apply below_drew1) | exact HB.out)⟩⟩
                            · rw [if_neg c21] at H
                              exact absurd H (by simp)
                        · rw [if_neg c19] at H
                          exact absurd H (by simp)
                      · rw [if_neg c18] at H
                        exact absurd H (by simp)
                    · rw [if_neg c17] at H
                      have c17b0 : decide (x42_2 < (l0.length : Int)) = false := decide_eq_false c17
                      clear c17
                      simp only [Option.some.injEq, Prod.mk.injEq] at H
                      obtain ⟨rfl, rfl, rfl⟩ := H
                      go_wp2
                      go_ret3
                      exact ⟨_, by first | rfl | (simp [errW_none, errW_some] <;> rfl) | (simp [*, errW_none, errW_some] <;> rfl), by (with_reducible repeat (first | apply Kd.R_alloc | apply Kd.R_drewN | apply Kd.R_drew)); exact HO_4.out, by repeat (first | (with_reducible first | exact HB.out | apply below_alloc | apply pw_below_drewN | apply below_drew1) | exact HB.out)⟩
        · replace c8 := Bool.eq_false_iff.mpr c8
          subst c8
          have H1 : (some (([] : List Int), 0, 3)) = some (r1, r2, r3) := by rw [if_neg (show ¬ (false = true) by decide)] at H; exact H
          clear H
          have H := H1
          clear H1
          simp only [Option.some.injEq, Prod.mk.injEq] at H
          obtain ⟨rfl, rfl, rfl⟩ := H
          go_enter Try.func45, Try.ntmps45
          go_wp2_with (first | ((with_reducible refine gate_callee (f := 58) rfl ?_); refine goesL_ (some 22) rfl rfl Try.func58 (by kernel_rfl) rfl #[.int .i64 1, .int .i64 1000, .slice A0 l0.length c0] rfl (by (try simp only [List.map_toArray, List.map_cons, List.map_nil]); first | done | rfl | (simp only [List.length_drop, List.length_take]; rfl)) ?_; (with_reducible refine (fee_within.calls 1 1000 _ _ l0 true _ ?side1 ?side2 A5.out).mono ?_); (case side1 => repeat (first | exact HR0.out | (with_reducible refine Kd.C_alloc ?_ _) | (with_reducible refine Kd.C_drewN ?_ _) | (with_reducible refine Kd.C_drew ?_))); (case side2 => exact HC0.out); rintro e w23 ⟨rfl, hb⟩; refine ⟨_, rfl, ?_⟩; have n0_ := Aside0.mk (below_step (by repeat (first | (with_reducible first | exact HB.out | apply below_alloc | apply pw_below_drewN | apply below_drew1) | exact HB.out)) hb); clear HB; have HB := n0_; clear n0_; (try clear hb); (try clear hb2); (try clear hk); (try clear hi)) | ((with_reducible refine gate_dst (N := 26) rfl ?_); refine Kd.R_lit (Kd.int .i64) _ 3 ?hg (N := 26) ?hd (xs := ([a1] : List Int)) (inner := [.int .i64 a1]) (ok := fun _ => True) (okp := fun _ => True) ?hr ?hp (fun _ hk => hk) trivial (Below.refl _ _) (Nat.le_refl _) (by simp) ?_; (case hd => rfl); (case hg => rfl); (case hr => first | (go_simp; done) | (go_simp; rfl)); (case hp => exact (Reps.one (show Kd.M (Kd.int .i64) _ _ _ a1 [.int .i64 a1] from rfl) (Reps.none _ _))); intro v542 w24 ho25 hb hg_ hnew_; clear hg_ hnew_; (first | rw [← Ny541.out] at ho25 | (simp only [Int.reduceToNat] at ho25; rw [← Ny541.out] at ho25)); have n0_ := Aside0.mk (Kd.R_lower ho25 (below_size (by repeat (first | (with_reducible first | exact HB.out | apply below_alloc | apply pw_below_drewN | apply below_drew1) | exact HB.out)))); have n1_ := Aside0.mk (below_step (by repeat (first | (with_reducible first | exact HB.out | apply below_alloc | apply pw_below_drewN | apply below_drew1) | exact HB.out)) hb); clear HB; have HO543 := n0_; have HB := n1_; clear n0_ n1_; clear hb ho25; obtain ⟨Ao26, co26, eo26⟩ := Kd.R_slice HO543.out; subst eo26) | ((with_reducible refine gate_callee (f := 58) rfl ?_); refine goesL_ (some 27) rfl rfl Try.func58 (by kernel_rfl) rfl #[.int .i64 (-100000), .int .i64 100000, .slice Ao26 y541.length co26] rfl (by (try simp only [List.map_toArray, List.map_cons, List.map_nil]); first | done | rfl | (simp only [List.length_drop, List.length_take]; rfl)) ?_; (with_reducible refine (fee_within.calls (-100000) 100000 _ _ y541 false _ ?side1 ?side2 A7.out).mono ?_); (case side1 => repeat (first | exact (Kd.R_reads' HO543.out).2.2 | (with_reducible refine Kd.C_alloc ?_ _) | (with_reducible refine Kd.C_drewN ?_ _) | (with_reducible refine Kd.C_drew ?_))); (case side2 => exact (Kd.R_reads' HO543.out).2.1); rintro e w27 ⟨rfl, hb⟩; refine ⟨_, rfl, ?_⟩; have n0_ := Aside0.mk (Kd.R_below (by (with_reducible repeat (first | apply Kd.R_alloc | apply Kd.R_drewN | apply Kd.R_drew)); exact HO543.out) hb); have n1_ := Aside0.mk (below_step (by repeat (first | (with_reducible first | exact HB.out | apply below_alloc | apply pw_below_drewN | apply below_drew1) | exact HB.out)) hb); clear HO543; clear HB; have HO543 := n0_; have HB := n1_; clear n0_ n1_; (try clear hb); (try clear hb2); (try clear hk); (try clear hi)))
          go_ret3
          exact ⟨_, by first | rfl | (simp [errW_none, errW_some] <;> rfl) | (simp [*, errW_none, errW_some] <;> rfl), by first | exact Kd.R_nil _ _ _ _ _ | exact Kd.N_nil _ _ _ _ _ | exact Kd.V_nil _ _ _ _ _ | exact Kd.Q_nil _ _ _ _ _ | exact Kd.S_nil _ _ _ _ _, by repeat (first | (with_reducible first | exact HB.out | apply below_alloc | apply pw_below_drewN | apply below_drew1) | exact HB.out)⟩
      · replace c6 := Bool.eq_false_iff.mpr c6
        subst c6
        have H1 : (some (([] : List Int), 0, 2)) = some (r1, r2, r3) := by rw [if_neg (show ¬ (false = true) by decide)] at H; exact H
        clear H
        have H := H1
        clear H1
        simp only [Option.some.injEq, Prod.mk.injEq] at H
        obtain ⟨rfl, rfl, rfl⟩ := H
        go_enter Try.func45, Try.ntmps45
        go_wp2_with (first | ((with_reducible refine gate_callee (f := 58) rfl ?_); refine goesL_ (some 22) rfl rfl Try.func58 (by kernel_rfl) rfl #[.int .i64 1, .int .i64 1000, .slice A0 l0.length c0] rfl (by (try simp only [List.map_toArray, List.map_cons, List.map_nil]); first | done | rfl | (simp only [List.length_drop, List.length_take]; rfl)) ?_; (with_reducible refine (fee_within.calls 1 1000 _ _ l0 false _ ?side1 ?side2 A5.out).mono ?_); (case side1 => repeat (first | exact HR0.out | (with_reducible refine Kd.C_alloc ?_ _) | (with_reducible refine Kd.C_drewN ?_ _) | (with_reducible refine Kd.C_drew ?_))); (case side2 => exact HC0.out); rintro e w28 ⟨rfl, hb⟩; refine ⟨_, rfl, ?_⟩; have n0_ := Aside0.mk (below_step (by repeat (first | (with_reducible first | exact HB.out | apply below_alloc | apply pw_below_drewN | apply below_drew1) | exact HB.out)) hb); clear HB; have HB := n0_; clear n0_; (try clear hb); (try clear hb2); (try clear hk); (try clear hi)))
        go_ret3
        exact ⟨_, by first | rfl | (simp [errW_none, errW_some] <;> rfl) | (simp [*, errW_none, errW_some] <;> rfl), by first | exact Kd.R_nil _ _ _ _ _ | exact Kd.N_nil _ _ _ _ _ | exact Kd.V_nil _ _ _ _ _ | exact Kd.Q_nil _ _ _ _ _ | exact Kd.S_nil _ _ _ _ _, by repeat (first | (with_reducible first | exact HB.out | apply below_alloc | apply pw_below_drewN | apply below_drew1) | exact HB.out)⟩
end Go.Proofs.Ytdlekcdedahbhaa.Q
namespace Go.Proofs.Ytdlekcdedahbhaa.Q
open Go.RowKit Go.Proofs.YtdlekcdedahbhaaW.PrintWords Go.Proofs.YtdlekcdedahbhaaW.PrintLast Go.Proofs.YtdlekcdedahbhaaW.PrintMore
attribute [local go_sem] max2_int min2_int max_two min_two max_three min_three max_four min_four   -- for this text's walks alone
set_option linter.unusedVariables false
set_option linter.unusedSimpArgs false
def lw_ints.f (l0 : List Int) : Option (List Int) := (some (([] : List Int) : List Int)).bind fun y601 => (if y601.length + l0.length < 17592186044416 then (some (y601 ++ l0)) else (none))
set_option maxHeartbeats 8000000 in
set_option maxRecDepth 100000 in
theorem lw_ints.calls (A0 : Option Addr) (c0 : Nat) (l0 : List Int) (r : List Int) (w : World) (hr0 : Kd.C (Kd.int .i64) w A0 l0.length l0) (hc0 : l0.length ≤ c0) (h : lw_ints.f l0 = some r) :
    Calls Try.prog 51 #[.slice A0 l0.length c0] w fun e w' => ∃ v0_ : Value, e = .returned (v0_) ∧ Kd.R (Kd.int .i64) 3 w' w.heap.size (fun _ => True) v0_ r ∧ Below w.heap.size w w' := by
  have HR0 := Aside0.mk hr0
  have HC0 := Aside0.mk hc0
  clear hr0 hc0
  have HB := Aside0.mk (Below.refl w.heap.size w)
  have H : ((some (([] : List Int) : List Int)).bind fun y601 => (if y601.length + l0.length < 17592186044416 then (some (y601 ++ l0)) else (none))) = some r := h
  clear h
  obtain ⟨y601, hy601⟩ : ∃ y_ : List Int, y_ = (([] : List Int)) := ⟨_, rfl⟩
  replace H : (if y601.length + l0.length < 17592186044416 then (some (y601 ++ l0)) else (none)) = some r := by first | (rw [hy601]; with_reducible exact H) | (have H2_ := (Option.bind_some _ _).symm.trans H; rw [hy601]; with_reducible exact H2_) | (have H2_ := (Option.bind_some _ _).symm.trans H; with_reducible exact H2_) | with_reducible exact H | (rw [hy601]; exact H) | exact H
  have Ny601 := Aside0.mk hy601
  clear hy601
  by_cases c2 : y601.length + l0.length < 17592186044416
  · rw [if_pos c2] at H
    have LMc2 := Aside0.mk c2
    clear c2
    obtain ⟨y604, hy604⟩ : ∃ y_ : List Int, y_ = (y601 ++ l0) := ⟨_, rfl⟩
    replace H : (some y604) = some r := by first | (rw [hy604]; with_reducible exact H) | (have H2_ := (Option.bind_some _ _).symm.trans H; rw [hy604]; with_reducible exact H2_) | (have H2_ := (Option.bind_some _ _).symm.trans H; with_reducible exact H2_) | with_reducible exact H | (rw [hy604]; exact H) | exact H
    have Ny604 := Aside0.mk hy604
    clear hy604
    obtain rfl := Option.some.inj H
    go_enter Try.func51, Try.ntmps51
    go_wp2_with (first | ((with_reducible refine gate_dst (N := 3) rfl ?_); refine Kd.R_lit (Kd.int .i64) _ 3 ?hg (N := 3) ?hd (xs := ([] : List Int)) (inner := []) (ok := fun _ => True) (okp := fun _ => True) ?hr ?hp (fun _ hk => hk) trivial (Below.refl _ _) (Nat.le_refl _) (by simp) ?_; (case hd => rfl); (case hg => rfl); (case hr => first | (go_simp; done) | (go_simp; rfl)); (case hp => exact (Reps.none _ _)); intro v602 w3 ho4 hb hg_ hnew_; clear hg_ hnew_; (first | rw [← Ny601.out] at ho4 | (simp only [Int.reduceToNat] at ho4; rw [← Ny601.out] at ho4)); have n0_ := Aside0.mk (Kd.R_lower ho4 (below_size (by repeat (first | (with_reducible first | exact HB.out | apply below_alloc | apply pw_below_drewN | apply below_drew1) | exact HB.out)))); have n1_ := Aside0.mk (below_step (by repeat (first | (with_reducible first | exact HB.out | apply below_alloc | apply pw_below_drewN | apply below_drew1) | exact HB.out)) hb); clear HB; have HO603 := n0_; have HB := n1_; clear n0_ n1_; clear hb ho4) | ((with_reducible refine gate_builtin (b := .append) (xs := #[.tmp 3, .tmp 4]) rfl ?_); at_builtin; refine Kd.R_append_rows (Kd.int .i64) (w0 := w) w.heap.size rfl (.tmp 3) (.tmp 4) 35 3 (.int .i64 0) 8 rfl Try.underlying35 info3 rfl (by decide) (by omega) v602 y601 l0 _ _ _ (fun _ => True) (fun _ => False) rfl rfl ?aO ?aR (fun _ _ h => h) (fun _ h => h.elim) ?aF ?aB ?aS ?aL ?_; (case aR => repeat (first | exact (Kd.C_below HR0.out HB.out) | (with_reducible refine Kd.C_alloc ?_ _) | (with_reducible refine Kd.C_drewN ?_ _) | (with_reducible refine Kd.C_drew ?_))); (case aB => exact (by repeat (first | (with_reducible first | exact HB.out | apply below_alloc | apply pw_below_drewN | apply below_drew1) | exact HB.out))); (case aF => exact (fun _ _ => trivial)); (case aO => exact (by (with_reducible repeat (first | apply Kd.R_alloc | apply Kd.R_drewN | apply Kd.R_drew)); exact HO603.out)); (case aS => exact (below_size (by repeat (first | (with_reducible first | exact HB.out | apply below_alloc | apply pw_below_drewN | apply below_drew1) | exact HB.out)))); (case aL => have := LMc2.out; omega); intro v605 w5 ho hb hg hat; rw [← Ny604.out] at ho; have n0_ := Aside0.mk (hb); have n1_ := Aside0.mk (ho); clear HB; clear HO603; have HB := n0_; have HO606 := n1_; clear n0_ n1_; clear ho hb hg hat))
    go_ret
    exact ⟨_, by first | rfl | (simp [errW_none, errW_some] <;> rfl) | (simp [*, errW_none, errW_some] <;> rfl), by (with_reducible repeat (first | apply Kd.R_alloc | apply Kd.R_drewN | apply Kd.R_drew)); exact HO606.out, by repeat (first | (with_reducible first | exact HB.out | apply below_alloc | apply pw_below_drewN | apply below_drew1) | exact HB.out)⟩
  · rw [if_neg c2] at H
    exact absurd H (by simp)
end Go.Proofs.Ytdlekcdedahbhaa.Q
namespace Go.Proofs.Ytdlekcdedahbhaa.Q
open Go.RowKit Go.Proofs.YtdlekcdedahbhaaW.PrintWords Go.Proofs.YtdlekcdedahbhaaW.PrintLast Go.Proofs.YtdlekcdedahbhaaW.PrintMore
attribute [local go_sem] max2_int min2_int max_two min_two max_three min_three max_four min_four   -- for this text's walks alone
set_option linter.unusedVariables false
set_option linter.unusedSimpArgs false
mutual
def lw_FeeOwners.l0 : Nat → List Int → List Int → Int → Int → Option (Bool)
  | 0, _, _, _, _ => none
  | k + 1, x0, x5, x6, x7 => if x7 < 6 then (if x7 = 0 then (lw_FeeOwners.j1 k x0 x5 x6 x7 true) else (lw_FeeOwners.j1 k x0 x5 x6 x7 (decide (x7 < (x0.length : Int))))) else (lw_FeeOwners.j1 k x0 x5 x6 x7 false)
def lw_FeeOwners.j1 : Nat → List Int → List Int → Int → Int → Bool → Option (Bool)
  | 0, _, _, _, _, _ => none
  | k + 1, x0, x5, x6, x7, x32 => if x32 = true then (if x7 < (x0.length : Int) then (if 0 ≤ x7 then (if x5.length < 17592186044416 then (lw_FeeOwners.l0 k x0 (x5 ++ [wrap64 (1 + (Int.tmod (wrap64 (rd x0 x7)) 1000))]) x6 (wrap64 (x7 + 1))) else (none)) else (none)) else (if x5.length < 17592186044416 then (lw_FeeOwners.l0 k x0 (x5 ++ [1]) x6 (wrap64 (x7 + 1))) else (none))) else ((lw_ints.f x5).bind fun t918 => ((fee_Dividend.f k t918 x6).bind fun bt921 => ((lw_ints.f x5).bind fun t926 => ((fee_Dividend.f k t926 (wrap64 (-x6))).bind fun bt929 => (if bt921.2.2 = 0 then (if bt929.2.2 = 0 then (if (bt921.1.length : Int) = (x5.length : Int) then (if (bt929.1.length : Int) = (x5.length : Int) then (if bt929.2.1 = (wrap64 (-bt921.2.1)) then (if bt921.2.1 < 0 then (lw_FeeOwners.j2 k x5 x6 bt921.1 bt921.2.1 bt929.1 true) else (lw_FeeOwners.j2 k x5 x6 bt921.1 bt921.2.1 bt929.1 (decide (bt921.2.1 ≥ (x5.length : Int))))) else (lw_FeeOwners.j2 k x5 x6 bt921.1 bt921.2.1 bt929.1 true)) else (lw_FeeOwners.j2 k x5 x6 bt921.1 bt921.2.1 bt929.1 true)) else (lw_FeeOwners.j2 k x5 x6 bt921.1 bt921.2.1 bt929.1 true)) else (lw_FeeOwners.j2 k x5 x6 bt921.1 bt921.2.1 bt929.1 true)) else (lw_FeeOwners.j2 k x5 x6 bt921.1 bt921.2.1 bt929.1 true))))))
def lw_FeeOwners.j2 : Nat → List Int → Int → List Int → Int → List Int → Bool → Option (Bool)
  | 0, _, _, _, _, _, _ => none
  | k + 1, x5, x6, x9, x10, x12, x103 => if x103 = true then (some false) else (lw_FeeOwners.l1 k x5 x6 x9 x12 x10 0)
def lw_FeeOwners.l1 : Nat → List Int → Int → List Int → List Int → Int → Int → Option (Bool)
  | 0, _, _, _, _, _, _ => none
  | k + 1, x5, x6, x9, x12, x15, x16 => if x16 < (x5.length : Int) then (if 0 ≤ x16 then (if x16 < (x12.length : Int) then (if x16 < (x9.length : Int) then (if (rd x12 x16) = (wrap64 (-(rd x9 x16))) then (lw_FeeOwners.j4 k x5 x6 x9 x12 x15 x16 (decide ((rd x9 x16) < 0))) else (lw_FeeOwners.j4 k x5 x6 x9 x12 x15 x16 true)) else (none)) else (none)) else (none)) else (if x15 = x6 then ((lw_known.f).bind fun t934 => (some t934)) else (some false))
def lw_FeeOwners.j4 : Nat → List Int → Int → List Int → List Int → Int → Int → Bool → Option (Bool)
  | 0, _, _, _, _, _, _, _ => none
  | k + 1, x5, x6, x9, x12, x15, x16, x127 => if x127 = true then (some false) else (if 0 ≤ x16 then (if x16 < (x9.length : Int) then (lw_FeeOwners.l2 k x5 x6 x9 x12 (wrap64 (x15 + (rd x9 x16))) x16 0) else (none)) else (none))
def lw_FeeOwners.l2 : Nat → List Int → Int → List Int → List Int → Int → Int → Int → Option (Bool)
  | 0, _, _, _, _, _, _, _ => none
  | k + 1, x5, x6, x9, x12, x15, x16, x17 => if x17 < x16 then (if 0 ≤ x17 then (if x17 < (x5.length : Int) then (if 0 ≤ x16 then (if x16 < (x5.length : Int) then (if (rd x5 x17) ≥ (rd x5 x16) then (if x17 < (x9.length : Int) then (if x16 < (x9.length : Int) then (if (rd x9 x17) < (rd x9 x16) then (some false) else (if (rd x5 x16) ≥ (rd x5 x17) then (if (rd x9 x16) < (rd x9 x17) then (some false) else (lw_FeeOwners.l2 k x5 x6 x9 x12 x15 x16 (wrap64 (x17 + 1)))) else (lw_FeeOwners.l2 k x5 x6 x9 x12 x15 x16 (wrap64 (x17 + 1))))) else (none)) else (none)) else (if (rd x5 x16) ≥ (rd x5 x17) then (if x16 < (x9.length : Int) then (if x17 < (x9.length : Int) then (if (rd x9 x16) < (rd x9 x17) then (some false) else (lw_FeeOwners.l2 k x5 x6 x9 x12 x15 x16 (wrap64 (x17 + 1)))) else (none)) else (none)) else (lw_FeeOwners.l2 k x5 x6 x9 x12 x15 x16 (wrap64 (x17 + 1))))) else (none)) else (none)) else (none)) else (none)) else (lw_FeeOwners.l1 k x5 x6 x9 x12 x15 (wrap64 (x16 + 1)))
end
def lw_FeeOwners.f (k : Nat) (l0 : List Int) (a1 : Int) : Option (Bool) := lw_FeeOwners.l0 k l0 (([] : List Int)) (wrap64 (a1)) 0
set_option maxHeartbeats 8000000 in
set_option maxRecDepth 100000 in
theorem lw_FeeOwners.calls (k : Nat) (A0 : Option Addr) (c0 : Nat) (l0 : List Int) (a1 : Int) (r : Bool) (w : World) (hr0 : Kd.C (Kd.int .u16) w A0 l0.length l0) (hc0 : l0.length ≤ c0) (h : lw_FeeOwners.f k l0 a1 = some r) :
    Calls Try.prog 17 #[.slice A0 l0.length c0, .int .u16 a1] w fun e w' => e = .returned (.bool r) ∧ Below w.heap.size w w' := by
  have HR0 := Aside0.mk hr0
  have HC0 := Aside0.mk hc0
  clear hr0 hc0
  have HB := Aside0.mk (Below.refl w.heap.size w)
  have H : (lw_FeeOwners.l0 k l0 (([] : List Int)) (wrap64 (a1)) 0) = some r := h
  clear h
  obtain ⟨y908, hy908⟩ : ∃ y_ : List Int, y_ = (([] : List Int)) := ⟨_, rfl⟩
  replace H : (lw_FeeOwners.l0 k l0 y908 (wrap64 (a1)) 0) = some r := by first | (rw [hy908]; with_reducible exact H) | (have H2_ := (Option.bind_some _ _).symm.trans H; rw [hy908]; with_reducible exact H2_) | (have H2_ := (Option.bind_some _ _).symm.trans H; with_reducible exact H2_) | with_reducible exact H | (rw [hy908]; exact H) | exact H
  have Ny908 := Aside0.mk hy908
  clear hy908
  have H' := Aside0.mk H
  clear H
  go_enter Try.func17, Try.ntmps17
  go_wp2_with (first | ((with_reducible refine gate_dst (N := 18) rfl ?_); (try (refine gate_guard (by rfl) ?_; dsimp only)); refine Kd.R_lit (Kd.int .i64) _ 3 ?hg (N := 18) ?hd (xs := ([] : List Int)) (inner := []) (ok := fun _ => True) (okp := fun _ => True) ?hr ?hp (fun _ hk => hk) trivial (Below.refl _ _) (Nat.le_refl _) (by simp) ?_; (case hd => rfl); (case hg => rfl); (case hr => first | (go_simp; done) | (go_simp; rfl)); (case hp => exact (Reps.none _ _)); intro v909 w3 ho4 hb hg_ hnew_; clear hg_ hnew_; (first | rw [← Ny908.out] at ho4 | (simp only [Int.reduceToNat] at ho4; rw [← Ny908.out] at ho4)); have n0_ := Aside0.mk (Kd.R_lower ho4 (below_size (by repeat (first | (with_reducible first | exact HB.out | apply below_alloc | apply pw_below_drewN | apply below_drew1) | exact HB.out)))); have n1_ := Aside0.mk (below_step (by repeat (first | (with_reducible first | exact HB.out | apply below_alloc | apply pw_below_drewN | apply below_drew1) | exact HB.out)) hb); clear HB; have HO910 := n0_; have HB := n1_; clear n0_ n1_; clear hb ho4))
  repeat (go_quiet (first | ((with_reducible refine gate_dst (N := 18) rfl ?_); (try (refine gate_guard (by rfl) ?_; dsimp only)); refine Kd.R_lit (Kd.int .i64) _ 3 ?hg (N := 18) ?hd (xs := ([] : List Int)) (inner := []) (ok := fun _ => True) (okp := fun _ => True) ?hr ?hp (fun _ hk => hk) trivial (Below.refl _ _) (Nat.le_refl _) (by simp) ?_; (case hd => rfl); (case hg => rfl); (case hr => first | (go_simp; done) | (go_simp; rfl)); (case hp => exact (Reps.none _ _)); intro v909 w3 ho4 hb hg_ hnew_; clear hg_ hnew_; (first | rw [← Ny908.out] at ho4 | (simp only [Int.reduceToNat] at ho4; rw [← Ny908.out] at ho4)); have n0_ := Aside0.mk (Kd.R_lower ho4 (below_size (by repeat (first | (with_reducible first | exact HB.out | apply below_alloc | apply pw_below_drewN | apply below_drew1) | exact HB.out)))); have n1_ := Aside0.mk (below_step (by repeat (first | (with_reducible first | exact HB.out | apply below_alloc | apply pw_below_drewN | apply below_drew1) | exact HB.out)) hb); clear HB; have HO910 := n0_; have HB := n1_; clear n0_ n1_; clear hb ho4)); try go_wp2_with (first | ((with_reducible refine gate_dst (N := 18) rfl ?_); (try (refine gate_guard (by rfl) ?_; dsimp only)); refine Kd.R_lit (Kd.int .i64) _ 3 ?hg (N := 18) ?hd (xs := ([] : List Int)) (inner := []) (ok := fun _ => True) (okp := fun _ => True) ?hr ?hp (fun _ hk => hk) trivial (Below.refl _ _) (Nat.le_refl _) (by simp) ?_; (case hd => rfl); (case hg => rfl); (case hr => first | (go_simp; done) | (go_simp; rfl)); (case hp => exact (Reps.none _ _)); intro v909 w3 ho4 hb hg_ hnew_; clear hg_ hnew_; (first | rw [← Ny908.out] at ho4 | (simp only [Int.reduceToNat] at ho4; rw [← Ny908.out] at ho4)); have n0_ := Aside0.mk (Kd.R_lower ho4 (below_size (by repeat (first | (with_reducible first | exact HB.out | apply below_alloc | apply pw_below_drewN | apply below_drew1) | exact HB.out)))); have n1_ := Aside0.mk (below_step (by repeat (first | (with_reducible first | exact HB.out | apply below_alloc | apply pw_below_drewN | apply below_drew1) | exact HB.out)) hb); clear HB; have HO910 := n0_; have HB := n1_; clear n0_ n1_; clear hb ho4)))
  go_loopg [5, 7] k (fun kq v5 v7 w' => ∃ (x5_1 : List Int) (x7_1 : Int), v7 = .int .i64 x7_1 ∧ Aside0 (lw_FeeOwners.l0 kq l0 x5_1 (wrap64 (a1)) x7_1 = some r) ∧ Aside0 (kq ≤ k) ∧ Aside0 (Kd.R (Kd.int .i64) 3 w' w.heap.size (fun _ => True) v5 x5_1) ∧ Aside0 (Below w.heap.size w w'))
  case atStart => exact ⟨(y908), (0), (by first | rfl | (simp; done) | (simp [*]; done)), H', ⟨Nat.le_refl _⟩, ⟨by (with_reducible repeat (first | apply Kd.R_alloc | apply Kd.R_drewN | apply Kd.R_drew)); exact HO910.out⟩, ⟨by repeat (first | (with_reducible first | exact HB.out | apply below_alloc | apply pw_below_drewN | apply below_drew1) | exact HB.out)⟩⟩
  case round =>
    clear H'
    try clear c1
    try clear p2
    obtain ⟨x5_1, x7_1, rfl, HA, HK1, HO_5, HB⟩ := hrel
    cases gk with
    | zero => exact absurd HA.out (by simp [lw_FeeOwners.l0])
    | succ k1 =>
      have H := HA.out
      clear HA
      simp only [lw_FeeOwners.l0] at H
      have HC5 := Aside0.mk H
      clear H
      go_upto_region 3 with (fail)
      repeat (go_quiet (fail); go_upto_region 3 with (fail))
      go_cut [32] (fun v32 wc => ∃ (kq : Nat) (x32_4 : Bool), v32 = .bool x32_4 ∧ Aside0 (lw_FeeOwners.j1 kq l0 x5_1 (wrap64 (a1)) x7_1 x32_4 = some r) ∧ Aside0 (kq ≤ k1) ∧ Aside0 (Kd.R (Kd.int .i64) 3 wc w.heap.size (fun _ => True) u5 x5_1) ∧ Aside0 (Below w.heap.size w wc))
      case first =>
        have H := HC5.out
        clear HC5
        by_cases c6 : x7_1 < 6
        · rw [if_pos c6] at H
          have c6b0 : decide (x7_1 < 6) = true := decide_eq_true c6
          clear c6
          (first | rw [c6b0] | (simp only [i64_w, i32_w]; rw [c6b0]) | skip)
          by_cases c7 : x7_1 = 0
          · rw [if_pos c7] at H
            have c7b0 : (x7_1 == 0) = true := beq_iff_eq.mpr c7
            have c7b1 : (x7_1 != 0) = false := bne_eq_false_iff_eq.mpr c7
            clear c7
            have H' := Aside0.mk H
            clear H
            go_wp2
            repeat (go_quiet (fail); try go_wp2)
            go_meet
            case rel => exact ⟨_, (true), (by first | rfl | (simp; done) | (simp [*]; done)), H', ⟨by have := HK1.out; first | omega | exact Nat.le_refl _⟩, ⟨by (with_reducible repeat (first | apply Kd.R_alloc | apply Kd.R_drewN | apply Kd.R_drew)); exact HO_5.out⟩, ⟨by repeat (first | (with_reducible first | exact HB.out | apply below_alloc | apply pw_below_drewN | apply below_drew1) | exact HB.out)⟩⟩
          · rw [if_neg c7] at H
            have c7b0 : (x7_1 == 0) = false := beq_eq_false_iff_ne.mpr c7
            have c7b1 : (x7_1 != 0) = true := bne_iff_ne.mpr c7
            have H' := Aside0.mk H
            clear H
            go_wp2
            repeat (go_quiet (fail); try go_wp2)
            go_meet
            case rel => exact ⟨_, (decide (x7_1 < (l0.length : Int))), (by first | rfl | (simp; done) | (simp [*]; done)), H', ⟨by have := HK1.out; first | omega | exact Nat.le_refl _⟩, ⟨by (with_reducible repeat (first | apply Kd.R_alloc | apply Kd.R_drewN | apply Kd.R_drew)); exact HO_5.out⟩, ⟨by repeat (first | (with_reducible first | exact HB.out | apply below_alloc | apply pw_below_drewN | apply below_drew1) | exact HB.out)⟩⟩
        · rw [if_neg c6] at H
          have c6b0 : decide (x7_1 < 6) = false := decide_eq_false c6
          clear c6
          (first | rw [c6b0] | (simp only [i64_w, i32_w]; rw [c6b0]) | skip)
          have H' := Aside0.mk H
          clear H
          go_wp2
          repeat (go_quiet (fail); try go_wp2)
          go_meet
          case rel => exact ⟨_, (false), (by first | rfl | (simp; done) | (simp [*]; done)), H', ⟨by have := HK1.out; first | omega | exact Nat.le_refl _⟩, ⟨by (with_reducible repeat (first | apply Kd.R_alloc | apply Kd.R_drewN | apply Kd.R_drew)); exact HO_5.out⟩, ⟨by repeat (first | (with_reducible first | exact HB.out | apply below_alloc | apply pw_below_drewN | apply below_drew1) | exact HB.out)⟩⟩
      case rest =>
        clear HC5
        try clear c1
        try clear p2
        try clear c6
        try clear c6b0
        try clear p6
        try clear c7
        try clear c7b0
        try clear c7b1
        try clear p2
        obtain ⟨kq, x32_4, rfl, HA, HJ4, HO_5, HB⟩ := hcut
        cases kq with
        | zero => exact absurd HA.out (by simp [lw_FeeOwners.j1])
        | succ kj4 =>
          have H := HA.out
          clear HA
          simp only [lw_FeeOwners.j1] at H
          by_cases c8 : x32_4 = true
          · subst c8
            have H1 : (if x7_1 < (l0.length : Int) then (if 0 ≤ x7_1 then (if x5_1.length < 17592186044416 then (lw_FeeOwners.l0 kj4 l0 (x5_1 ++ [wrap64 (1 + (Int.tmod (wrap64 (rd l0 x7_1)) 1000))]) (wrap64 (a1)) (wrap64 (x7_1 + 1))) else (none)) else (none)) else (if x5_1.length < 17592186044416 then (lw_FeeOwners.l0 kj4 l0 (x5_1 ++ [1]) (wrap64 (a1)) (wrap64 (x7_1 + 1))) else (none))) = some r := by rw [if_pos rfl] at H; exact H
            clear H
            have H := H1
            clear H1
            by_cases c9 : x7_1 < (l0.length : Int)
            · rw [if_pos c9] at H
              have c9b0 : decide (x7_1 < (l0.length : Int)) = true := decide_eq_true c9
              clear c9
              by_cases c10 : 0 ≤ x7_1
              · rw [if_pos c10] at H
                have c10b0 : decide (0 ≤ x7_1) = true := decide_eq_true c10
                clear c10
                by_cases c11 : x5_1.length < 17592186044416
                · rw [if_pos c11] at H
                  have LMc11 := Aside0.mk c11
                  clear c11
                  obtain ⟨y912, hy912⟩ : ∃ y_ : List Int, y_ = (x5_1 ++ [wrap64 (1 + (Int.tmod (wrap64 (rd l0 x7_1)) 1000))]) := ⟨_, rfl⟩
                  replace H : (lw_FeeOwners.l0 kj4 l0 y912 (wrap64 (a1)) (wrap64 (x7_1 + 1))) = some r := by first | (rw [hy912]; with_reducible exact H) | (have H2_ := (Option.bind_some _ _).symm.trans H; rw [hy912]; with_reducible exact H2_) | (have H2_ := (Option.bind_some _ _).symm.trans H; with_reducible exact H2_) | with_reducible exact H | (rw [hy912]; exact H) | exact H
                  have Ny912 := Aside0.mk hy912
                  clear hy912
                  have H' := Aside0.mk H
                  clear H
                  have p911 : 0 ≤ (x7_1 : Int) := of_decide_eq_true (by first | (with_reducible assumption) | assumption)
                  have q911 : x7_1 < (l0.length : Int) := of_decide_eq_true (by first | (with_reducible assumption) | assumption)
                  obtain ⟨ad911, e911, hx911_0⟩ := Kd.at_int HR0.out x7_1 p911 q911
                  cases e911
                  replace hx911_0 := (HB.out.cell (World.block_lt_of_cell? w _ hx911_0)).trans hx911_0
                  replace p911 := eq_true p911
                  replace q911 := eq_true q911
                  go_wp2_with (first | ((with_reducible refine gate_builtin (b := .append) (xs := #[.tmp 47, .tmp 49]) rfl ?_); (try (refine gate_guard (by rfl) ?_; dsimp only)); at_builtin; refine Kd.R_append (Kd.int .i64) (w0 := w) w.heap.size rfl (.tmp 47) (.tmp 49) 35 3 (.int .i64 0) 8 rfl Try.underlying35 info3 rfl (by decide) (by omega) u5 x5_1 (wrap64 (1 + (Int.tmod (wrap64 (rd l0 x7_1)) 1000))) [.int .i64 (wrap64 (1 + (Int.tmod (wrap64 (rd l0 x7_1)) 1000)))] (fun _ => True) (fun _ => False) rfl rfl ?aP (fun _ hk => hk.elim) ?aF ?aO ?aB ?aS ?aL ?_; (case aP => exact rfl); (case aB => exact (by repeat (first | (with_reducible first | exact HB.out | apply below_alloc | apply pw_below_drewN | apply below_drew1) | exact HB.out))); (case aF => exact (fun _ _ => trivial)); (case aO => exact (by (with_reducible repeat (first | apply Kd.R_alloc | apply Kd.R_drewN | apply Kd.R_drew)); exact HO_5.out)); (case aS => exact (below_size (by repeat (first | (with_reducible first | exact HB.out | apply below_alloc | apply pw_below_drewN | apply below_drew1) | exact HB.out)))); (case aL => have := LMc11.out; omega); intro v913 w12 ho hb hg hat; rw [← Ny912.out] at ho; have n0_ := Aside0.mk (hb); have n1_ := Aside0.mk (ho); clear HB; clear HO_5; have HB := n0_; have HO914 := n1_; clear n0_ n1_; clear ho hb hg hat))
                  repeat (go_quiet (first | ((with_reducible refine gate_builtin (b := .append) (xs := #[.tmp 47, .tmp 49]) rfl ?_); (try (refine gate_guard (by rfl) ?_; dsimp only)); at_builtin; refine Kd.R_append (Kd.int .i64) (w0 := w) w.heap.size rfl (.tmp 47) (.tmp 49) 35 3 (.int .i64 0) 8 rfl Try.underlying35 info3 rfl (by decide) (by omega) u5 x5_1 (wrap64 (1 + (Int.tmod (wrap64 (rd l0 x7_1)) 1000))) [.int .i64 (wrap64 (1 + (Int.tmod (wrap64 (rd l0 x7_1)) 1000)))] (fun _ => True) (fun _ => False) rfl rfl ?aP (fun _ hk => hk.elim) ?aF ?aO ?aB ?aS ?aL ?_; (case aP => exact rfl); (case aB => exact (by repeat (first | (with_reducible first | exact HB.out | apply below_alloc | apply pw_below_drewN | apply below_drew1) | exact HB.out))); (case aF => exact (fun _ _ => trivial)); (case aO => exact (by (with_reducible repeat (first | apply Kd.R_alloc | apply Kd.R_drewN | apply Kd.R_drew)); exact HO_5.out)); (case aS => exact (below_size (by repeat (first | (with_reducible first | exact HB.out | apply below_alloc | apply pw_below_drewN | apply below_drew1) | exact HB.out)))); (case aL => have := LMc11.out; omega); intro v913 w12 ho hb hg hat; rw [← Ny912.out] at ho; have n0_ := Aside0.mk (hb); have n1_ := Aside0.mk (ho); clear HB; clear HO_5; have HB := n0_; have HO914 := n1_; clear n0_ n1_; clear ho hb hg hat)); try go_wp2_with (first | ((with_reducible refine gate_builtin (b := .append) (xs := #[.tmp 47, .tmp 49]) rfl ?_); (try (refine gate_guard (by rfl) ?_; dsimp only)); at_builtin; refine Kd.R_append (Kd.int .i64) (w0 := w) w.heap.size rfl (.tmp 47) (.tmp 49) 35 3 (.int .i64 0) 8 rfl Try.underlying35 info3 rfl (by decide) (by omega) u5 x5_1 (wrap64 (1 + (Int.tmod (wrap64 (rd l0 x7_1)) 1000))) [.int .i64 (wrap64 (1 + (Int.tmod (wrap64 (rd l0 x7_1)) 1000)))] (fun _ => True) (fun _ => False) rfl rfl ?aP (fun _ hk => hk.elim) ?aF ?aO ?aB ?aS ?aL ?_; (case aP => exact rfl); (case aB => exact (by repeat (first | (with_reducible first | exact HB.out | apply below_alloc | apply pw_below_drewN | apply below_drew1) | exact HB.out))); (case aF => exact (fun _ _ => trivial)); (case aO => exact (by (with_reducible repeat (first | apply Kd.R_alloc | apply Kd.R_drewN | apply Kd.R_drew)); exact HO_5.out)); (case aS => exact (below_size (by repeat (first | (with_reducible first | exact HB.out | apply below_alloc | apply pw_below_drewN | apply below_drew1) | exact HB.out)))); (case aL => have := LMc11.out; omega); intro v913 w12 ho hb hg hat; rw [← Ny912.out] at ho; have n0_ := Aside0.mk (hb); have n1_ := Aside0.mk (ho); clear HB; clear HO_5; have HB := n0_; have HO914 := n1_; clear n0_ n1_; clear ho hb hg hat)))
                  go_roundg kj4
                  case measure => have := HK1.out; have := HJ4.out; omega
                  case rel => exact ⟨(y912), (wrap64 (x7_1 + 1)), (by first | rfl | (simp; done) | (simp [*]; done)), H', ⟨by have := HK1.out; have := HJ4.out; omega⟩, ⟨by (with_reducible repeat (first | apply Kd.R_alloc | apply Kd.R_drewN | apply Kd.R_drew)); exact HO914.out⟩, ⟨by repeat (first | (with_reducible first | exact HB.out | apply below_alloc | apply pw_below_drewN | apply below_drew1) | exact HB.out)⟩⟩
                · rw [if_neg c11] at H
                  exact absurd H (by simp)
              · rw [if_neg c10] at H
                exact absurd H (by simp)
            · rw [if_neg c9] at H
              have c9b0 : decide (x7_1 < (l0.length : Int)) = false := decide_eq_false c9
              clear c9
              by_cases c13 : x5_1.length < 17592186044416
              · rw [if_pos c13] at H
                have LMc13 := Aside0.mk c13
                clear c13
                obtain ⟨y915, hy915⟩ : ∃ y_ : List Int, y_ = (x5_1 ++ [1]) := ⟨_, rfl⟩
                replace H : (lw_FeeOwners.l0 kj4 l0 y915 (wrap64 (a1)) (wrap64 (x7_1 + 1))) = some r := by first | (rw [hy915]; with_reducible exact H) | (have H2_ := (Option.bind_some _ _).symm.trans H; rw [hy915]; with_reducible exact H2_) | (have H2_ := (Option.bind_some _ _).symm.trans H; with_reducible exact H2_) | with_reducible exact H | (rw [hy915]; exact H) | exact H
                have Ny915 := Aside0.mk hy915
                clear hy915
                have H' := Aside0.mk H
                clear H
                go_wp2_with (first | ((with_reducible refine gate_builtin (b := .append) (xs := #[.tmp 47, .tmp 49]) rfl ?_); (try (refine gate_guard (by rfl) ?_; dsimp only)); at_builtin; refine Kd.R_append (Kd.int .i64) (w0 := w) w.heap.size rfl (.tmp 47) (.tmp 49) 35 3 (.int .i64 0) 8 rfl Try.underlying35 info3 rfl (by decide) (by omega) u5 x5_1 1 [.int .i64 1] (fun _ => True) (fun _ => False) rfl rfl ?aP (fun _ hk => hk.elim) ?aF ?aO ?aB ?aS ?aL ?_; (case aP => exact rfl); (case aB => exact (by repeat (first | (with_reducible first | exact HB.out | apply below_alloc | apply pw_below_drewN | apply below_drew1) | exact HB.out))); (case aF => exact (fun _ _ => trivial)); (case aO => exact (by (with_reducible repeat (first | apply Kd.R_alloc | apply Kd.R_drewN | apply Kd.R_drew)); exact HO_5.out)); (case aS => exact (below_size (by repeat (first | (with_reducible first | exact HB.out | apply below_alloc | apply pw_below_drewN | apply below_drew1) | exact HB.out)))); (case aL => have := LMc13.out; omega); intro v916 w14 ho hb hg hat; rw [← Ny915.out] at ho; have n0_ := Aside0.mk (hb); have n1_ := Aside0.mk (ho); clear HB; clear HO_5; have HB := n0_; have HO917 := n1_; clear n0_ n1_; clear ho hb hg hat))
                repeat (go_quiet (first | ((with_reducible refine gate_builtin (b := .append) (xs := #[.tmp 47, .tmp 49]) rfl ?_); (try (refine gate_guard (by rfl) ?_; dsimp only)); at_builtin; refine Kd.R_append (Kd.int .i64) (w0 := w) w.heap.size rfl (.tmp 47) (.tmp 49) 35 3 (.int .i64 0) 8 rfl Try.underlying35 info3 rfl (by decide) (by omega) u5 x5_1 1 [.int .i64 1] (fun _ => True) (fun _ => False) rfl rfl ?aP (fun _ hk => hk.elim) ?aF ?aO ?aB ?aS ?aL ?_; (case aP => exact rfl); (case aB => exact (by repeat (first | (with_reducible first | exact HB.out | apply below_alloc | apply pw_below_drewN | apply below_drew1) | exact HB.out))); (case aF => exact (fun _ _ => trivial)); (case aO => exact (by (with_reducible repeat (first | apply Kd.R_alloc | apply Kd.R_drewN | apply Kd.R_drew)); exact HO_5.out)); (case aS => exact (below_size (by repeat (first | (with_reducible first | exact HB.out | apply below_alloc | apply pw_below_drewN | apply below_drew1) | exact HB.out)))); (case aL => have := LMc13.out; omega); intro v916 w14 ho hb hg hat; rw [← Ny915.out] at ho; have n0_ := Aside0.mk (hb); have n1_ := Aside0.mk (ho); clear HB; clear HO_5; have HB := n0_; have HO917 := n1_; clear n0_ n1_; clear ho hb hg hat)); try go_wp2_with (first | ((with_reducible refine gate_builtin (b := .append) (xs := #[.tmp 47, .tmp 49]) rfl ?_); (try (refine gate_guard (by rfl) ?_; dsimp only)); at_builtin; refine Kd.R_append (Kd.int .i64) (w0 := w) w.heap.size rfl (.tmp 47) (.tmp 49) 35 3 (.int .i64 0) 8 rfl Try.underlying35 info3 rfl (by decide) (by omega) u5 x5_1 1 [.int .i64 1] (fun _ => True) (fun _ => False) rfl rfl ?aP (fun _ hk => hk.elim) ?aF ?aO ?aB ?aS ?aL ?_; (case aP => exact rfl); (case aB => exact (by repeat (first | (with_reducible first | exact HB.out | apply below_alloc | apply pw_below_drewN | apply below_drew1) | exact HB.out))); (case aF => exact (fun _ _ => trivial)); (case aO => exact (by (with_reducible repeat (first | apply Kd.R_alloc | apply Kd.R_drewN | apply Kd.R_drew)); exact HO_5.out)); (case aS => exact (below_size (by repeat (first | (with_reducible first | exact HB.out | apply below_alloc | apply pw_below_drewN | apply below_drew1) | exact HB.out)))); (case aL => have := LMc13.out; omega); intro v916 w14 ho hb hg hat; rw [← Ny915.out] at ho; have n0_ := Aside0.mk (hb); have n1_ := Aside0.mk (ho); clear HB; clear HO_5; have HB := n0_; have HO917 := n1_; clear n0_ n1_; clear ho hb hg hat)))
                go_roundg kj4
                case measure => have := HK1.out; have := HJ4.out; omega
                case rel => exact ⟨(y915), (wrap64 (x7_1 + 1)), (by first | rfl | (simp; done) | (simp [*]; done)), H', ⟨by have := HK1.out; have := HJ4.out; omega⟩, ⟨by (with_reducible repeat (first | apply Kd.R_alloc | apply Kd.R_drewN | apply Kd.R_drew)); exact HO917.out⟩, ⟨by repeat (first | (with_reducible first | exact HB.out | apply below_alloc | apply pw_below_drewN | apply below_drew1) | exact HB.out)⟩⟩
              · rw [if_neg c13] at H
                exact absurd H (by simp)
          · replace c8 := Bool.eq_false_iff.mpr c8
            subst c8
            have H1 : ((lw_ints.f x5_1).bind fun t918 => ((fee_Dividend.f kj4 t918 (wrap64 (a1))).bind fun bt921 => ((lw_ints.f x5_1).bind fun t926 => ((fee_Dividend.f kj4 t926 (wrap64 (-(wrap64 (a1))))).bind fun bt929 => (if bt921.2.2 = 0 then (if bt929.2.2 = 0 then (if (bt921.1.length : Int) = (x5_1.length : Int) then (if (bt929.1.length : Int) = (x5_1.length : Int) then (if bt929.2.1 = (wrap64 (-bt921.2.1)) then (if bt921.2.1 < 0 then (lw_FeeOwners.j2 kj4 x5_1 (wrap64 (a1)) bt921.1 bt921.2.1 bt929.1 true) else (lw_FeeOwners.j2 kj4 x5_1 (wrap64 (a1)) bt921.1 bt921.2.1 bt929.1 (decide (bt921.2.1 ≥ (x5_1.length : Int))))) else (lw_FeeOwners.j2 kj4 x5_1 (wrap64 (a1)) bt921.1 bt921.2.1 bt929.1 true)) else (lw_FeeOwners.j2 kj4 x5_1 (wrap64 (a1)) bt921.1 bt921.2.1 bt929.1 true)) else (lw_FeeOwners.j2 kj4 x5_1 (wrap64 (a1)) bt921.1 bt921.2.1 bt929.1 true)) else (lw_FeeOwners.j2 kj4 x5_1 (wrap64 (a1)) bt921.1 bt921.2.1 bt929.1 true)) else (lw_FeeOwners.j2 kj4 x5_1 (wrap64 (a1)) bt921.1 bt921.2.1 bt929.1 true)))))) = some r := by rw [if_neg (show ¬ (false = true) by decide)] at H; exact H
            clear H
            have H := H1
            clear H1
            replace H := Option.bind_eq_some_iff.mp H
            obtain ⟨t918, A150, H⟩ := H
            replace H : ((fee_Dividend.f kj4 t918 (wrap64 (a1))).bind fun bt921 => ((lw_ints.f x5_1).bind fun t926 => ((fee_Dividend.f kj4 t926 (wrap64 (-(wrap64 (a1))))).bind fun bt929 => (if bt921.2.2 = 0 then (if bt929.2.2 = 0 then (if (bt921.1.length : Int) = (x5_1.length : Int) then (if (bt929.1.length : Int) = (x5_1.length : Int) then (if bt929.2.1 = (wrap64 (-bt921.2.1)) then (if bt921.2.1 < 0 then (lw_FeeOwners.j2 kj4 x5_1 (wrap64 (a1)) bt921.1 bt921.2.1 bt929.1 true) else (lw_FeeOwners.j2 kj4 x5_1 (wrap64 (a1)) bt921.1 bt921.2.1 bt929.1 (decide (bt921.2.1 ≥ (x5_1.length : Int))))) else (lw_FeeOwners.j2 kj4 x5_1 (wrap64 (a1)) bt921.1 bt921.2.1 bt929.1 true)) else (lw_FeeOwners.j2 kj4 x5_1 (wrap64 (a1)) bt921.1 bt921.2.1 bt929.1 true)) else (lw_FeeOwners.j2 kj4 x5_1 (wrap64 (a1)) bt921.1 bt921.2.1 bt929.1 true)) else (lw_FeeOwners.j2 kj4 x5_1 (wrap64 (a1)) bt921.1 bt921.2.1 bt929.1 true)) else (lw_FeeOwners.j2 kj4 x5_1 (wrap64 (a1)) bt921.1 bt921.2.1 bt929.1 true))))) = some r := H
            have A15 := Aside0.mk A150
            clear A150
            replace H := Option.bind_eq_some_iff.mp H
            obtain ⟨⟨t921, t922, t923⟩, A160, H⟩ := H
            replace H : ((lw_ints.f x5_1).bind fun t926 => ((fee_Dividend.f kj4 t926 (wrap64 (-(wrap64 (a1))))).bind fun bt929 => (if t923 = 0 then (if bt929.2.2 = 0 then (if (t921.length : Int) = (x5_1.length : Int) then (if (bt929.1.length : Int) = (x5_1.length : Int) then (if bt929.2.1 = (wrap64 (-t922)) then (if t922 < 0 then (lw_FeeOwners.j2 kj4 x5_1 (wrap64 (a1)) t921 t922 bt929.1 true) else (lw_FeeOwners.j2 kj4 x5_1 (wrap64 (a1)) t921 t922 bt929.1 (decide (t922 ≥ (x5_1.length : Int))))) else (lw_FeeOwners.j2 kj4 x5_1 (wrap64 (a1)) t921 t922 bt929.1 true)) else (lw_FeeOwners.j2 kj4 x5_1 (wrap64 (a1)) t921 t922 bt929.1 true)) else (lw_FeeOwners.j2 kj4 x5_1 (wrap64 (a1)) t921 t922 bt929.1 true)) else (lw_FeeOwners.j2 kj4 x5_1 (wrap64 (a1)) t921 t922 bt929.1 true)) else (lw_FeeOwners.j2 kj4 x5_1 (wrap64 (a1)) t921 t922 bt929.1 true)))) = some r := H
            have A16 := Aside0.mk A160
            clear A160
            replace H := Option.bind_eq_some_iff.mp H
            obtain ⟨t926, A170, H⟩ := H
            replace H : ((fee_Dividend.f kj4 t926 (wrap64 (-(wrap64 (a1))))).bind fun bt929 => (if t923 = 0 then (if bt929.2.2 = 0 then (if (t921.length : Int) = (x5_1.length : Int) then (if (bt929.1.length : Int) = (x5_1.length : Int) then (if bt929.2.1 = (wrap64 (-t922)) then (if t922 < 0 then (lw_FeeOwners.j2 kj4 x5_1 (wrap64 (a1)) t921 t922 bt929.1 true) else (lw_FeeOwners.j2 kj4 x5_1 (wrap64 (a1)) t921 t922 bt929.1 (decide (t922 ≥ (x5_1.length : Int))))) else (lw_FeeOwners.j2 kj4 x5_1 (wrap64 (a1)) t921 t922 bt929.1 true)) else (lw_FeeOwners.j2 kj4 x5_1 (wrap64 (a1)) t921 t922 bt929.1 true)) else (lw_FeeOwners.j2 kj4 x5_1 (wrap64 (a1)) t921 t922 bt929.1 true)) else (lw_FeeOwners.j2 kj4 x5_1 (wrap64 (a1)) t921 t922 bt929.1 true)) else (lw_FeeOwners.j2 kj4 x5_1 (wrap64 (a1)) t921 t922 bt929.1 true))) = some r := H
            have A17 := Aside0.mk A170
            clear A170
            replace H := Option.bind_eq_some_iff.mp H
            obtain ⟨⟨t929, t930, t931⟩, A180, H⟩ := H
            replace H : (if t923 = 0 then (if t931 = 0 then (if (t921.length : Int) = (x5_1.length : Int) then (if (t929.length : Int) = (x5_1.length : Int) then (if t930 = (wrap64 (-t922)) then (if t922 < 0 then (lw_FeeOwners.j2 kj4 x5_1 (wrap64 (a1)) t921 t922 t929 true) else (lw_FeeOwners.j2 kj4 x5_1 (wrap64 (a1)) t921 t922 t929 (decide (t922 ≥ (x5_1.length : Int))))) else (lw_FeeOwners.j2 kj4 x5_1 (wrap64 (a1)) t921 t922 t929 true)) else (lw_FeeOwners.j2 kj4 x5_1 (wrap64 (a1)) t921 t922 t929 true)) else (lw_FeeOwners.j2 kj4 x5_1 (wrap64 (a1)) t921 t922 t929 true)) else (lw_FeeOwners.j2 kj4 x5_1 (wrap64 (a1)) t921 t922 t929 true)) else (lw_FeeOwners.j2 kj4 x5_1 (wrap64 (a1)) t921 t922 t929 true)) = some r := H
            have A18 := Aside0.mk A180
            clear A180
            have HC19 := Aside0.mk H
            clear H
            obtain ⟨Ao20, co20, eo20⟩ := Kd.R_slice HO_5.out
            subst eo20
            go_upto_region 11 with (first | (go_at_call 51; (with_reducible refine (lw_ints.calls _ _ x5_1 t926 _ ?side1 ?side2 A17.out).mono ?_); (case side1 => repeat (first | exact (Kd.R_reads' HO_5.out).2.2 | (with_reducible refine Kd.C_alloc ?_ _) | (with_reducible refine Kd.C_drewN ?_ _) | (with_reducible refine Kd.C_drew ?_))); (case side2 => exact (Kd.R_reads' HO_5.out).2.1); rintro e w24 ⟨v927, rfl, ho0, hb⟩; have n0_ := Aside0.mk (Kd.R_elder' (by (with_reducible repeat (first | apply Kd.R_alloc | apply Kd.R_drewN | apply Kd.R_drew)); exact HO_5.out) (Kd.R_base ho0) hb); have n1_ := Aside0.mk (Kd.R_elder' (by (with_reducible repeat (first | apply Kd.R_alloc | apply Kd.R_drewN | apply Kd.R_drew)); exact HO920.out) (Kd.R_base ho0) hb); have n2_ := Aside0.mk (Kd.R_elder' (by (with_reducible repeat (first | apply Kd.R_alloc | apply Kd.R_drewN | apply Kd.R_drew)); exact HO925.out) (Kd.R_base ho0) hb); have n3_ := Aside0.mk (Kd.R_lower (Kd.R_new' (Kd.R_new' (Kd.R_new' ho0 (Kd.R_lt (by (with_reducible repeat (first | apply Kd.R_alloc | apply Kd.R_drewN | apply Kd.R_drew)); exact HO_5.out))) (Kd.R_lt (by (with_reducible repeat (first | apply Kd.R_alloc | apply Kd.R_drewN | apply Kd.R_drew)); exact HO920.out))) (Kd.R_lt (by (with_reducible repeat (first | apply Kd.R_alloc | apply Kd.R_drewN | apply Kd.R_drew)); exact HO925.out))) (below_size (by repeat (first | (with_reducible first | exact HB.out | apply below_alloc | apply pw_below_drewN | apply below_drew1) | exact HB.out)))); have n4_ := Aside0.mk (below_step (by repeat (first | (with_reducible first | exact HB.out | apply below_alloc | apply pw_below_drewN | apply below_drew1) | exact HB.out)) hb); clear HO_5; clear HO920; clear HO925; clear HB; have HO_5 := n0_; have HO920 := n1_; have HO925 := n2_; have HO928 := n3_; have HB := n4_; clear n0_ n1_ n2_ n3_ n4_; (try clear hb); (try clear hb2); (try clear hk); (try clear hi); (try clear ho0); obtain ⟨Ao25, co25, eo25⟩ := Kd.R_slice HO928.out; subst eo25) | (go_at_call 45; (with_reducible refine (fee_Dividend.calls kj4 _ _ t918 (wrap64 (a1)) t921 t922 t923 _ ?side1 ?side2 A16.out).mono ?_); (case side1 => repeat (first | exact (Kd.R_reads' HO920.out).2.2 | (with_reducible refine Kd.C_alloc ?_ _) | (with_reducible refine Kd.C_drewN ?_ _) | (with_reducible refine Kd.C_drew ?_))); (case side2 => exact (Kd.R_reads' HO920.out).2.1); rintro e w23 ⟨v924, rfl, ho0, hb⟩; have n0_ := Aside0.mk (Kd.R_elder' (by (with_reducible repeat (first | apply Kd.R_alloc | apply Kd.R_drewN | apply Kd.R_drew)); exact HO_5.out) (Kd.R_base ho0) hb); have n1_ := Aside0.mk (Kd.R_elder' (by (with_reducible repeat (first | apply Kd.R_alloc | apply Kd.R_drewN | apply Kd.R_drew)); exact HO920.out) (Kd.R_base ho0) hb); have n2_ := Aside0.mk (Kd.R_lower (Kd.R_new' (Kd.R_new' ho0 (Kd.R_lt (by (with_reducible repeat (first | apply Kd.R_alloc | apply Kd.R_drewN | apply Kd.R_drew)); exact HO_5.out))) (Kd.R_lt (by (with_reducible repeat (first | apply Kd.R_alloc | apply Kd.R_drewN | apply Kd.R_drew)); exact HO920.out))) (below_size (by repeat (first | (with_reducible first | exact HB.out | apply below_alloc | apply pw_below_drewN | apply below_drew1) | exact HB.out)))); have n3_ := Aside0.mk (below_step (by repeat (first | (with_reducible first | exact HB.out | apply below_alloc | apply pw_below_drewN | apply below_drew1) | exact HB.out)) hb); clear HO_5; clear HO920; clear HB; have HO_5 := n0_; have HO920 := n1_; have HO925 := n2_; have HB := n3_; clear n0_ n1_ n2_ n3_; (try clear hb); (try clear hb2); (try clear hk); (try clear hi); (try clear ho0)) | (go_at_call 51; (with_reducible refine (lw_ints.calls _ _ x5_1 t918 _ ?side1 ?side2 A15.out).mono ?_); (case side1 => repeat (first | exact (Kd.R_reads' HO_5.out).2.2 | (with_reducible refine Kd.C_alloc ?_ _) | (with_reducible refine Kd.C_drewN ?_ _) | (with_reducible refine Kd.C_drew ?_))); (case side2 => exact (Kd.R_reads' HO_5.out).2.1); rintro e w21 ⟨v919, rfl, ho0, hb⟩; have n0_ := Aside0.mk (Kd.R_elder' (by (with_reducible repeat (first | apply Kd.R_alloc | apply Kd.R_drewN | apply Kd.R_drew)); exact HO_5.out) (Kd.R_base ho0) hb); have n1_ := Aside0.mk (Kd.R_lower (Kd.R_new' ho0 (Kd.R_lt (by (with_reducible repeat (first | apply Kd.R_alloc | apply Kd.R_drewN | apply Kd.R_drew)); exact HO_5.out))) (below_size (by repeat (first | (with_reducible first | exact HB.out | apply below_alloc | apply pw_below_drewN | apply below_drew1) | exact HB.out)))); have n2_ := Aside0.mk (below_step (by repeat (first | (with_reducible first | exact HB.out | apply below_alloc | apply pw_below_drewN | apply below_drew1) | exact HB.out)) hb); clear HO_5; clear HB; have HO_5 := n0_; have HO920 := n1_; have HB := n2_; clear n0_ n1_ n2_; (try clear hb); (try clear hb2); (try clear hk); (try clear hi); (try clear ho0); obtain ⟨Ao22, co22, eo22⟩ := Kd.R_slice HO920.out; subst eo22) | (go_at_call 45; (with_reducible refine (fee_Dividend.calls kj4 _ _ t926 (wrap64 (-(wrap64 (a1)))) t929 t930 t931 _ ?side1 ?side2 A18.out).mono ?_); (case side1 => repeat (first | exact (Kd.R_reads' HO928.out).2.2 | (with_reducible refine Kd.C_alloc ?_ _) | (with_reducible refine Kd.C_drewN ?_ _) | (with_reducible refine Kd.C_drew ?_))); (case side2 => exact (Kd.R_reads' HO928.out).2.1); rintro e w26 ⟨v932, rfl, ho0, hb⟩; have n0_ := Aside0.mk (Kd.R_elder' (by (with_reducible repeat (first | apply Kd.R_alloc | apply Kd.R_drewN | apply Kd.R_drew)); exact HO_5.out) (Kd.R_base ho0) hb); have n1_ := Aside0.mk (Kd.R_elder' (by (with_reducible repeat (first | apply Kd.R_alloc | apply Kd.R_drewN | apply Kd.R_drew)); exact HO920.out) (Kd.R_base ho0) hb); have n2_ := Aside0.mk (Kd.R_elder' (by (with_reducible repeat (first | apply Kd.R_alloc | apply Kd.R_drewN | apply Kd.R_drew)); exact HO925.out) (Kd.R_base ho0) hb); have n3_ := Aside0.mk (Kd.R_elder' (by (with_reducible repeat (first | apply Kd.R_alloc | apply Kd.R_drewN | apply Kd.R_drew)); exact HO928.out) (Kd.R_base ho0) hb); have n4_ := Aside0.mk (Kd.R_lower (Kd.R_new' (Kd.R_new' (Kd.R_new' (Kd.R_new' ho0 (Kd.R_lt (by (with_reducible repeat (first | apply Kd.R_alloc | apply Kd.R_drewN | apply Kd.R_drew)); exact HO_5.out))) (Kd.R_lt (by (with_reducible repeat (first | apply Kd.R_alloc | apply Kd.R_drewN | apply Kd.R_drew)); exact HO920.out))) (Kd.R_lt (by (with_reducible repeat (first | apply Kd.R_alloc | apply Kd.R_drewN | apply Kd.R_drew)); exact HO925.out))) (Kd.R_lt (by (with_reducible repeat (first | apply Kd.R_alloc | apply Kd.R_drewN | apply Kd.R_drew)); exact HO928.out))) (below_size (by repeat (first | (with_reducible first | exact HB.out | apply below_alloc | apply pw_below_drewN | apply below_drew1) | exact HB.out)))); have n5_ := Aside0.mk (below_step (by repeat (first | (with_reducible first | exact HB.out | apply below_alloc | apply pw_below_drewN | apply below_drew1) | exact HB.out)) hb); clear HO_5; clear HO920; clear HO925; clear HO928; clear HB; have HO_5 := n0_; have HO920 := n1_; have HO925 := n2_; have HO928 := n3_; have HO933 := n4_; have HB := n5_; clear n0_ n1_ n2_ n3_ n4_ n5_; (try clear hb); (try clear hb2); (try clear hk); (try clear hi); (try clear ho0)))
            repeat (go_quiet (first | (go_at_call 51; (with_reducible refine (lw_ints.calls _ _ x5_1 t926 _ ?side1 ?side2 A17.out).mono ?_); (case side1 => repeat (first | exact (Kd.R_reads' HO_5.out).2.2 | (with_reducible refine Kd.C_alloc ?_ _) | (with_reducible refine Kd.C_drewN ?_ _) | (with_reducible refine Kd.C_drew ?_))); (case side2 => exact (Kd.R_reads' HO_5.out).2.1); rintro e w24 ⟨v927, rfl, ho0, hb⟩; have n0_ := Aside0.mk (Kd.R_elder' (by (with_reducible repeat (first | apply Kd.R_alloc | apply Kd.R_drewN | apply Kd.R_drew)); exact HO_5.out) (Kd.R_base ho0) hb); have n1_ := Aside0.mk (Kd.R_elder' (by (with_reducible repeat (first | apply Kd.R_alloc | apply Kd.R_drewN | apply Kd.R_drew)); exact HO920.out) (Kd.R_base ho0) hb); have n2_ := Aside0.mk (Kd.R_elder' (by (with_reducible repeat (first | apply Kd.R_alloc | apply Kd.R_drewN | apply Kd.R_drew)); exact HO925.out) (Kd.R_base ho0) hb); have n3_ := Aside0.mk (Kd.R_lower (Kd.R_new' (Kd.R_new' (Kd.R_new' ho0 (Kd.R_lt (by (with_reducible repeat (first | apply Kd.R_alloc | apply Kd.R_drewN | apply Kd.R_drew)); exact HO_5.out))) (Kd.R_lt (by (with_reducible repeat (first | apply Kd.R_alloc | apply Kd.R_drewN | apply Kd.R_drew)); exact HO920.out))) (Kd.R_lt (by (with_reducible repeat (first | apply Kd.R_alloc | apply Kd.R_drewN | apply Kd.R_drew)); exact HO925.out))) (below_size (by repeat (first | (with_reducible first | exact HB.out | apply below_alloc | apply pw_below_drewN | apply below_drew1) | exact HB.out)))); have n4_ := Aside0.mk (below_step (by repeat (first | (with_reducible first | exact HB.out | apply below_alloc | apply pw_below_drewN | apply below_drew1) | exact HB.out)) hb); clear HO_5; clear HO920; clear HO925; clear HB; have HO_5 := n0_; have HO920 := n1_; have HO925 := n2_; have HO928 := n3_; have HB := n4_; clear n0_ n1_ n2_ n3_ n4_; (try clear hb); (try clear hb2); (try clear hk); (try clear hi); (try clear ho0); obtain ⟨Ao25, co25, eo25⟩ := Kd.R_slice HO928.out; subst eo25) | (go_at_call 45; (with_reducible refine (fee_Dividend.calls kj4 _ _ t918 (wrap64 (a1)) t921 t922 t923 _ ?side1 ?side2 A16.out).mono ?_); (case side1 => repeat (first | exact (Kd.R_reads' HO920.out).2.2 | (with_reducible refine Kd.C_alloc ?_ _) | (with_reducible refine Kd.C_drewN ?_ _) | (with_reducible refine Kd.C_drew ?_))); (case side2 => exact (Kd.R_reads' HO920.out).2.1); rintro e w23 ⟨v924, rfl, ho0, hb⟩; have n0_ := Aside0.mk (Kd.R_elder' (by (with_reducible repeat (first | apply Kd.R_alloc | apply Kd.R_drewN | apply Kd.R_drew)); exact HO_5.out) (Kd.R_base ho0) hb); have n1_ := Aside0.mk (Kd.R_elder' (by (with_reducible repeat (first | apply Kd.R_alloc | apply Kd.R_drewN | apply Kd.R_drew)); exact HO920.out) (Kd.R_base ho0) hb); have n2_ := Aside0.mk (Kd.R_lower (Kd.R_new' (Kd.R_new' ho0 (Kd.R_lt (by (with_reducible repeat (first | apply Kd.R_alloc | apply Kd.R_drewN | apply Kd.R_drew)); exact HO_5.out))) (Kd.R_lt (by (with_reducible repeat (first | apply Kd.R_alloc | apply Kd.R_drewN | apply Kd.R_drew)); exact HO920.out))) (below_size (by repeat (first | (with_reducible first | exact HB.out | apply below_alloc | apply pw_below_drewN | apply below_drew1) | exact HB.out)))); have n3_ := Aside0.mk (below_step (by repeat (first | (with_reducible first | exact HB.out | apply below_alloc | apply pw_below_drewN | apply below_drew1) | exact HB.out)) hb); clear HO_5; clear HO920; clear HB; have HO_5 := n0_; have HO920 := n1_; have HO925 := n2_; have HB := n3_; clear n0_ n1_ n2_ n3_; (try clear hb); (try clear hb2); (try clear hk); (try clear hi); (try clear ho0)) | (go_at_call 51; (with_reducible refine (lw_ints.calls _ _ x5_1 t918 _ ?side1 ?side2 A15.out).mono ?_); (case side1 => repeat (first | exact (Kd.R_reads' HO_5.out).2.2 | (with_reducible refine Kd.C_alloc ?_ _) | (with_reducible refine Kd.C_drewN ?_ _) | (with_reducible refine Kd.C_drew ?_))); (case side2 => exact (Kd.R_reads' HO_5.out).2.1); rintro e w21 ⟨v919, rfl, ho0, hb⟩; have n0_ := Aside0.mk (Kd.R_elder' (by (with_reducible repeat (first | apply Kd.R_alloc | apply Kd.R_drewN | apply Kd.R_drew)); exact HO_5.out) (Kd.R_base ho0) hb); have n1_ := Aside0.mk (Kd.R_lower (Kd.R_new' ho0 (Kd.R_lt (by (with_reducible repeat (first | apply Kd.R_alloc | apply Kd.R_drewN | apply Kd.R_drew)); exact HO_5.out))) (below_size (by repeat (first | (with_reducible first | exact HB.out | apply below_alloc | apply pw_below_drewN | apply below_drew1) | exact HB.out)))); have n2_ := Aside0.mk (below_step (by repeat (first | (with_reducible first | exact HB.out | apply below_alloc | apply pw_below_drewN | apply below_drew1) | exact HB.out)) hb); clear HO_5; clear HB; have HO_5 := n0_; have HO920 := n1_; have HB := n2_; clear n0_ n1_ n2_; (try clear hb); (try clear hb2); (try clear hk); (try clear hi); (try clear ho0); obtain ⟨Ao22, co22, eo22⟩ := Kd.R_slice HO920.out; subst eo22) | (go_at_call 45; (with_reducible refine (fee_Dividend.calls kj4 _ _ t926 (wrap64 (-(wrap64 (a1)))) t929 t930 t931 _ ?side1 ?side2 A18.out).mono ?_); (case side1 => repeat (first | exact (Kd.R_reads' HO928.out).2.2 | (with_reducible refine Kd.C_alloc ?_ _) | (with_reducible refine Kd.C_drewN ?_ _) | (with_reducible refine Kd.C_drew ?_))); (case side2 => exact (Kd.R_reads' HO928.out).2.1); rintro e w26 ⟨v932, rfl, ho0, hb⟩; have n0_ := Aside0.mk (Kd.R_elder' (by (with_reducible repeat (first | apply Kd.R_alloc | apply Kd.R_drewN | apply Kd.R_drew)); exact HO_5.out) (Kd.R_base ho0) hb); have n1_ := Aside0.mk (Kd.R_elder' (by (with_reducible repeat (first | apply Kd.R_alloc | apply Kd.R_drewN | apply Kd.R_drew)); exact HO920.out) (Kd.R_base ho0) hb); have n2_ := Aside0.mk (Kd.R_elder' (by (with_reducible repeat (first | apply Kd.R_alloc | apply Kd.R_drewN | apply Kd.R_drew)); exact HO925.out) (Kd.R_base ho0) hb); have n3_ := Aside0.mk (Kd.R_elder' (by (with_reducible repeat (first | apply Kd.R_alloc | apply Kd.R_drewN | apply Kd.R_drew)); exact HO928.out) (Kd.R_base ho0) hb); have n4_ := Aside0.mk (Kd.R_lower (Kd.R_new' (Kd.R_new' (Kd.R_new' (Kd.R_new' ho0 (Kd.R_lt (by (with_reducible repeat (first | apply Kd.R_alloc | apply Kd.R_drewN | apply Kd.R_drew)); exact HO_5.out))) (Kd.R_lt (by (with_reducible repeat (first | apply Kd.R_alloc | apply Kd.R_drewN | apply Kd.R_drew)); exact HO920.out))) (Kd.R_lt (by (with_reducible repeat (first | apply Kd.R_alloc | apply Kd.R_drewN | apply Kd.R_drew)); exact HO925.out))) (Kd.R_lt (by (with_reducible repeat (first | apply Kd.R_alloc | apply Kd.R_drewN | apply Kd.R_drew)); exact HO928.out))) (below_size (by repeat (first | (with_reducible first | exact HB.out | apply below_alloc | apply pw_below_drewN | apply below_drew1) | exact HB.out)))); have n5_ := Aside0.mk (below_step (by repeat (first | (with_reducible first | exact HB.out | apply below_alloc | apply pw_below_drewN | apply below_drew1) | exact HB.out)) hb); clear HO_5; clear HO920; clear HO925; clear HO928; clear HB; have HO_5 := n0_; have HO920 := n1_; have HO925 := n2_; have HO928 := n3_; have HO933 := n4_; have HB := n5_; clear n0_ n1_ n2_ n3_ n4_ n5_; (try clear hb); (try clear hb2); (try clear hk); (try clear hi); (try clear ho0))); go_upto_region 11 with (first | (go_at_call 51; (with_reducible refine (lw_ints.calls _ _ x5_1 t926 _ ?side1 ?side2 A17.out).mono ?_); (case side1 => repeat (first | exact (Kd.R_reads' HO_5.out).2.2 | (with_reducible refine Kd.C_alloc ?_ _) | (with_reducible refine Kd.C_drewN ?_ _) | (with_reducible refine Kd.C_drew ?_))); (case side2 => exact (Kd.R_reads' HO_5.out).2.1); rintro e w24 ⟨v927, rfl, ho0, hb⟩; have n0_ := Aside0.mk (Kd.R_elder' (by (with_reducible repeat (first | apply Kd.R_alloc | apply Kd.R_drewN | apply Kd.R_drew)); exact HO_5.out) (Kd.R_base ho0) hb); have n1_ := Aside0.mk (Kd.R_elder' (by (with_reducible repeat (first | apply Kd.R_alloc | apply Kd.R_drewN | apply Kd.R_drew)); exact HO920.out) (Kd.R_base ho0) hb); have n2_ := Aside0.mk (Kd.R_elder' (by (with_reducible repeat (first | apply Kd.R_alloc | apply Kd.R_drewN | apply Kd.R_drew)); exact HO925.out) (Kd.R_base ho0) hb); have n3_ := Aside0.mk (Kd.R_lower (Kd.R_new' (Kd.R_new' (Kd.R_new' ho0 (Kd.R_lt (by (with_reducible repeat (first | apply Kd.R_alloc | apply Kd.R_drewN | apply Kd.R_drew)); exact HO_5.out))) (Kd.R_lt (by (with_reducible repeat (first | apply Kd.R_alloc | apply Kd.R_drewN | apply Kd.R_drew)); exact HO920.out))) (Kd.R_lt (by (with_reducible repeat (first | apply Kd.R_alloc | apply Kd.R_drewN | apply Kd.R_drew)); exact HO925.out))) (below_size (by repeat (first | (with_reducible first | exact HB.out | apply below_alloc | apply pw_below_drewN | apply below_drew1) | exact HB.out)))); have n4_ := Aside0.mk (below_step (by repeat (first | (with_reducible first | exact HB.out | apply below_alloc | apply pw_below_drewN | apply below_drew1) | exact HB.out)) hb); clear HO_5; clear HO920; clear HO925; clear HB; have HO_5 := n0_; have HO920 := n1_; have HO925 := n2_; have HO928 := n3_; have HB := n4_; clear n0_ n1_ n2_ n3_ n4_; (try clear hb); (try clear hb2); (try clear hk); (try clear hi); (try clear ho0); obtain ⟨Ao25, co25, eo25⟩ := Kd.R_slice HO928.out; subst eo25) | (go_at_call 45; (with_reducible refine (fee_Dividend.calls kj4 _ _ t918 (wrap64 (a1)) t921 t922 t923 _ ?side1 ?side2 A16.out).mono ?_); (case side1 => repeat (first | exact (Kd.R_reads' HO920.out).2.2 | (with_reducible refine Kd.C_alloc ?_ _) | (with_reducible refine Kd.C_drewN ?_ _) | (with_reducible refine Kd.C_drew ?_))); (case side2 => exact (Kd.R_reads' HO920.out).2.1); rintro e w23 ⟨v924, rfl, ho0, hb⟩; have n0_ := Aside0.mk (Kd.R_elder' (by (with_reducible repeat (first | apply Kd.R_alloc | apply Kd.R_drewN | apply Kd.R_drew)); exact HO_5.out) (Kd.R_base ho0) hb); have n1_ := Aside0.mk (Kd.R_elder' (by (with_reducible repeat (first | apply Kd.R_alloc | apply Kd.R_drewN | apply Kd.R_drew)); exact HO920.out) (Kd.R_base ho0) hb); have n2_ := Aside0.mk (Kd.R_lower (Kd.R_new' (Kd.R_new' ho0 (Kd.R_lt (by (with_reducible repeat (first | apply Kd.R_alloc | apply Kd.R_drewN | apply Kd.R_drew)); exact HO_5.out))) (Kd.R_lt (by (with_reducible repeat (first | apply Kd.R_alloc | apply Kd.R_drewN | apply Kd.R_drew)); exact HO920.out))) (below_size (by repeat (first | (with_reducible first | exact HB.out | apply below_alloc | apply pw_below_drewN | apply below_drew1) | exact HB.out)))); have n3_ := Aside0.mk (below_step (by repeat (first | (with_reducible first | exact HB.out | apply below_alloc | apply pw_below_drewN | apply below_drew1) | exact HB.out)) hb); clear HO_5; clear HO920; clear HB; have HO_5 := n0_; have HO920 := n1_; have HO925 := n2_; have HB := n3_; clear n0_ n1_ n2_ n3_; (try clear hb); (try clear hb2); (try clear hk); (try clear hi); (try clear ho0)) | (go_at_call 51; (with_reducible refine (lw_ints.calls _ _ x5_1 t918 _ ?side1 ?side2 A15.out).mono ?_); (case side1 => repeat (first | exact (Kd.R_reads' HO_5.out).2.2 | (with_reducible refine Kd.C_alloc ?_ _) | (with_reducible refine Kd.C_drewN ?_ _) | (with_reducible refine Kd.C_drew ?_))); (case side2 => exact (Kd.R_reads' HO_5.out).2.1); rintro e w21 ⟨v919, rfl, ho0, hb⟩; have n0_ := Aside0.mk (Kd.R_elder' (by (with_reducible repeat (first | apply Kd.R_alloc | apply Kd.R_drewN | apply Kd.R_drew)); exact HO_5.out) (Kd.R_base ho0) hb); have n1_ := Aside0.mk (Kd.R_lower (Kd.R_new' ho0 (Kd.R_lt (by (with_reducible repeat (first | apply Kd.R_alloc | apply Kd.R_drewN | apply Kd.R_drew)); exact HO_5.out))) (below_size (by repeat (first | (with_reducible first | exact HB.out | apply below_alloc | apply pw_below_drewN | apply below_drew1) | exact HB.out)))); have n2_ := Aside0.mk (below_step (by repeat (first | (with_reducible first | exact HB.out | apply below_alloc | apply pw_below_drewN | apply below_drew1) | exact HB.out)) hb); clear HO_5; clear HB; have HO_5 := n0_; have HO920 := n1_; have HB := n2_; clear n0_ n1_ n2_; (try clear hb); (try clear hb2); (try clear hk); (try clear hi); (try clear ho0); obtain ⟨Ao22, co22, eo22⟩ := Kd.R_slice HO920.out; subst eo22) | (go_at_call 45; (with_reducible refine (fee_Dividend.calls kj4 _ _ t926 (wrap64 (-(wrap64 (a1)))) t929 t930 t931 _ ?side1 ?side2 A18.out).mono ?_); (case side1 => repeat (first | exact (Kd.R_reads' HO928.out).2.2 | (with_reducible refine Kd.C_alloc ?_ _) | (with_reducible refine Kd.C_drewN ?_ _) | (with_reducible refine Kd.C_drew ?_))); (case side2 => exact (Kd.R_reads' HO928.out).2.1); rintro e w26 ⟨v932, rfl, ho0, hb⟩; have n0_ := Aside0.mk (Kd.R_elder' (by (with_reducible repeat (first | apply Kd.R_alloc | apply Kd.R_drewN | apply Kd.R_drew)); exact HO_5.out) (Kd.R_base ho0) hb); have n1_ := Aside0.mk (Kd.R_elder' (by (with_reducible repeat (first | apply Kd.R_alloc | apply Kd.R_drewN | apply Kd.R_drew)); exact HO920.out) (Kd.R_base ho0) hb); have n2_ := Aside0.mk (Kd.R_elder' (by (with_reducible repeat (first | apply Kd.R_alloc | apply Kd.R_drewN | apply Kd.R_drew)); exact HO925.out) (Kd.R_base ho0) hb); have n3_ := Aside0.mk (Kd.R_elder' (by (with_reducible repeat (first | apply Kd.R_alloc | apply Kd.R_drewN | apply Kd.R_drew)); exact HO928.out) (Kd.R_base ho0) hb); have n4_ := Aside0.mk (Kd.R_lower (Kd.R_new' (Kd.R_new' (Kd.R_new' (Kd.R_new' ho0 (Kd.R_lt (by (with_reducible repeat (first | apply Kd.R_alloc | apply Kd.R_drewN | apply Kd.R_drew)); exact HO_5.out))) (Kd.R_lt (by (with_reducible repeat (first | apply Kd.R_alloc | apply Kd.R_drewN | apply Kd.R_drew)); exact HO920.out))) (Kd.R_lt (by (with_reducible repeat (first | apply Kd.R_alloc | apply Kd.R_drewN | apply Kd.R_drew)); exact HO925.out))) (Kd.R_lt (by (with_reducible repeat (first | apply Kd.R_alloc | apply Kd.R_drewN | apply Kd.R_drew)); exact HO928.out))) (below_size (by repeat (first | (with_reducible first | exact HB.out | apply below_alloc | apply pw_below_drewN | apply below_drew1) | exact HB.out)))); have n5_ := Aside0.mk (below_step (by repeat (first | (with_reducible first | exact HB.out | apply below_alloc | apply pw_below_drewN | apply below_drew1) | exact HB.out)) hb); clear HO_5; clear HO920; clear HO925; clear HO928; clear HB; have HO_5 := n0_; have HO920 := n1_; have HO925 := n2_; have HO928 := n3_; have HO933 := n4_; have HB := n5_; clear n0_ n1_ n2_ n3_ n4_ n5_; (try clear hb); (try clear hb2); (try clear hk); (try clear hi); (try clear ho0))))
            (try simp only [Act.put, List.setIfInBounds_toArray, List.set_cons_zero, List.set_cons_succ])
            go_cut [103] (fun v103 wc => ∃ (kq : Nat) (x103_18 : Bool), v103 = .bool x103_18 ∧ Aside0 (lw_FeeOwners.j2 kq x5_1 (wrap64 (a1)) t921 t922 t929 x103_18 = some r) ∧ Aside0 (kq ≤ kj4) ∧ Aside0 (Kd.R (Kd.int .i64) 3 wc w.heap.size (fun k_ => some k_ ≠ (v924 : Value).ownBlock ∧ some k_ ≠ (v932 : Value).ownBlock) (.slice Ao20 x5_1.length co20) x5_1) ∧ Aside0 (Kd.R (Kd.int .i64) 3 wc w.heap.size (fun k_ => some k_ ≠ ((.slice Ao20 x5_1.length co20) : Value).ownBlock ∧ some k_ ≠ (v932 : Value).ownBlock) v924 t921) ∧ Aside0 (Kd.R (Kd.int .i64) 3 wc w.heap.size (fun k_ => some k_ ≠ ((.slice Ao20 x5_1.length co20) : Value).ownBlock ∧ some k_ ≠ (v924 : Value).ownBlock) v932 t929) ∧ Aside0 (Below w.heap.size w wc))
            case first =>
              have H := HC19.out
              clear HC19
              by_cases c27 : t923 = 0
              · rw [if_pos c27] at H
                have c27b0 : (t923 == 0) = true := beq_iff_eq.mpr c27
                have c27b1 : (t923 != 0) = false := bne_eq_false_iff_eq.mpr c27
                clear c27
                (first | rw [c27b0] | (simp only [i64_w, i32_w]; rw [c27b0]) | skip)
                by_cases c28 : t931 = 0
                · rw [if_pos c28] at H
                  have c28b0 : (t931 == 0) = true := beq_iff_eq.mpr c28
                  have c28b1 : (t931 != 0) = false := bne_eq_false_iff_eq.mpr c28
                  clear c28
                  by_cases c29 : (t921.length : Int) = (x5_1.length : Int)
                  · rw [if_pos c29] at H
                    have c29b0 : ((t921.length : Int) == (x5_1.length : Int)) = true := beq_iff_eq.mpr c29
                    have c29b1 : ((t921.length : Int) != (x5_1.length : Int)) = false := bne_eq_false_iff_eq.mpr c29
                    have c29b2 : (t921.length == x5_1.length) = true := by first | simpa using c29 | (simp at c29 ⊢; omega)
                    clear c29
                    by_cases c30 : (t929.length : Int) = (x5_1.length : Int)
                    · rw [if_pos c30] at H
                      have c30b0 : ((t929.length : Int) == (x5_1.length : Int)) = true := beq_iff_eq.mpr c30
                      have c30b1 : ((t929.length : Int) != (x5_1.length : Int)) = false := bne_eq_false_iff_eq.mpr c30
                      have c30b2 : (t929.length == x5_1.length) = true := by first | simpa using c30 | (simp at c30 ⊢; omega)
                      clear c30
                      by_cases c31 : t930 = (wrap64 (-t922))
                      · rw [if_pos c31] at H
                        have c31b0 : (t930 == (wrap64 (-t922))) = true := beq_iff_eq.mpr c31
                        have c31b1 : (t930 != (wrap64 (-t922))) = false := bne_eq_false_iff_eq.mpr c31
                        clear c31
                        by_cases c32 : t922 < 0
                        · rw [if_pos c32] at H
                          have c32b0 : decide (t922 < 0) = true := decide_eq_true c32
                          clear c32
                          have H' := Aside0.mk H
                          clear H
                          obtain ⟨Ao33, co33, eo33⟩ := Kd.R_slice HO925.out
                          subst eo33
                          obtain ⟨Ao34, co34, eo34⟩ := Kd.R_slice HO933.out
                          subst eo34
                          go_wp2
                          repeat (go_quiet (fail); try go_wp2)
                          go_meet
                          case rel => exact ⟨_, (true), (by first | rfl | (simp; done) | (simp [*]; done)), H', ⟨by have := HK1.out; have := HJ4.out; first | omega | exact Nat.le_refl _⟩, ⟨by (with_reducible repeat (first | apply Kd.R_alloc | apply Kd.R_drewN | apply Kd.R_drew)); exact Kd.R_mono HO_5.out (fun _ hk => ⟨hk.1.1.2, hk.2⟩)⟩, ⟨by (with_reducible repeat (first | apply Kd.R_alloc | apply Kd.R_drewN | apply Kd.R_drew)); exact Kd.R_mono HO925.out (fun _ hk => ⟨hk.1.1.1.2, hk.2⟩)⟩, ⟨by (with_reducible repeat (first | apply Kd.R_alloc | apply Kd.R_drewN | apply Kd.R_drew)); exact Kd.R_mono HO933.out (fun _ hk => ⟨hk.1.1.1.2, hk.1.2⟩)⟩, ⟨by repeat (first | (with_reducible first | exact HB.out | apply below_alloc | apply pw_below_drewN | apply below_drew1) | exact HB.out)⟩⟩
                        · rw [if_neg c32] at H
                          have c32b0 : decide (t922 < 0) = false := decide_eq_false c32
                          clear c32
                          have H' := Aside0.mk H
                          clear H
                          obtain ⟨Ao35, co35, eo35⟩ := Kd.R_slice HO925.out
                          subst eo35
                          obtain ⟨Ao36, co36, eo36⟩ := Kd.R_slice HO933.out
                          subst eo36
                          go_wp2
                          repeat (go_quiet (fail); try go_wp2)
                          go_meet
                          case rel => exact ⟨_, (decide (t922 ≥ (x5_1.length : Int))), (by first | rfl | (simp; done) | (simp [*]; done)), H', ⟨by have := HK1.out; have := HJ4.out; first | omega | exact Nat.le_refl _⟩, ⟨by (with_reducible repeat (first | apply Kd.R_alloc | apply Kd.R_drewN | apply Kd.R_drew)); exact Kd.R_mono HO_5.out (fun _ hk => ⟨hk.1.1.2, hk.2⟩)⟩, ⟨by (with_reducible repeat (first | apply Kd.R_alloc | apply Kd.R_drewN | apply Kd.R_drew)); exact Kd.R_mono HO925.out (fun _ hk => ⟨hk.1.1.1.2, hk.2⟩)⟩, ⟨by (with_reducible repeat (first | apply Kd.R_alloc | apply Kd.R_drewN | apply Kd.R_drew)); exact Kd.R_mono HO933.out (fun _ hk => ⟨hk.1.1.1.2, hk.1.2⟩)⟩, ⟨by repeat (first | (with_reducible first | exact HB.out | apply below_alloc | apply pw_below_drewN | apply below_drew1) | exact HB.out)⟩⟩
                      · rw [if_neg c31] at H
                        have c31b0 : (t930 == (wrap64 (-t922))) = false := beq_eq_false_iff_ne.mpr c31
                        have c31b1 : (t930 != (wrap64 (-t922))) = true := bne_iff_ne.mpr c31
                        have H' := Aside0.mk H
                        clear H
                        obtain ⟨Ao37, co37, eo37⟩ := Kd.R_slice HO925.out
                        subst eo37
                        obtain ⟨Ao38, co38, eo38⟩ := Kd.R_slice HO933.out
                        subst eo38
                        go_wp2
                        repeat (go_quiet (fail); try go_wp2)
                        go_meet
                        case rel => exact ⟨_, (true), (by first | rfl | (simp; done) | (simp [*]; done)), H', ⟨by have := HK1.out; have := HJ4.out; first | omega | exact Nat.le_refl _⟩, ⟨by (with_reducible repeat (first | apply Kd.R_alloc | apply Kd.R_drewN | apply Kd.R_drew)); exact Kd.R_mono HO_5.out (fun _ hk => ⟨hk.1.1.2, hk.2⟩)⟩, ⟨by (with_reducible repeat (first | apply Kd.R_alloc | apply Kd.R_drewN | apply Kd.R_drew)); exact Kd.R_mono HO925.out (fun _ hk => ⟨hk.1.1.1.2, hk.2⟩)⟩, ⟨by (with_reducible repeat (first | apply Kd.R_alloc | apply Kd.R_drewN | apply Kd.R_drew)); exact Kd.R_mono HO933.out (fun _ hk => ⟨hk.1.1.1.2, hk.1.2⟩)⟩, ⟨by repeat (first | (with_reducible first | exact HB.out | apply below_alloc | apply pw_below_drewN | apply below_drew1) | exact HB.out)⟩⟩
                    · rw [if_neg c30] at H
                      have c30b0 : ((t929.length : Int) == (x5_1.length : Int)) = false := beq_eq_false_iff_ne.mpr c30
                      have c30b1 : ((t929.length : Int) != (x5_1.length : Int)) = true := bne_iff_ne.mpr c30
                      have c30b2 : (t929.length == x5_1.length) = false := by first | simpa using c30 | (simp at c30 ⊢; omega)
                      have H' := Aside0.mk H
                      clear H
                      obtain ⟨Ao39, co39, eo39⟩ := Kd.R_slice HO925.out
                      subst eo39
                      obtain ⟨Ao40, co40, eo40⟩ := Kd.R_slice HO933.out
                      subst eo40
                      go_wp2
                      repeat (go_quiet (fail); try go_wp2)
                      go_meet
                      case rel => exact ⟨_, (true), (by first | rfl | (simp; done) | (simp [*]; done)), H', ⟨by have := HK1.out; have := HJ4.out; first | omega | exact Nat.le_refl _⟩, ⟨by (with_reducible repeat (first | apply Kd.R_alloc | apply Kd.R_drewN | apply Kd.R_drew)); exact Kd.R_mono HO_5.out (fun _ hk => ⟨hk.1.1.2, hk.2⟩)⟩, ⟨by (with_reducible repeat (first | apply Kd.R_alloc | apply Kd.R_drewN | apply Kd.R_drew)); exact Kd.R_mono HO925.out (fun _ hk => ⟨hk.1.1.1.2, hk.2⟩)⟩, ⟨by (with_reducible repeat (first | apply Kd.R_alloc | apply Kd.R_drewN | apply Kd.R_drew)); exact Kd.R_mono HO933.out (fun _ hk => ⟨hk.1.1.1.2, hk.1.2⟩)⟩, ⟨by repeat (first | (with_reducible first | exact HB.out | apply below_alloc | apply pw_below_drewN | apply below_drew1) | exact HB.out)⟩⟩
                  · rw [if_neg c29] at H
                    have c29b0 : ((t921.length : Int) == (x5_1.length : Int)) = false := beq_eq_false_iff_ne.mpr c29
                    have c29b1 : ((t921.length : Int) != (x5_1.length : Int)) = true := bne_iff_ne.mpr c29
                    have c29b2 : (t921.length == x5_1.length) = false := by first | simpa using c29 | (simp at c29 ⊢; omega)
                    have H' := Aside0.mk H
                    clear H
                    obtain ⟨Ao41, co41, eo41⟩ := Kd.R_slice HO925.out
                    subst eo41
                    go_wp2
                    repeat (go_quiet (fail); try go_wp2)
                    go_meet
                    case rel => exact ⟨_, (true), (by first | rfl | (simp; done) | (simp [*]; done)), H', ⟨by have := HK1.out; have := HJ4.out; first | omega | exact Nat.le_refl _⟩, ⟨by (with_reducible repeat (first | apply Kd.R_alloc | apply Kd.R_drewN | apply Kd.R_drew)); exact Kd.R_mono HO_5.out (fun _ hk => ⟨hk.1.1.2, hk.2⟩)⟩, ⟨by (with_reducible repeat (first | apply Kd.R_alloc | apply Kd.R_drewN | apply Kd.R_drew)); exact Kd.R_mono HO925.out (fun _ hk => ⟨hk.1.1.1.2, hk.2⟩)⟩, ⟨by (with_reducible repeat (first | apply Kd.R_alloc | apply Kd.R_drewN | apply Kd.R_drew)); exact Kd.R_mono HO933.out (fun _ hk => ⟨hk.1.1.1.2, hk.1.2⟩)⟩, ⟨by repeat (first | (with_reducible first | exact HB.out | apply below_alloc | apply pw_below_drewN | apply below_drew1) | exact HB.out)⟩⟩
                · rw [if_neg c28] at H
                  have c28b0 : (t931 == 0) = false := beq_eq_false_iff_ne.mpr c28
                  have c28b1 : (t931 != 0) = true := bne_iff_ne.mpr c28
                  have H' := Aside0.mk H
                  clear H
                  go_wp2
                  repeat (go_quiet (fail); try go_wp2)
                  go_meet
                  case rel => exact ⟨_, (true), (by first | rfl | (simp; done) | (simp [*]; done)), H', ⟨by have := HK1.out; have := HJ4.out; first | omega | exact Nat.le_refl _⟩, ⟨by (with_reducible repeat (first | apply Kd.R_alloc | apply Kd.R_drewN | apply Kd.R_drew)); exact Kd.R_mono HO_5.out (fun _ hk => ⟨hk.1.1.2, hk.2⟩)⟩, ⟨by (with_reducible repeat (first | apply Kd.R_alloc | apply Kd.R_drewN | apply Kd.R_drew)); exact Kd.R_mono HO925.out (fun _ hk => ⟨hk.1.1.1.2, hk.2⟩)⟩, ⟨by (with_reducible repeat (first | apply Kd.R_alloc | apply Kd.R_drewN | apply Kd.R_drew)); exact Kd.R_mono HO933.out (fun _ hk => ⟨hk.1.1.1.2, hk.1.2⟩)⟩, ⟨by repeat (first | (with_reducible first | exact HB.out | apply below_alloc | apply pw_below_drewN | apply below_drew1) | exact HB.out)⟩⟩
              · rw [if_neg c27] at H
                have c27b0 : (t923 == 0) = false := beq_eq_false_iff_ne.mpr c27
                have c27b1 : (t923 != 0) = true := bne_iff_ne.mpr c27
                (first | rw [c27b0] | (simp only [i64_w, i32_w]; rw [c27b0]) | skip)
                have H' := Aside0.mk H
                clear H
                go_wp2
                repeat (go_quiet (fail); try go_wp2)
                go_meet
                case rel => exact ⟨_, (true), (by first | rfl | (simp; done) | (simp [*]; done)), H', ⟨by have := HK1.out; have := HJ4.out; first | omega | exact Nat.le_refl _⟩, ⟨by (with_reducible repeat (first | apply Kd.R_alloc | apply Kd.R_drewN | apply Kd.R_drew)); exact Kd.R_mono HO_5.out (fun _ hk => ⟨hk.1.1.2, hk.2⟩)⟩, ⟨by (with_reducible repeat (first | apply Kd.R_alloc | apply Kd.R_drewN | apply Kd.R_drew)); exact Kd.R_mono HO925.out (fun _ hk => ⟨hk.1.1.1.2, hk.2⟩)⟩, ⟨by (with_reducible repeat (first | apply Kd.R_alloc | apply Kd.R_drewN | apply Kd.R_drew)); exact Kd.R_mono HO933.out (fun _ hk => ⟨hk.1.1.1.2, hk.1.2⟩)⟩, ⟨by repeat (first | (with_reducible first | exact HB.out | apply below_alloc | apply pw_below_drewN | apply below_drew1) | exact HB.out)⟩⟩
            case rest =>
              clear HC19
              try clear c1
              try clear c2
              try clear p2
              try clear c3
              try clear c6
              try clear c6b0
              try clear p6
              try clear c7
              try clear c7b0
              try clear c7b1
              try clear c8
              try clear c9
              try clear c9b0
              try clear p9
              try clear q9
              try clear hx9
              try clear c10
              try clear c10b0
              try clear c11
              try clear c13
              try clear c17
              try clear c27
              try clear c27b0
              try clear c27b1
              try clear c28
              try clear c28b0
              try clear c28b1
              try clear c29
              try clear c29b0
              try clear c29b1
              try clear c29b2
              try clear c30
              try clear c30b0
              try clear c30b1
              try clear c30b2
              try clear c31
              try clear c31b0
              try clear c31b1
              try clear c32
              try clear c32b0
              try clear hx911_0
              try clear p2
              try clear p6
              try clear p911
              try clear q911
              obtain ⟨kq, x103_18, rfl, HA, HJ18, HO_5, HO_9, HO_12, HB⟩ := hcut
              cases kq with
              | zero => exact absurd HA.out (by simp [lw_FeeOwners.j2])
              | succ kj18 =>
                have H := HA.out
                clear HA
                simp only [lw_FeeOwners.j2] at H
                by_cases c42 : x103_18 = true
                · subst c42
                  have H1 : (some false) = some r := by rw [if_pos rfl] at H; exact H
                  clear H
                  have H := H1
                  clear H1
                  obtain rfl := Option.some.inj H
                  go_wp2
                  repeat (go_quiet (fail); try go_wp2)
                  go_ret
                  exact ⟨by first | rfl | (simp [errW_none, errW_some] <;> rfl) | (simp [*, errW_none, errW_some] <;> rfl), by repeat (first | (with_reducible first | exact HB.out | apply below_alloc | apply pw_below_drewN | apply below_drew1) | exact HB.out)⟩
                · replace c42 := Bool.eq_false_iff.mpr c42
                  subst c42
                  have H1 : (lw_FeeOwners.l1 kj18 x5_1 (wrap64 (a1)) t921 t929 t922 0) = some r := by rw [if_neg (show ¬ (false = true) by decide)] at H; exact H
                  clear H
                  have H := H1
                  clear H1
                  have H' := Aside0.mk H
                  clear H
                  go_wp2
                  repeat (go_quiet (fail); try go_wp2)
                  go_loopg [15, 16] kj18 (fun kq v15 v16 w' => ∃ (x15_4 : Int) (x16_4 : Int), v15 = .int .i64 x15_4 ∧ v16 = .int .i64 x16_4 ∧ Aside0 (lw_FeeOwners.l1 kq x5_1 (wrap64 (a1)) t921 t929 x15_4 x16_4 = some r) ∧ Aside0 (kq ≤ kj18) ∧ Aside0 (Kd.R (Kd.int .i64) 3 w' w.heap.size (fun k_ => some k_ ≠ (v924 : Value).ownBlock ∧ some k_ ≠ (v932 : Value).ownBlock) (.slice Ao20 x5_1.length co20) x5_1) ∧ Aside0 (Kd.R (Kd.int .i64) 3 w' w.heap.size (fun k_ => some k_ ≠ ((.slice Ao20 x5_1.length co20) : Value).ownBlock ∧ some k_ ≠ (v932 : Value).ownBlock) v924 t921) ∧ Aside0 (Kd.R (Kd.int .i64) 3 w' w.heap.size (fun k_ => some k_ ≠ ((.slice Ao20 x5_1.length co20) : Value).ownBlock ∧ some k_ ≠ (v924 : Value).ownBlock) v932 t929) ∧ Aside0 (Below w.heap.size w w'))
                  case atStart => exact ⟨(t922), (0), (by first | rfl | (simp; done) | (simp [*]; done)), (by first | rfl | (simp; done) | (simp [*]; done)), H', ⟨Nat.le_refl _⟩, ⟨by (with_reducible repeat (first | apply Kd.R_alloc | apply Kd.R_drewN | apply Kd.R_drew)); exact HO_5.out⟩, ⟨by (with_reducible repeat (first | apply Kd.R_alloc | apply Kd.R_drewN | apply Kd.R_drew)); exact HO_9.out⟩, ⟨by (with_reducible repeat (first | apply Kd.R_alloc | apply Kd.R_drewN | apply Kd.R_drew)); exact HO_12.out⟩, ⟨by repeat (first | (with_reducible first | exact HB.out | apply below_alloc | apply pw_below_drewN | apply below_drew1) | exact HB.out)⟩⟩
                  case round =>
                    clear H'
                    try clear c1
                    try clear c2
                    try clear p2
                    try clear c3
                    try clear c4
                    try clear c6
                    try clear c6b0
                    try clear p6
                    try clear c7
                    try clear c7b0
                    try clear c7b1
                    try clear c8
                    try clear c9
                    try clear c9b0
                    try clear p9
                    try clear q9
                    try clear hx9
                    try clear c10
                    try clear c10b0
                    try clear c11
                    try clear c13
                    try clear c17
                    try clear c27
                    try clear c27b0
                    try clear c27b1
                    try clear c28
                    try clear c28b0
                    try clear c28b1
                    try clear c29
                    try clear c29b0
                    try clear c29b1
                    try clear c29b2
                    try clear c30
                    try clear c30b0
                    try clear c30b1
                    try clear c30b2
                    try clear c31
                    try clear c31b0
                    try clear c31b1
                    try clear c32
                    try clear c32b0
                    try clear c42
                    try clear hx911_0
                    try clear p2
                    try clear p6
                    try clear p9
                    try clear p911
                    try clear q9
                    try clear q911
                    obtain ⟨x15_4, x16_4, rfl, rfl, HA, HK4, HO_5, HO_9, HO_12, HB⟩ := hrel
                    cases gk with
                    | zero => exact absurd HA.out (by simp [lw_FeeOwners.l1])
                    | succ k4 =>
                      have H := HA.out
                      clear HA
                      simp only [lw_FeeOwners.l1] at H
                      by_cases c43 : x16_4 < (x5_1.length : Int)
                      · rw [if_pos c43] at H
                        have c43b0 : decide (x16_4 < (x5_1.length : Int)) = true := decide_eq_true c43
                        clear c43
                        have HC44 := Aside0.mk H
                        clear H
                        go_upto_region 17 with (fail)
                        repeat (go_quiet (fail); go_upto_region 17 with (fail))
                        go_cut [127] (fun v127 wc => ∃ (kq : Nat) (x127_43 : Bool), v127 = .bool x127_43 ∧ Aside0 (lw_FeeOwners.j4 kq x5_1 (wrap64 (a1)) t921 t929 x15_4 x16_4 x127_43 = some r) ∧ Aside0 (kq ≤ k4) ∧ Aside0 (Kd.R (Kd.int .i64) 3 wc w.heap.size (fun k_ => some k_ ≠ (v924 : Value).ownBlock ∧ some k_ ≠ (v932 : Value).ownBlock) (.slice Ao20 x5_1.length co20) x5_1) ∧ Aside0 (Kd.R (Kd.int .i64) 3 wc w.heap.size (fun k_ => some k_ ≠ ((.slice Ao20 x5_1.length co20) : Value).ownBlock ∧ some k_ ≠ (v932 : Value).ownBlock) v924 t921) ∧ Aside0 (Kd.R (Kd.int .i64) 3 wc w.heap.size (fun k_ => some k_ ≠ ((.slice Ao20 x5_1.length co20) : Value).ownBlock ∧ some k_ ≠ (v924 : Value).ownBlock) v932 t929) ∧ Aside0 (Below w.heap.size w wc))
                        case first =>
                          have H := HC44.out
                          clear HC44
                          by_cases c45 : 0 ≤ x16_4
                          · rw [if_pos c45] at H
                            have c45b0 : decide (0 ≤ x16_4) = true := decide_eq_true c45
                            clear c45
                            (first | rw [c45b0] | (simp only [i64_w, i32_w]; rw [c45b0]) | skip)
                            by_cases c46 : x16_4 < (t929.length : Int)
                            · rw [if_pos c46] at H
                              have c46b0 : decide (x16_4 < (t929.length : Int)) = true := decide_eq_true c46
                              clear c46
                              by_cases c47 : x16_4 < (t921.length : Int)
                              · rw [if_pos c47] at H
                                have c47b0 : decide (x16_4 < (t921.length : Int)) = true := decide_eq_true c47
                                clear c47
                                by_cases c48 : (rd t929 x16_4) = (wrap64 (-(rd t921 x16_4)))
                                · rw [if_pos c48] at H
                                  have c48b0 : ((rd t929 x16_4) == (wrap64 (-(rd t921 x16_4)))) = true := beq_iff_eq.mpr c48
                                  have c48b1 : ((rd t929 x16_4) != (wrap64 (-(rd t921 x16_4)))) = false := bne_eq_false_iff_eq.mpr c48
                                  clear c48
                                  have H' := Aside0.mk H
                                  clear H
                                  obtain ⟨Ao49, co49, eo49⟩ := Kd.R_slice HO_12.out
                                  subst eo49
                                  have p935 : 0 ≤ (x16_4 : Int) := of_decide_eq_true (by first | (with_reducible assumption) | assumption)
                                  have q935 : x16_4 < (t929.length : Int) := of_decide_eq_true (by first | (with_reducible assumption) | assumption)
                                  obtain ⟨ad935, e935, hx935_0⟩ := Kd.at_int (Kd.R_reads' HO_12.out).2.2 x16_4 p935 q935
                                  cases e935
                                  replace p935 := eq_true p935
                                  replace q935 := eq_true q935
                                  obtain ⟨Ao50, co50, eo50⟩ := Kd.R_slice HO_9.out
                                  subst eo50
                                  have p936 : 0 ≤ (x16_4 : Int) := of_decide_eq_true (by first | (with_reducible assumption) | assumption)
                                  have q936 : x16_4 < (t921.length : Int) := of_decide_eq_true (by first | (with_reducible assumption) | assumption)
                                  obtain ⟨ad936, e936, hx936_0⟩ := Kd.at_int (Kd.R_reads' HO_9.out).2.2 x16_4 p936 q936
                                  cases e936
                                  replace p936 := eq_true p936
                                  replace q936 := eq_true q936
                                  have p937 : 0 ≤ (x16_4 : Int) := of_decide_eq_true (by first | (with_reducible assumption) | assumption)
                                  have q937 : x16_4 < (t921.length : Int) := of_decide_eq_true (by first | (with_reducible assumption) | assumption)
                                  obtain ⟨ad937, e937, hx937_0⟩ := Kd.at_int (Kd.R_reads' HO_9.out).2.2 x16_4 p937 q937
                                  obtain rfl : ad936 = ad937 := (by injection e937)
                                  replace p937 := eq_true p937
                                  replace q937 := eq_true q937
                                  go_wp2
                                  repeat (go_quiet (fail); try go_wp2)
                                  go_meet
                                  case rel => exact ⟨_, (decide ((rd t921 x16_4) < 0)), (by first | rfl | (simp; done) | (simp [*]; done)), H', ⟨by have := HK1.out; have := HJ4.out; have := HJ18.out; have := HK4.out; first | omega | exact Nat.le_refl _⟩, ⟨by (with_reducible repeat (first | apply Kd.R_alloc | apply Kd.R_drewN | apply Kd.R_drew)); exact HO_5.out⟩, ⟨by (with_reducible repeat (first | apply Kd.R_alloc | apply Kd.R_drewN | apply Kd.R_drew)); exact HO_9.out⟩, ⟨by (with_reducible repeat (first | apply Kd.R_alloc | apply Kd.R_drewN | apply Kd.R_drew)); exact HO_12.out⟩, ⟨by repeat (first | (with_reducible first | exact HB.out | apply below_alloc | apply pw_below_drewN | apply below_drew1) | exact HB.out)⟩⟩
                                · rw [if_neg c48] at H
                                  have c48b0 : ((rd t929 x16_4) == (wrap64 (-(rd t921 x16_4)))) = false := beq_eq_false_iff_ne.mpr c48
                                  have c48b1 : ((rd t929 x16_4) != (wrap64 (-(rd t921 x16_4)))) = true := bne_iff_ne.mpr c48
                                  have H' := Aside0.mk H
                                  clear H
                                  obtain ⟨Ao51, co51, eo51⟩ := Kd.R_slice HO_12.out
                                  subst eo51
                                  have p935 : 0 ≤ (x16_4 : Int) := of_decide_eq_true (by first | (with_reducible assumption) | assumption)
                                  have q935 : x16_4 < (t929.length : Int) := of_decide_eq_true (by first | (with_reducible assumption) | assumption)
                                  obtain ⟨ad935, e935, hx935_0⟩ := Kd.at_int (Kd.R_reads' HO_12.out).2.2 x16_4 p935 q935
                                  cases e935
                                  replace p935 := eq_true p935
                                  replace q935 := eq_true q935
                                  obtain ⟨Ao52, co52, eo52⟩ := Kd.R_slice HO_9.out
                                  subst eo52
                                  have p936 : 0 ≤ (x16_4 : Int) := of_decide_eq_true (by first | (with_reducible assumption) | assumption)
                                  have q936 : x16_4 < (t921.length : Int) := of_decide_eq_true (by first | (with_reducible assumption) | assumption)
                                  obtain ⟨ad936, e936, hx936_0⟩ := Kd.at_int (Kd.R_reads' HO_9.out).2.2 x16_4 p936 q936
                                  cases e936
                                  replace p936 := eq_true p936
                                  replace q936 := eq_true q936
                                  go_wp2
                                  repeat (go_quiet (fail); try go_wp2)
                                  go_meet
                                  case rel => exact ⟨_, (true), (by first | rfl | (simp; done) | (simp [*]; done)), H', ⟨by have := HK1.out; have := HJ4.out; have := HJ18.out; have := HK4.out; first | omega | exact Nat.le_refl _⟩, ⟨by (with_reducible repeat (first | apply Kd.R_alloc | apply Kd.R_drewN | apply Kd.R_drew)); exact HO_5.out⟩, ⟨by (with_reducible repeat (first | apply Kd.R_alloc | apply Kd.R_drewN | apply Kd.R_drew)); exact HO_9.out⟩, ⟨by (with_reducible repeat (first | apply Kd.R_alloc | apply Kd.R_drewN | apply Kd.R_drew)); exact HO_12.out⟩, ⟨by repeat (first | (with_reducible first | exact HB.out | apply below_alloc | apply pw_below_drewN | apply below_drew1) | exact HB.out)⟩⟩
                              · rw [if_neg c47] at H
                                exact absurd H (by simp)
                            · rw [if_neg c46] at H
                              exact absurd H (by simp)
                          · rw [if_neg c45] at H
                            exact absurd H (by simp)
                        case rest =>
                          clear HC44
                          try clear c1
                          try clear c2
                          try clear p2
                          try clear c3
                          try clear c4
                          try clear c6
                          try clear c6b0
                          try clear p6
                          try clear c7
                          try clear c7b0
                          try clear c7b1
                          try clear c8
                          try clear c9
                          try clear c9b0
                          try clear p9
                          try clear q9
                          try clear hx9
                          try clear c10
                          try clear c10b0
                          try clear c11
                          try clear c13
                          try clear c17
                          try clear c27
                          try clear c27b0
                          try clear c27b1
                          try clear c28
                          try clear c28b0
                          try clear c28b1
                          try clear c29
                          try clear c29b0
                          try clear c29b1
                          try clear c29b2
                          try clear c30
                          try clear c30b0
                          try clear c30b1
                          try clear c30b2
                          try clear c31
                          try clear c31b0
                          try clear c31b1
                          try clear c32
                          try clear c32b0
                          try clear c42
                          try clear c43
                          try clear c43b0
                          try clear c45
                          try clear c45b0
                          try clear c46
                          try clear c46b0
                          try clear c47
                          try clear c47b0
                          try clear c48
                          try clear c48b0
                          try clear c48b1
                          try clear hx911_0
                          try clear hx935_0
                          try clear hx936_0
                          try clear hx937_0
                          try clear p2
                          try clear p6
                          try clear p9
                          try clear p911
                          try clear p935
                          try clear p936
                          try clear p937
                          try clear q9
                          try clear q911
                          try clear q935
                          try clear q936
                          try clear q937
                          obtain ⟨kq, x127_43, rfl, HA, HJ43, HO_5, HO_9, HO_12, HB⟩ := hcut
                          cases kq with
                          | zero => exact absurd HA.out (by simp [lw_FeeOwners.j4])
                          | succ kj43 =>
                            have H := HA.out
                            clear HA
                            simp only [lw_FeeOwners.j4] at H
                            by_cases c53 : x127_43 = true
                            · subst c53
                              have H1 : (some false) = some r := by rw [if_pos rfl] at H; exact H
                              clear H
                              have H := H1
                              clear H1
                              obtain rfl := Option.some.inj H
                              go_wp2
                              repeat (go_quiet (fail); try go_wp2)
                              go_ret
                              exact ⟨by first | rfl | (simp [errW_none, errW_some] <;> rfl) | (simp [*, errW_none, errW_some] <;> rfl), by repeat (first | (with_reducible first | exact HB.out | apply below_alloc | apply pw_below_drewN | apply below_drew1) | exact HB.out)⟩
                            · replace c53 := Bool.eq_false_iff.mpr c53
                              subst c53
                              have H1 : (if 0 ≤ x16_4 then (if x16_4 < (t921.length : Int) then (lw_FeeOwners.l2 kj43 x5_1 (wrap64 (a1)) t921 t929 (wrap64 (x15_4 + (rd t921 x16_4))) x16_4 0) else (none)) else (none)) = some r := by rw [if_neg (show ¬ (false = true) by decide)] at H; exact H
                              clear H
                              have H := H1
                              clear H1
                              by_cases c54 : 0 ≤ x16_4
                              · rw [if_pos c54] at H
                                have c54b0 : decide (0 ≤ x16_4) = true := decide_eq_true c54
                                clear c54
                                by_cases c55 : x16_4 < (t921.length : Int)
                                · rw [if_pos c55] at H
                                  have c55b0 : decide (x16_4 < (t921.length : Int)) = true := decide_eq_true c55
                                  clear c55
                                  have H' := Aside0.mk H
                                  clear H
                                  obtain ⟨Ao56, co56, eo56⟩ := Kd.R_slice HO_9.out
                                  subst eo56
                                  have p938 : 0 ≤ (x16_4 : Int) := of_decide_eq_true (by first | (with_reducible assumption) | assumption)
                                  have q938 : x16_4 < (t921.length : Int) := of_decide_eq_true (by first | (with_reducible assumption) | assumption)
                                  obtain ⟨ad938, e938, hx938_0⟩ := Kd.at_int (Kd.R_reads' HO_9.out).2.2 x16_4 p938 q938
                                  cases e938
                                  replace p938 := eq_true p938
                                  replace q938 := eq_true q938
                                  go_wp2
                                  repeat (go_quiet (fail); try go_wp2)
                                  go_loopg [17] kj43 (fun kq v17 w' => ∃ (x17_6 : Int), v17 = .int .i64 x17_6 ∧ Aside0 (lw_FeeOwners.l2 kq x5_1 (wrap64 (a1)) t921 t929 (wrap64 (x15_4 + (rd t921 x16_4))) x16_4 x17_6 = some r) ∧ Aside0 (kq ≤ kj43) ∧ Aside0 (Kd.R (Kd.int .i64) 3 w' w.heap.size (fun k_ => some k_ ≠ ((.slice (some ad938) t921.length co56) : Value).ownBlock ∧ some k_ ≠ (v932 : Value).ownBlock) (.slice Ao20 x5_1.length co20) x5_1) ∧ Aside0 (Kd.R (Kd.int .i64) 3 w' w.heap.size (fun k_ => some k_ ≠ ((.slice Ao20 x5_1.length co20) : Value).ownBlock ∧ some k_ ≠ (v932 : Value).ownBlock) (.slice (some ad938) t921.length co56) t921) ∧ Aside0 (Kd.R (Kd.int .i64) 3 w' w.heap.size (fun k_ => some k_ ≠ ((.slice Ao20 x5_1.length co20) : Value).ownBlock ∧ some k_ ≠ ((.slice (some ad938) t921.length co56) : Value).ownBlock) v932 t929) ∧ Aside0 (Below w.heap.size w w'))
                                  case atStart => exact ⟨(0), (by first | rfl | (simp; done) | (simp [*]; done)), H', ⟨Nat.le_refl _⟩, ⟨by (with_reducible repeat (first | apply Kd.R_alloc | apply Kd.R_drewN | apply Kd.R_drew)); exact HO_5.out⟩, ⟨by (with_reducible repeat (first | apply Kd.R_alloc | apply Kd.R_drewN | apply Kd.R_drew)); exact HO_9.out⟩, ⟨by (with_reducible repeat (first | apply Kd.R_alloc | apply Kd.R_drewN | apply Kd.R_drew)); exact HO_12.out⟩, ⟨by repeat (first | (with_reducible first | exact HB.out | apply below_alloc | apply pw_below_drewN | apply below_drew1) | exact HB.out)⟩⟩
                                  case round =>
                                    clear H'
                                    try clear c1
                                    try clear c2
                                    try clear p2
                                    try clear c3
                                    try clear c4
                                    try clear c5
                                    try clear c6
                                    try clear c6b0
                                    try clear p6
                                    try clear c7
                                    try clear c7b0
                                    try clear c7b1
                                    try clear c8
                                    try clear c9
                                    try clear c9b0
                                    try clear p9
                                    try clear q9
                                    try clear hx9
                                    try clear c10
                                    try clear c10b0
                                    try clear c11
                                    try clear c13
                                    try clear c17
                                    try clear c27
                                    try clear c27b0
                                    try clear c27b1
                                    try clear c28
                                    try clear c28b0
                                    try clear c28b1
                                    try clear c29
                                    try clear c29b0
                                    try clear c29b1
                                    try clear c29b2
                                    try clear c30
                                    try clear c30b0
                                    try clear c30b1
                                    try clear c30b2
                                    try clear c31
                                    try clear c31b0
                                    try clear c31b1
                                    try clear c32
                                    try clear c32b0
                                    try clear c42
                                    try clear c43
                                    try clear c43b0
                                    try clear c45
                                    try clear c45b0
                                    try clear c46
                                    try clear c46b0
                                    try clear c47
                                    try clear c47b0
                                    try clear c48
                                    try clear c48b0
                                    try clear c48b1
                                    try clear c53
                                    try clear c54
                                    try clear c54b0
                                    try clear c55
                                    try clear c55b0
                                    try clear hx911_0
                                    try clear hx935_0
                                    try clear hx936_0
                                    try clear hx937_0
                                    try clear hx938_0
                                    try clear p2
                                    try clear p6
                                    try clear p9
                                    try clear p911
                                    try clear p935
                                    try clear p936
                                    try clear p937
                                    try clear p938
                                    try clear q9
                                    try clear q911
                                    try clear q935
                                    try clear q936
                                    try clear q937
                                    try clear q938
                                    obtain ⟨x17_6, rfl, HA, HK6, HO_5, HO_9, HO_12, HB⟩ := hrel
                                    cases gk with
                                    | zero => exact absurd HA.out (by simp [lw_FeeOwners.l2])
                                    | succ k6 =>
                                      have H := HA.out
                                      clear HA
                                      simp only [lw_FeeOwners.l2] at H
                                      by_cases c57 : x17_6 < x16_4
                                      · rw [if_pos c57] at H
                                        have c57b0 : decide (x17_6 < x16_4) = true := decide_eq_true c57
                                        clear c57
                                        by_cases c58 : 0 ≤ x17_6
                                        · rw [if_pos c58] at H
                                          have c58b0 : decide (0 ≤ x17_6) = true := decide_eq_true c58
                                          clear c58
                                          by_cases c59 : x17_6 < (x5_1.length : Int)
                                          · rw [if_pos c59] at H
                                            have c59b0 : decide (x17_6 < (x5_1.length : Int)) = true := decide_eq_true c59
                                            clear c59
                                            by_cases c60 : 0 ≤ x16_4
                                            · rw [if_pos c60] at H
                                              have c60b0 : decide (0 ≤ x16_4) = true := decide_eq_true c60
                                              clear c60
                                              by_cases c61 : x16_4 < (x5_1.length : Int)
                                              · rw [if_pos c61] at H
                                                have c61b0 : decide (x16_4 < (x5_1.length : Int)) = true := decide_eq_true c61
                                                clear c61
                                                by_cases c62 : (rd x5_1 x17_6) ≥ (rd x5_1 x16_4)
                                                · rw [if_pos c62] at H
                                                  have c62b0 : decide ((rd x5_1 x16_4) ≤ (rd x5_1 x17_6)) = true := decide_eq_true c62
                                                  clear c62
                                                  by_cases c63 : x17_6 < (t921.length : Int)
                                                  · rw [if_pos c63] at H
                                                    have c63b0 : decide (x17_6 < (t921.length : Int)) = true := decide_eq_true c63
                                                    clear c63
                                                    by_cases c64 : x16_4 < (t921.length : Int)
                                                    · rw [if_pos c64] at H
                                                      have c64b0 : decide (x16_4 < (t921.length : Int)) = true := decide_eq_true c64
                                                      clear c64
                                                      by_cases c65 : (rd t921 x17_6) < (rd t921 x16_4)
                                                      · rw [if_pos c65] at H
                                                        have c65b0 : decide ((rd t921 x17_6) < (rd t921 x16_4)) = true := decide_eq_true c65
                                                        clear c65
                                                        obtain rfl := Option.some.inj H
                                                        have p939 : 0 ≤ (x17_6 : Int) := of_decide_eq_true (by first | (with_reducible assumption) | assumption)
                                                        have q939 : x17_6 < (x5_1.length : Int) := of_decide_eq_true (by first | (with_reducible assumption) | assumption)
                                                        obtain ⟨ad939, e939, hx939_0⟩ := Kd.at_int (Kd.R_reads' HO_5.out).2.2 x17_6 p939 q939
                                                        cases e939
                                                        replace p939 := eq_true p939
                                                        replace q939 := eq_true q939
                                                        have p940 : 0 ≤ (x16_4 : Int) := of_decide_eq_true (by first | (with_reducible assumption) | assumption)
                                                        have q940 : x16_4 < (x5_1.length : Int) := of_decide_eq_true (by first | (with_reducible assumption) | assumption)
                                                        obtain ⟨ad940, e940, hx940_0⟩ := Kd.at_int (Kd.R_reads' HO_5.out).2.2 x16_4 p940 q940
                                                        obtain rfl : ad939 = ad940 := (by injection e940)
                                                        replace p940 := eq_true p940
                                                        replace q940 := eq_true q940
                                                        have p941 : 0 ≤ (x17_6 : Int) := of_decide_eq_true (by first | (with_reducible assumption) | assumption)
                                                        have q941 : x17_6 < (t921.length : Int) := of_decide_eq_true (by first | (with_reducible assumption) | assumption)
                                                        obtain ⟨ad941, e941, hx941_0⟩ := Kd.at_int (Kd.R_reads' HO_9.out).2.2 x17_6 p941 q941
                                                        obtain rfl : ad938 = ad941 := (by injection e941)
                                                        replace p941 := eq_true p941
                                                        replace q941 := eq_true q941
                                                        have p942 : 0 ≤ (x16_4 : Int) := of_decide_eq_true (by first | (with_reducible assumption) | assumption)
                                                        have q942 : x16_4 < (t921.length : Int) := of_decide_eq_true (by first | (with_reducible assumption) | assumption)
                                                        obtain ⟨ad942, e942, hx942_0⟩ := Kd.at_int (Kd.R_reads' HO_9.out).2.2 x16_4 p942 q942
                                                        obtain rfl : ad938 = ad942 := (by injection e942)
                                                        replace p942 := eq_true p942
                                                        replace q942 := eq_true q942
                                                        go_wp2
                                                        repeat (go_quiet (fail); try go_wp2)
                                                        go_ret
                                                        exact ⟨by first | rfl | (simp [errW_none, errW_some] <;> rfl) | (simp [*, errW_none, errW_some] <;> rfl), by repeat (first | (with_reducible first | exact HB.out | apply below_alloc | apply pw_below_drewN | apply below_drew1) | exact HB.out)⟩
                                                      · rw [if_neg c65] at H
                                                        have c65b0 : decide ((rd t921 x17_6) < (rd t921 x16_4)) = false := decide_eq_false c65
                                                        clear c65
                                                        by_cases c66 : (rd x5_1 x16_4) ≥ (rd x5_1 x17_6)
                                                        · rw [if_pos c66] at H
                                                          have c66b0 : decide ((rd x5_1 x17_6) ≤ (rd x5_1 x16_4)) = true := decide_eq_true c66
                                                          clear c66
                                                          by_cases c67 : (rd t921 x16_4) < (rd t921 x17_6)
                                                          · rw [if_pos c67] at H
                                                            have c67b0 : decide ((rd t921 x16_4) < (rd t921 x17_6)) = true := decide_eq_true c67
                                                            clear c67
                                                            obtain rfl := Option.some.inj H
                                                            have p939 : 0 ≤ (x17_6 : Int) := of_decide_eq_true (by first | (with_reducible assumption) | assumption)
                                                            have q939 : x17_6 < (x5_1.length : Int) := of_decide_eq_true (by first | (with_reducible assumption) | assumption)
                                                            obtain ⟨ad939, e939, hx939_0⟩ := Kd.at_int (Kd.R_reads' HO_5.out).2.2 x17_6 p939 q939
                                                            cases e939
                                                            replace p939 := eq_true p939
                                                            replace q939 := eq_true q939
                                                            have p940 : 0 ≤ (x16_4 : Int) := of_decide_eq_true (by first | (with_reducible assumption) | assumption)
                                                            have q940 : x16_4 < (x5_1.length : Int) := of_decide_eq_true (by first | (with_reducible assumption) | assumption)
                                                            obtain ⟨ad940, e940, hx940_0⟩ := Kd.at_int (Kd.R_reads' HO_5.out).2.2 x16_4 p940 q940
                                                            obtain rfl : ad939 = ad940 := (by injection e940)
                                                            replace p940 := eq_true p940
                                                            replace q940 := eq_true q940
                                                            have p941 : 0 ≤ (x17_6 : Int) := of_decide_eq_true (by first | (with_reducible assumption) | assumption)
                                                            have q941 : x17_6 < (t921.length : Int) := of_decide_eq_true (by first | (with_reducible assumption) | assumption)
                                                            obtain ⟨ad941, e941, hx941_0⟩ := Kd.at_int (Kd.R_reads' HO_9.out).2.2 x17_6 p941 q941
                                                            obtain rfl : ad938 = ad941 := (by injection e941)
                                                            replace p941 := eq_true p941
                                                            replace q941 := eq_true q941
                                                            have p942 : 0 ≤ (x16_4 : Int) := of_decide_eq_true (by first | (with_reducible assumption) | assumption)
                                                            have q942 : x16_4 < (t921.length : Int) := of_decide_eq_true (by first | (with_reducible assumption) | assumption)
                                                            obtain ⟨ad942, e942, hx942_0⟩ := Kd.at_int (Kd.R_reads' HO_9.out).2.2 x16_4 p942 q942
                                                            obtain rfl : ad938 = ad942 := (by injection e942)
                                                            replace p942 := eq_true p942
                                                            replace q942 := eq_true q942
                                                            have p943 : 0 ≤ (x16_4 : Int) := of_decide_eq_true (by first | (with_reducible assumption) | assumption)
                                                            have q943 : x16_4 < (x5_1.length : Int) := of_decide_eq_true (by first | (with_reducible assumption) | assumption)
                                                            obtain ⟨ad943, e943, hx943_0⟩ := Kd.at_int (Kd.R_reads' HO_5.out).2.2 x16_4 p943 q943
                                                            obtain rfl : ad939 = ad943 := (by injection e943)
                                                            replace p943 := eq_true p943
                                                            replace q943 := eq_true q943
                                                            have p944 : 0 ≤ (x17_6 : Int) := of_decide_eq_true (by first | (with_reducible assumption) | assumption)
                                                            have q944 : x17_6 < (x5_1.length : Int) := of_decide_eq_true (by first | (with_reducible assumption) | assumption)
                                                            obtain ⟨ad944, e944, hx944_0⟩ := Kd.at_int (Kd.R_reads' HO_5.out).2.2 x17_6 p944 q944
                                                            obtain rfl : ad939 = ad944 := (by injection e944)
                                                            replace p944 := eq_true p944
                                                            replace q944 := eq_true q944
                                                            have p945 : 0 ≤ (x16_4 : Int) := of_decide_eq_true (by first | (with_reducible assumption) | assumption)
                                                            have q945 : x16_4 < (t921.length : Int) := of_decide_eq_true (by first | (with_reducible assumption) | assumption)
                                                            obtain ⟨ad945, e945, hx945_0⟩ := Kd.at_int (Kd.R_reads' HO_9.out).2.2 x16_4 p945 q945
                                                            obtain rfl : ad938 = ad945 := (by injection e945)
                                                            replace p945 := eq_true p945
                                                            replace q945 := eq_true q945
                                                            have p946 : 0 ≤ (x17_6 : Int) := of_decide_eq_true (by first | (with_reducible assumption) | assumption)
                                                            have q946 : x17_6 < (t921.length : Int) := of_decide_eq_true (by first | (with_reducible assumption) | assumption)
                                                            obtain ⟨ad946, e946, hx946_0⟩ := Kd.at_int (Kd.R_reads' HO_9.out).2.2 x17_6 p946 q946
                                                            obtain rfl : ad938 = ad946 := (by injection e946)
                                                            replace p946 := eq_true p946
                                                            replace q946 := eq_true q946
                                                            go_wp2
                                                            repeat (go_quiet (fail); try go_wp2)
                                                            go_ret
                                                            exact ⟨by first | rfl | (simp [errW_none, errW_some] <;> rfl) | (simp [*, errW_none, errW_some] <;> rfl), by repeat (first | (with_reducible first | exact HB.out | apply below_alloc | apply pw_below_drewN | apply below_drew1) | exact HB.out)⟩
                                                          · rw [if_neg c67] at H
                                                            have c67b0 : decide ((rd t921 x16_4) < (rd t921 x17_6)) = false := decide_eq_false c67
                                                            clear c67
                                                            have H' := Aside0.mk H
                                                            clear H
                                                            have p939 : 0 ≤ (x17_6 : Int) := of_decide_eq_true (by first | (with_reducible assumption) | assumption)
                                                            have q939 : x17_6 < (x5_1.length : Int) := of_decide_eq_true (by first | (with_reducible assumption) | assumption)
                                                            obtain ⟨ad939, e939, hx939_0⟩ := Kd.at_int (Kd.R_reads' HO_5.out).2.2 x17_6 p939 q939
                                                            cases e939
                                                            replace p939 := eq_true p939
                                                            replace q939 := eq_true q939
                                                            have p940 : 0 ≤ (x16_4 : Int) := of_decide_eq_true (by first | (with_reducible assumption) | assumption)
                                                            have q940 : x16_4 < (x5_1.length : Int) := of_decide_eq_true (by first | (with_reducible assumption) | assumption)
                                                            obtain ⟨ad940, e940, hx940_0⟩ := Kd.at_int (Kd.R_reads' HO_5.out).2.2 x16_4 p940 q940
                                                            obtain rfl : ad939 = ad940 := (by injection e940)
                                                            replace p940 := eq_true p940
                                                            replace q940 := eq_true q940
                                                            have p941 : 0 ≤ (x17_6 : Int) := of_decide_eq_true (by first | (with_reducible assumption) | assumption)
                                                            have q941 : x17_6 < (t921.length : Int) := of_decide_eq_true (by first | (with_reducible assumption) | assumption)
                                                            obtain ⟨ad941, e941, hx941_0⟩ := Kd.at_int (Kd.R_reads' HO_9.out).2.2 x17_6 p941 q941
                                                            obtain rfl : ad938 = ad941 := (by injection e941)
                                                            replace p941 := eq_true p941
                                                            replace q941 := eq_true q941
                                                            have p942 : 0 ≤ (x16_4 : Int) := of_decide_eq_true (by first | (with_reducible assumption) | assumption)
                                                            have q942 : x16_4 < (t921.length : Int) := of_decide_eq_true (by first | (with_reducible assumption) | assumption)
                                                            obtain ⟨ad942, e942, hx942_0⟩ := Kd.at_int (Kd.R_reads' HO_9.out).2.2 x16_4 p942 q942
                                                            obtain rfl : ad938 = ad942 := (by injection e942)
                                                            replace p942 := eq_true p942
                                                            replace q942 := eq_true q942
                                                            have p943 : 0 ≤ (x16_4 : Int) := of_decide_eq_true (by first | (with_reducible assumption) | assumption)
                                                            have q943 : x16_4 < (x5_1.length : Int) := of_decide_eq_true (by first | (with_reducible assumption) | assumption)
                                                            obtain ⟨ad943, e943, hx943_0⟩ := Kd.at_int (Kd.R_reads' HO_5.out).2.2 x16_4 p943 q943
                                                            obtain rfl : ad939 = ad943 := (by injection e943)
                                                            replace p943 := eq_true p943
                                                            replace q943 := eq_true q943
                                                            have p944 : 0 ≤ (x17_6 : Int) := of_decide_eq_true (by first | (with_reducible assumption) | assumption)
                                                            have q944 : x17_6 < (x5_1.length : Int) := of_decide_eq_true (by first | (with_reducible assumption) | assumption)
                                                            obtain ⟨ad944, e944, hx944_0⟩ := Kd.at_int (Kd.R_reads' HO_5.out).2.2 x17_6 p944 q944
                                                            obtain rfl : ad939 = ad944 := (by injection e944)
                                                            replace p944 := eq_true p944
                                                            replace q944 := eq_true q944
                                                            have p945 : 0 ≤ (x16_4 : Int) := of_decide_eq_true (by first | (with_reducible assumption) | assumption)
                                                            have q945 : x16_4 < (t921.length : Int) := of_decide_eq_true (by first | (with_reducible assumption) | assumption)
                                                            obtain ⟨ad945, e945, hx945_0⟩ := Kd.at_int (Kd.R_reads' HO_9.out).2.2 x16_4 p945 q945
                                                            obtain rfl : ad938 = ad945 := (by injection e945)
                                                            replace p945 := eq_true p945
                                                            replace q945 := eq_true q945
                                                            have p946 : 0 ≤ (x17_6 : Int) := of_decide_eq_true (by first | (with_reducible assumption) | assumption)
                                                            have q946 : x17_6 < (t921.length : Int) := of_decide_eq_true (by first | (with_reducible assumption) | assumption)
                                                            obtain ⟨ad946, e946, hx946_0⟩ := Kd.at_int (Kd.R_reads' HO_9.out).2.2 x17_6 p946 q946
                                                            obtain rfl : ad938 = ad946 := (by injection e946)
                                                            replace p946 := eq_true p946
                                                            replace q946 := eq_true q946
                                                            go_wp2
                                                            repeat (go_quiet (fail); try go_wp2)
                                                            go_roundg k6
                                                            case measure => have := HK1.out; have := HJ4.out; have := HJ18.out; have := HK4.out; have := HJ43.out; have := HK6.out; omega
                                                            case rel => exact ⟨(wrap64 (x17_6 + 1)), (by first | rfl | (simp; done) | (simp [*]; done)), H', ⟨by have := HK1.out; have := HJ4.out; have := HJ18.out; have := HK4.out; have := HJ43.out; have := HK6.out; omega⟩, ⟨by (with_reducible repeat (first | apply Kd.R_alloc | apply Kd.R_drewN | apply Kd.R_drew)); exact HO_5.out⟩, ⟨by (with_reducible repeat (first | apply Kd.R_alloc | apply Kd.R_drewN | apply Kd.R_drew)); exact HO_9.out⟩, ⟨by (with_reducible repeat (first | apply Kd.R_alloc | apply Kd.R_drewN | apply Kd.R_drew)); exact HO_12.out⟩, ⟨by repeat (first | (with_reducible first | exact HB.out | apply below_alloc | apply pw_below_drewN | apply below_drew1) | exact HB.out)⟩⟩
                                                        · rw [if_neg c66] at H
                                                          have c66b0 : decide ((rd x5_1 x17_6) ≤ (rd x5_1 x16_4)) = false := decide_eq_false c66
                                                          clear c66
                                                          have H' := Aside0.mk H
                                                          clear H
                                                          have p939 : 0 ≤ (x17_6 : Int) := of_decide_eq_true (by first | (with_reducible assumption) | assumption)
                                                          have q939 : x17_6 < (x5_1.length : Int) := of_decide_eq_true (by first | (with_reducible assumption) | assumption)
                                                          obtain ⟨ad939, e939, hx939_0⟩ := Kd.at_int (Kd.R_reads' HO_5.out).2.2 x17_6 p939 q939
                                                          cases e939
                                                          replace p939 := eq_true p939
                                                          replace q939 := eq_true q939
                                                          have p940 : 0 ≤ (x16_4 : Int) := of_decide_eq_true (by first | (with_reducible assumption) | assumption)
                                                          have q940 : x16_4 < (x5_1.length : Int) := of_decide_eq_true (by first | (with_reducible assumption) | assumption)
                                                          obtain ⟨ad940, e940, hx940_0⟩ := Kd.at_int (Kd.R_reads' HO_5.out).2.2 x16_4 p940 q940
                                                          obtain rfl : ad939 = ad940 := (by injection e940)
                                                          replace p940 := eq_true p940
                                                          replace q940 := eq_true q940
                                                          have p941 : 0 ≤ (x17_6 : Int) := of_decide_eq_true (by first | (with_reducible assumption) | assumption)
                                                          have q941 : x17_6 < (t921.length : Int) := of_decide_eq_true (by first | (with_reducible assumption) | assumption)
                                                          obtain ⟨ad941, e941, hx941_0⟩ := Kd.at_int (Kd.R_reads' HO_9.out).2.2 x17_6 p941 q941
                                                          obtain rfl : ad938 = ad941 := (by injection e941)
                                                          replace p941 := eq_true p941
                                                          replace q941 := eq_true q941
                                                          have p942 : 0 ≤ (x16_4 : Int) := of_decide_eq_true (by first | (with_reducible assumption) | assumption)
                                                          have q942 : x16_4 < (t921.length : Int) := of_decide_eq_true (by first | (with_reducible assumption) | assumption)
                                                          obtain ⟨ad942, e942, hx942_0⟩ := Kd.at_int (Kd.R_reads' HO_9.out).2.2 x16_4 p942 q942
                                                          obtain rfl : ad938 = ad942 := (by injection e942)
                                                          replace p942 := eq_true p942
                                                          replace q942 := eq_true q942
                                                          have p943 : 0 ≤ (x16_4 : Int) := of_decide_eq_true (by first | (with_reducible assumption) | assumption)
                                                          have q943 : x16_4 < (x5_1.length : Int) := of_decide_eq_true (by first | (with_reducible assumption) | assumption)
                                                          obtain ⟨ad943, e943, hx943_0⟩ := Kd.at_int (Kd.R_reads' HO_5.out).2.2 x16_4 p943 q943
                                                          obtain rfl : ad939 = ad943 := (by injection e943)
                                                          replace p943 := eq_true p943
                                                          replace q943 := eq_true q943
                                                          have p944 : 0 ≤ (x17_6 : Int) := of_decide_eq_true (by first | (with_reducible assumption) | assumption)
                                                          have q944 : x17_6 < (x5_1.length : Int) := of_decide_eq_true (by first | (with_reducible assumption) | assumption)
                                                          obtain ⟨ad944, e944, hx944_0⟩ := Kd.at_int (Kd.R_reads' HO_5.out).2.2 x17_6 p944 q944
                                                          obtain rfl : ad939 = ad944 := (by injection e944)
                                                          replace p944 := eq_true p944
                                                          replace q944 := eq_true q944
                                                          go_wp2
                                                          repeat (go_quiet (fail); try go_wp2)
                                                          go_roundg k6
                                                          case measure => have := HK1.out; have := HJ4.out; have := HJ18.out; have := HK4.out; have := HJ43.out; have := HK6.out; omega
                                                          case rel => exact ⟨(wrap64 (x17_6 + 1)), (by first | rfl | (simp; done) | (simp [*]; done)), H', ⟨by have := HK1.out; have := HJ4.out; have := HJ18.out; have := HK4.out; have := HJ43.out; have := HK6.out; omega⟩, ⟨by (with_reducible repeat (first | apply Kd.R_alloc | apply Kd.R_drewN | apply Kd.R_drew)); exact HO_5.out⟩, ⟨by (with_reducible repeat (first | apply Kd.R_alloc | apply Kd.R_drewN | apply Kd.R_drew)); exact HO_9.out⟩, ⟨by (with_reducible repeat (first | apply Kd.R_alloc | apply Kd.R_drewN | apply Kd.R_drew)); exact HO_12.out⟩, ⟨by repeat (first | (with_reducible first | exact HB.out | apply below_alloc | apply pw_below_drewN | apply below_drew1) | exact HB.out)⟩⟩
                                                    · rw [if_neg c64] at H
                                                      exact absurd H (by simp)
                                                  · rw [if_neg c63] at H
                                                    exact absurd H (by simp)
                                                · rw [if_neg c62] at H
                                                  have c62b0 : decide ((rd x5_1 x16_4) ≤ (rd x5_1 x17_6)) = false := decide_eq_false c62
                                                  clear c62
                                                  by_cases c68 : (rd x5_1 x16_4) ≥ (rd x5_1 x17_6)
                                                  · rw [if_pos c68] at H
                                                    have c68b0 : decide ((rd x5_1 x17_6) ≤ (rd x5_1 x16_4)) = true := decide_eq_true c68
                                                    clear c68
                                                    by_cases c69 : x16_4 < (t921.length : Int)
                                                    · rw [if_pos c69] at H
                                                      have c69b0 : decide (x16_4 < (t921.length : Int)) = true := decide_eq_true c69
                                                      clear c69
                                                      by_cases c70 : x17_6 < (t921.length : Int)
                                                      · rw [if_pos c70] at H
                                                        have c70b0 : decide (x17_6 < (t921.length : Int)) = true := decide_eq_true c70
                                                        clear c70
                                                        by_cases c71 : (rd t921 x16_4) < (rd t921 x17_6)
                                                        · rw [if_pos c71] at H
                                                          have c71b0 : decide ((rd t921 x16_4) < (rd t921 x17_6)) = true := decide_eq_true c71
                                                          clear c71
                                                          obtain rfl := Option.some.inj H
                                                          have p939 : 0 ≤ (x17_6 : Int) := of_decide_eq_true (by first | (with_reducible assumption) | assumption)
                                                          have q939 : x17_6 < (x5_1.length : Int) := of_decide_eq_true (by first | (with_reducible assumption) | assumption)
                                                          obtain ⟨ad939, e939, hx939_0⟩ := Kd.at_int (Kd.R_reads' HO_5.out).2.2 x17_6 p939 q939
                                                          cases e939
                                                          replace p939 := eq_true p939
                                                          replace q939 := eq_true q939
                                                          have p940 : 0 ≤ (x16_4 : Int) := of_decide_eq_true (by first | (with_reducible assumption) | assumption)
                                                          have q940 : x16_4 < (x5_1.length : Int) := of_decide_eq_true (by first | (with_reducible assumption) | assumption)
                                                          obtain ⟨ad940, e940, hx940_0⟩ := Kd.at_int (Kd.R_reads' HO_5.out).2.2 x16_4 p940 q940
                                                          obtain rfl : ad939 = ad940 := (by injection e940)
                                                          replace p940 := eq_true p940
                                                          replace q940 := eq_true q940
                                                          have p947 : 0 ≤ (x16_4 : Int) := of_decide_eq_true (by first | (with_reducible assumption) | assumption)
                                                          have q947 : x16_4 < (x5_1.length : Int) := of_decide_eq_true (by first | (with_reducible assumption) | assumption)
                                                          obtain ⟨ad947, e947, hx947_0⟩ := Kd.at_int (Kd.R_reads' HO_5.out).2.2 x16_4 p947 q947
                                                          obtain rfl : ad939 = ad947 := (by injection e947)
                                                          replace p947 := eq_true p947
                                                          replace q947 := eq_true q947
                                                          have p948 : 0 ≤ (x17_6 : Int) := of_decide_eq_true (by first | (with_reducible assumption) | assumption)
                                                          have q948 : x17_6 < (x5_1.length : Int) := of_decide_eq_true (by first | (with_reducible assumption) | assumption)
                                                          obtain ⟨ad948, e948, hx948_0⟩ := Kd.at_int (Kd.R_reads' HO_5.out).2.2 x17_6 p948 q948
                                                          obtain rfl : ad939 = ad948 := (by injection e948)
                                                          replace p948 := eq_true p948
                                                          replace q948 := eq_true q948
                                                          have p949 : 0 ≤ (x16_4 : Int) := of_decide_eq_true (by first | (with_reducible assumption) | assumption)
                                                          have q949 : x16_4 < (t921.length : Int) := of_decide_eq_true (by first | (with_reducible assumption) | assumption)
                                                          obtain ⟨ad949, e949, hx949_0⟩ := Kd.at_int (Kd.R_reads' HO_9.out).2.2 x16_4 p949 q949
                                                          obtain rfl : ad938 = ad949 := (by injection e949)
                                                          replace p949 := eq_true p949
                                                          replace q949 := eq_true q949
                                                          have p950 : 0 ≤ (x17_6 : Int) := of_decide_eq_true (by first | (with_reducible assumption) | assumption)
                                                          have q950 : x17_6 < (t921.length : Int) := of_decide_eq_true (by first | (with_reducible assumption) | assumption)
                                                          obtain ⟨ad950, e950, hx950_0⟩ := Kd.at_int (Kd.R_reads' HO_9.out).2.2 x17_6 p950 q950
                                                          obtain rfl : ad938 = ad950 := (by injection e950)
                                                          replace p950 := eq_true p950
                                                          replace q950 := eq_true q950
                                                          go_wp2
                                                          repeat (go_quiet (fail); try go_wp2)
                                                          go_ret
                                                          exact ⟨by first | rfl | (simp [errW_none, errW_some] <;> rfl) | (simp [*, errW_none, errW_some] <;> rfl), by repeat (first | (with_reducible first | exact HB.out | apply below_alloc | apply pw_below_drewN | apply below_drew1) | exact HB.out)⟩
                                                        · rw [if_neg c71] at H
                                                          have c71b0 : decide ((rd t921 x16_4) < (rd t921 x17_6)) = false := decide_eq_false c71
                                                          clear c71
                                                          have H' := Aside0.mk H
                                                          clear H
                                                          have p939 : 0 ≤ (x17_6 : Int) := of_decide_eq_true (by first | (with_reducible assumption) | assumption)
                                                          have q939 : x17_6 < (x5_1.length : Int) := of_decide_eq_true (by first | (with_reducible assumption) | assumption)
                                                          obtain ⟨ad939, e939, hx939_0⟩ := Kd.at_int (Kd.R_reads' HO_5.out).2.2 x17_6 p939 q939
                                                          cases e939
                                                          replace p939 := eq_true p939
                                                          replace q939 := eq_true q939
                                                          have p940 : 0 ≤ (x16_4 : Int) := of_decide_eq_true (by first | (with_reducible assumption) | assumption)
                                                          have q940 : x16_4 < (x5_1.length : Int) := of_decide_eq_true (by first | (with_reducible assumption) | assumption)
                                                          obtain ⟨ad940, e940, hx940_0⟩ := Kd.at_int (Kd.R_reads' HO_5.out).2.2 x16_4 p940 q940
                                                          obtain rfl : ad939 = ad940 := (by injection e940)
                                                          replace p940 := eq_true p940
                                                          replace q940 := eq_true q940
                                                          have p947 : 0 ≤ (x16_4 : Int) := of_decide_eq_true (by first | (with_reducible assumption) | assumption)
                                                          have q947 : x16_4 < (x5_1.length : Int) := of_decide_eq_true (by first | (with_reducible assumption) | assumption)
                                                          obtain ⟨ad947, e947, hx947_0⟩ := Kd.at_int (Kd.R_reads' HO_5.out).2.2 x16_4 p947 q947
                                                          obtain rfl : ad939 = ad947 := (by injection e947)
                                                          replace p947 := eq_true p947
                                                          replace q947 := eq_true q947
                                                          have p948 : 0 ≤ (x17_6 : Int) := of_decide_eq_true (by first | (with_reducible assumption) | assumption)
                                                          have q948 : x17_6 < (x5_1.length : Int) := of_decide_eq_true (by first | (with_reducible assumption) | assumption)
                                                          obtain ⟨ad948, e948, hx948_0⟩ := Kd.at_int (Kd.R_reads' HO_5.out).2.2 x17_6 p948 q948
                                                          obtain rfl : ad939 = ad948 := (by injection e948)
                                                          replace p948 := eq_true p948
                                                          replace q948 := eq_true q948
                                                          have p949 : 0 ≤ (x16_4 : Int) := of_decide_eq_true (by first | (with_reducible assumption) | assumption)
                                                          have q949 : x16_4 < (t921.length : Int) := of_decide_eq_true (by first | (with_reducible assumption) | assumption)
                                                          obtain ⟨ad949, e949, hx949_0⟩ := Kd.at_int (Kd.R_reads' HO_9.out).2.2 x16_4 p949 q949
                                                          obtain rfl : ad938 = ad949 := (by injection e949)
                                                          replace p949 := eq_true p949
                                                          replace q949 := eq_true q949
                                                          have p950 : 0 ≤ (x17_6 : Int) := of_decide_eq_true (by first | (with_reducible assumption) | assumption)
                                                          have q950 : x17_6 < (t921.length : Int) := of_decide_eq_true (by first | (with_reducible assumption) | assumption)
                                                          obtain ⟨ad950, e950, hx950_0⟩ := Kd.at_int (Kd.R_reads' HO_9.out).2.2 x17_6 p950 q950
                                                          obtain rfl : ad938 = ad950 := (by injection e950)
                                                          replace p950 := eq_true p950
                                                          replace q950 := eq_true q950
                                                          go_wp2
                                                          repeat (go_quiet (fail); try go_wp2)
                                                          go_roundg k6
                                                          case measure => have := HK1.out; have := HJ4.out; have := HJ18.out; have := HK4.out; have := HJ43.out; have := HK6.out; omega
                                                          case rel => exact ⟨(wrap64 (x17_6 + 1)), (by first | rfl | (simp; done) | (simp [*]; done)), H', ⟨by have := HK1.out; have := HJ4.out; have := HJ18.out; have := HK4.out; have := HJ43.out; have := HK6.out; omega⟩, ⟨by (with_reducible repeat (first | apply Kd.R_alloc | apply Kd.R_drewN | apply Kd.R_drew)); exact HO_5.out⟩, ⟨by (with_reducible repeat (first | apply Kd.R_alloc | apply Kd.R_drewN | apply Kd.R_drew)); exact HO_9.out⟩, ⟨by (with_reducible repeat (first | apply Kd.R_alloc | apply Kd.R_drewN | apply Kd.R_drew)); exact HO_12.out⟩, ⟨by repeat (first | (with_reducible first | exact HB.out | apply below_alloc | apply pw_below_drewN | apply below_drew1) | exact HB.out)⟩⟩
                                                      · rw [if_neg c70] at H
                                                        exact absurd H (by simp)
                                                    · rw [if_neg c69] at H
                                                      exact absurd H (by simp)
                                                  · rw [if_neg c68] at H
                                                    have c68b0 : decide ((rd x5_1 x17_6) ≤ (rd x5_1 x16_4)) = false := decide_eq_false c68
                                                    clear c68
                                                    have H' := Aside0.mk H
                                                    clear H
                                                    have p939 : 0 ≤ (x17_6 : Int) := of_decide_eq_true (by first | (with_reducible assumption) | assumption)
                                                    have q939 : x17_6 < (x5_1.length : Int) := of_decide_eq_true (by first | (with_reducible assumption) | assumption)
                                                    obtain ⟨ad939, e939, hx939_0⟩ := Kd.at_int (Kd.R_reads' HO_5.out).2.2 x17_6 p939 q939
                                                    cases e939
                                                    replace p939 := eq_true p939
                                                    replace q939 := eq_true q939
                                                    have p940 : 0 ≤ (x16_4 : Int) := of_decide_eq_true (by first | (with_reducible assumption) | assumption)
                                                    have q940 : x16_4 < (x5_1.length : Int) := of_decide_eq_true (by first | (with_reducible assumption) | assumption)
                                                    obtain ⟨ad940, e940, hx940_0⟩ := Kd.at_int (Kd.R_reads' HO_5.out).2.2 x16_4 p940 q940
                                                    obtain rfl : ad939 = ad940 := (by injection e940)
                                                    replace p940 := eq_true p940
                                                    replace q940 := eq_true q940
                                                    have p947 : 0 ≤ (x16_4 : Int) := of_decide_eq_true (by first | (with_reducible assumption) | assumption)
                                                    have q947 : x16_4 < (x5_1.length : Int) := of_decide_eq_true (by first | (with_reducible assumption) | assumption)
                                                    obtain ⟨ad947, e947, hx947_0⟩ := Kd.at_int (Kd.R_reads' HO_5.out).2.2 x16_4 p947 q947
                                                    obtain rfl : ad939 = ad947 := (by injection e947)
                                                    replace p947 := eq_true p947
                                                    replace q947 := eq_true q947
                                                    have p948 : 0 ≤ (x17_6 : Int) := of_decide_eq_true (by first | (with_reducible assumption) | assumption)
                                                    have q948 : x17_6 < (x5_1.length : Int) := of_decide_eq_true (by first | (with_reducible assumption) | assumption)
                                                    obtain ⟨ad948, e948, hx948_0⟩ := Kd.at_int (Kd.R_reads' HO_5.out).2.2 x17_6 p948 q948
                                                    obtain rfl : ad939 = ad948 := (by injection e948)
                                                    replace p948 := eq_true p948
                                                    replace q948 := eq_true q948
                                                    go_wp2
                                                    repeat (go_quiet (fail); try go_wp2)
                                                    go_roundg k6
                                                    case measure => have := HK1.out; have := HJ4.out; have := HJ18.out; have := HK4.out; have := HJ43.out; have := HK6.out; omega
                                                    case rel => exact ⟨(wrap64 (x17_6 + 1)), (by first | rfl | (simp; done) | (simp [*]; done)), H', ⟨by have := HK1.out; have := HJ4.out; have := HJ18.out; have := HK4.out; have := HJ43.out; have := HK6.out; omega⟩, ⟨by (with_reducible repeat (first | apply Kd.R_alloc | apply Kd.R_drewN | apply Kd.R_drew)); exact HO_5.out⟩, ⟨by (with_reducible repeat (first | apply Kd.R_alloc | apply Kd.R_drewN | apply Kd.R_drew)); exact HO_9.out⟩, ⟨by (with_reducible repeat (first | apply Kd.R_alloc | apply Kd.R_drewN | apply Kd.R_drew)); exact HO_12.out⟩, ⟨by repeat (first | (with_reducible first | exact HB.out | apply below_alloc | apply pw_below_drewN | apply below_drew1) | exact HB.out)⟩⟩
                                              · rw [if_neg c61] at H
                                                exact absurd H (by simp)
                                            · rw [if_neg c60] at H
                                              exact absurd H (by simp)
                                          · rw [if_neg c59] at H
                                            exact absurd H (by simp)
                                        · rw [if_neg c58] at H
                                          exact absurd H (by simp)
                                      · rw [if_neg c57] at H
                                        have c57b0 : decide (x17_6 < x16_4) = false := decide_eq_false c57
                                        clear c57
                                        have H' := Aside0.mk H
                                        clear H
                                        go_wp2
                                        repeat (go_quiet (fail); try go_wp2)
                                        go_roundg k6
                                        case measure => have := HK1.out; have := HJ4.out; have := HJ18.out; have := HK4.out; have := HJ43.out; have := HK6.out; omega
                                        case rel => exact ⟨((wrap64 (x15_4 + (rd t921 x16_4)))), (wrap64 (x16_4 + 1)), (by first | rfl | (simp; done) | (simp [*]; done)), (by first | rfl | (simp; done) | (simp [*]; done)), H', ⟨by have := HK1.out; have := HJ4.out; have := HJ18.out; have := HK4.out; have := HJ43.out; have := HK6.out; omega⟩, ⟨by (with_reducible repeat (first | apply Kd.R_alloc | apply Kd.R_drewN | apply Kd.R_drew)); exact HO_5.out⟩, ⟨by (with_reducible repeat (first | apply Kd.R_alloc | apply Kd.R_drewN | apply Kd.R_drew)); exact HO_9.out⟩, ⟨by (with_reducible repeat (first | apply Kd.R_alloc | apply Kd.R_drewN | apply Kd.R_drew)); exact HO_12.out⟩, ⟨by repeat (first | (with_reducible first | exact HB.out | apply below_alloc | apply pw_below_drewN | apply below_drew1) | exact HB.out)⟩⟩
                                · rw [if_neg c55] at H
                                  exact absurd H (by simp)
                              · rw [if_neg c54] at H
                                exact absurd H (by simp)
                      · rw [if_neg c43] at H
                        have c43b0 : decide (x16_4 < (x5_1.length : Int)) = false := decide_eq_false c43
                        clear c43
                        by_cases c72 : x15_4 = (wrap64 (a1))
                        · rw [if_pos c72] at H
                          have c72b0 : (x15_4 == (wrap64 (a1))) = true := beq_iff_eq.mpr c72
                          have c72b1 : (x15_4 != (wrap64 (a1))) = false := bne_eq_false_iff_eq.mpr c72
                          clear c72
                          replace H := Option.bind_eq_some_iff.mp H
                          obtain ⟨t934, A730, H⟩ := H
                          replace H : (some t934) = some r := H
                          have A73 := Aside0.mk A730
                          clear A730
                          obtain rfl := Option.some.inj H
                          go_wp2_with (first | (go_at_call 22; (with_reducible refine (lw_known.calls  t934 _ A73.out).mono ?_); rintro e w74 ⟨rfl, hb⟩; have n0_ := Aside0.mk (Kd.R_below (by (with_reducible repeat (first | apply Kd.R_alloc | apply Kd.R_drewN | apply Kd.R_drew)); exact HO_5.out) hb); have n1_ := Aside0.mk (Kd.R_below (by (with_reducible repeat (first | apply Kd.R_alloc | apply Kd.R_drewN | apply Kd.R_drew)); exact HO_9.out) hb); have n2_ := Aside0.mk (Kd.R_below (by (with_reducible repeat (first | apply Kd.R_alloc | apply Kd.R_drewN | apply Kd.R_drew)); exact HO_12.out) hb); have n3_ := Aside0.mk (below_step (by repeat (first | (with_reducible first | exact HB.out | apply below_alloc | apply pw_below_drewN | apply below_drew1) | exact HB.out)) hb); clear HO_5; clear HO_9; clear HO_12; clear HB; have HO_5 := n0_; have HO_9 := n1_; have HO_12 := n2_; have HB := n3_; clear n0_ n1_ n2_ n3_; (try clear hb); (try clear hb2); (try clear hk); (try clear hi)))
                          repeat (go_quiet (first | (go_at_call 22; (with_reducible refine (lw_known.calls  t934 _ A73.out).mono ?_); rintro e w74 ⟨rfl, hb⟩; have n0_ := Aside0.mk (Kd.R_below (by (with_reducible repeat (first | apply Kd.R_alloc | apply Kd.R_drewN | apply Kd.R_drew)); exact HO_5.out) hb); have n1_ := Aside0.mk (Kd.R_below (by (with_reducible repeat (first | apply Kd.R_alloc | apply Kd.R_drewN | apply Kd.R_drew)); exact HO_9.out) hb); have n2_ := Aside0.mk (Kd.R_below (by (with_reducible repeat (first | apply Kd.R_alloc | apply Kd.R_drewN | apply Kd.R_drew)); exact HO_12.out) hb); have n3_ := Aside0.mk (below_step (by repeat (first | (with_reducible first | exact HB.out | apply below_alloc | apply pw_below_drewN | apply below_drew1) | exact HB.out)) hb); clear HO_5; clear HO_9; clear HO_12; clear HB; have HO_5 := n0_; have HO_9 := n1_; have HO_12 := n2_; have HB := n3_; clear n0_ n1_ n2_ n3_; (try clear hb); (try clear hb2); (try clear hk); (try clear hi))); try go_wp2_with (first | (go_at_call 22; (with_reducible refine (lw_known.calls  t934 _ A73.out).mono ?_); rintro e w74 ⟨rfl, hb⟩; have n0_ := Aside0.mk (Kd.R_below (by (with_reducible repeat (first | apply Kd.R_alloc | apply Kd.R_drewN | apply Kd.R_drew)); exact HO_5.out) hb); have n1_ := Aside0.mk (Kd.R_below (by (with_reducible repeat (first | apply Kd.R_alloc | apply Kd.R_drewN | apply Kd.R_drew)); exact HO_9.out) hb); have n2_ := Aside0.mk (Kd.R_below (by (with_reducible repeat (first | apply Kd.R_alloc | apply Kd.R_drewN | apply Kd.R_drew)); exact HO_12.out) hb); have n3_ := Aside0.mk (below_step (by repeat (first | (with_reducible first | exact HB.out | apply below_alloc | apply pw_below_drewN | apply below_drew1) | exact HB.out)) hb); clear HO_5; clear HO_9; clear HO_12; clear HB; have HO_5 := n0_; have HO_9 := n1_; have HO_12 := n2_; have HB := n3_; clear n0_ n1_ n2_ n3_; (try clear hb); (try clear hb2); (try clear hk); (try clear hi))))
                          go_ret
                          exact ⟨by first | rfl | (simp [errW_none, errW_some] <;> rfl) | (simp [*, errW_none, errW_some] <;> rfl), by repeat (first | (with_reducible first | exact HB.out | apply below_alloc | apply pw_below_drewN | apply below_drew1) | exact HB.out)⟩
                        · rw [if_neg c72] at H
                          have c72b0 : (x15_4 == (wrap64 (a1))) = false := beq_eq_false_iff_ne.mpr c72
                          have c72b1 : (x15_4 != (wrap64 (a1))) = true := bne_iff_ne.mpr c72
                          obtain rfl := Option.some.inj H
                          go_wp2
                          repeat (go_quiet (fail); try go_wp2)
                          go_ret
                          exact ⟨by first | rfl | (simp [errW_none, errW_some] <;> rfl) | (simp [*, errW_none, errW_some] <;> rfl), by repeat (first | (with_reducible first | exact HB.out | apply below_alloc | apply pw_below_drewN | apply below_drew1) | exact HB.out)⟩
end Go.Proofs.Ytdlekcdedahbhaa.Q
namespace Go.Proofs.Ytdlekcdedahbhaa.Rw
open Go.RowKit Go.Proofs.YtdlekcdedahbhaaW.PrintWords
set_option linter.unusedVariables false
set_option linter.unusedSimpArgs false
theorem add_two (a : Addr) (x y : Nat) : (a.add x).add y = a.add (x + y) := by
  unfold Addr.add
  by_cases h1 : x = 0
  · subst h1; simp
  · by_cases h2 : y = 0
    · subst h2; simp
    · have h3 : ¬ x + y = 0 := by omega
      simp [h1, h2, Nat.add_assoc]
structure Opens {α : Type} (P : Program) (t : TypeId) (d : Kd α) (good : α → Prop) : Prop where
  size : d.sz = P.cellsOf t
  read : ∀ {H : Type} {enc : TypeId × Value → H} {w : World} {base : Nat} {sp : Nat → Bool} {held : Bool} {fuel : Nat} {cs : List Value} {x : DataW H × List MemPlace}, DataW.trod enc P w base sp held fuel t cs = some x → ∃ y : α, d.K w y cs ∧ good y
theorem Opens.int {P : Program} {t : TypeId} {k : IntKind} (ht : P.underlying t = some (.int k)) (hc : 1 = P.cellsOf t) : Opens P t (Kd.int k) (fun n => (Lit.int k n).wf = true) := ⟨hc, fun h => by
  obtain ⟨n, rfl, rfl, hw⟩ := DataW.trod_int ht h
  exact ⟨n, rfl, hw⟩⟩
theorem Opens.slice {α : Type} {P : Program} {t e : TypeId} {d : Kd α} {good : α → Prop} (ht : P.underlying t = some (.slice e)) (hc : 1 = P.cellsOf t) (h : Opens P e d good) : Opens P t (Kd.slice e d) (fun l => ∀ x ∈ l, good x) := ⟨hc, fun {H enc w base sp held fuel cs x} hx => by
  rcases DataW.trod_slice ht hx with ⟨rfl, _⟩ | ⟨a, len, cap, elems, rest, n, _, rfl, _, hb, hl, hm, hlen, hel, _, _⟩
  · exact ⟨[], ⟨none, 0, rfl, Nat.le_refl _, Kd.C_nil _ _⟩, fun x hx => by cases hx⟩
  · have key : ∀ m, m ≤ len → ∃ l : List α, l.length = m ∧ ∀ i z, l[i]? = some z → good z ∧ ∃ c, c.length = d.sz ∧ d.K w z c ∧ ∀ j u, c[j]? = some u → w.cell? (a.add (i * d.sz + j)) = some u := by
      intro m
      induction m with
      | zero => intro _; exact ⟨[], rfl, fun i z hz => by simp at hz⟩
      | succ m ih =>
        intro hle
        obtain ⟨l, hll, hl2⟩ := ih (by omega)
        have h1 := hel m (by omega)
        rw [List.getElem?_eq_getElem (by omega), Option.bind_eq_some_iff] at h1
        obtain ⟨c, hc1, hc2⟩ := h1
        obtain ⟨z, hz, hg⟩ := h.read hc2
        obtain ⟨_, hcl, hcc⟩ := World.cells?_some hc1
        refine ⟨l ++ [z], by simp [hll], fun i z' hz' => ?_⟩
        rcases Nat.lt_or_ge i l.length with hlt | hge
        · rw [List.getElem?_append_left hlt] at hz'
          exact hl2 i z' hz'
        · rw [List.getElem?_append_right hge] at hz'
          have e : i = m := by
            rcases Nat.eq_zero_or_pos (i - l.length) with e | e
            · omega
            · rw [List.getElem?_eq_none (by simp; omega)] at hz'; cases hz'
          subst e
          rw [show i - l.length = 0 by omega] at hz'
          simp only [List.getElem?_cons_zero, Option.some.injEq] at hz'
          subst hz'
          refine ⟨hg, c, by rw [hcl, h.size], hz, fun j u hu => ?_⟩
          have hj : j < P.cellsOf e := by rw [← hcl]; exact (List.getElem?_eq_some_iff.1 hu).1
          have := hcc j hj
          rw [hu] at this
          rw [h.size, ← this, add_two]
    obtain ⟨l, hll, hl2⟩ := key len (Nat.le_refl _)
    refine ⟨l, ⟨some a, cap, by rw [hll], by omega, rfl, by unfold maxLen at hm; omega, fun _ => ⟨a, rfl, fun j p hj => ?_⟩⟩, fun x hx => ?_⟩
    · obtain ⟨_, c, h1, h2, h3⟩ := hl2 j p hj
      exact ⟨c, h1, h2, h3⟩
    · obtain ⟨i, hi⟩ := List.getElem?_of_mem hx
      exact (hl2 i x hi).1⟩
structure FOpens {α : Type} (P : Program) (fs : List Field) (off : Nat) (d : Kd α) (good : α → Prop) : Prop where
  read : ∀ {H : Type} {enc : TypeId × Value → H} {w : World} {base : Nat} {sp : Nat → Bool} {held : Bool} {fuel : Nat} {cs : List Value},
  (∀ (i : Nat) (f : Field), fs[i]? = some f → ∃ y, DataW.trod enc P w base sp held fuel f.type ((cs.drop f.offset).take (P.cellsOf f.type)) = some y) → cs.length = off + d.sz → ∃ y : α, d.K w y (cs.drop off) ∧ good y
theorem FOpens.cons {α β : Type} {P : Program} {f : Field} {fs : List Field} {off : Nat} {d1 : Kd α} {d2 : Kd β} {g1 : α → Prop} {g2 : β → Prop} (h1 : Opens P f.type d1 g1) (ho : f.offset = off) (h2 : FOpens P fs (off + d1.sz) d2 g2) : FOpens P (f :: fs) off (Kd.pair d1 d2) (fun x => g1 x.1 ∧ g2 x.2) := ⟨fun {H enc w base sp held fuel cs} hf hl => by
  have hsz : (Kd.pair d1 d2).sz = d1.sz + d2.sz := rfl
  obtain ⟨y1, hy1⟩ := hf 0 f rfl
  rw [ho, ← h1.size] at hy1
  obtain ⟨x1, hk1, hg1⟩ := h1.read hy1
  obtain ⟨x2, hk2, hg2⟩ := h2.read (cs := cs) (fun i g hg => hf (i + 1) g (by simpa using hg)) (by omega)
  refine ⟨(x1, x2), ⟨_, _, ?_, hk1, hk2⟩, hg1, hg2⟩
  rw [← List.drop_drop, List.take_append_drop]⟩
end Go.Proofs.Ytdlekcdedahbhaa.Rw
namespace Go.Proofs.Ytdlekcdedahbhaa.Q
open Go.RowKit Go.Proofs.YtdlekcdedahbhaaW.PrintWords Go.Proofs.YtdlekcdedahbhaaW.PrintLast Go.Proofs.YtdlekcdedahbhaaW.PrintMore
attribute [local go_sem] max2_int min2_int max_two min_two max_three min_three max_four min_four   -- for this text's walks alone
set_option linter.unusedVariables false
set_option linter.unusedSimpArgs false
end Go.Proofs.Ytdlekcdedahbhaa.Q
namespace Go.Proofs.Ytdlekcdedahbhaa.Q
open Go.RowKit Go.Proofs.YtdlekcdedahbhaaW.PrintWords Go.Proofs.YtdlekcdedahbhaaW.PrintLast Go.Proofs.YtdlekcdedahbhaaW.PrintMore
attribute [local go_sem] max2_int min2_int max_two min_two max_three min_three max_four min_four   -- for this text's walks alone
set_option linter.unusedVariables false
set_option linter.unusedSimpArgs false
end Go.Proofs.Ytdlekcdedahbhaa.Q
namespace Go.Proofs.Ytdlekcdedahbhaa.Q
open Go.RowKit Go.Proofs.YtdlekcdedahbhaaW.PrintWords Go.Proofs.YtdlekcdedahbhaaW.PrintLast Go.Proofs.YtdlekcdedahbhaaW.PrintMore
attribute [local go_sem] max2_int min2_int max_two min_two max_three min_three max_four min_four   -- for this text's walks alone
set_option linter.unusedVariables false
set_option linter.unusedSimpArgs false
theorem eqA101 (d : Nat) (w : World) (x0 y0 : Int) (x1 y1 : Int) (x2 y2 : Int) :
    (Op.equalIn (d + 2) 101 (.agg #[.int .i64 x0, .int .i64 x1, .int .i64 x2]) (.agg #[.int .i64 y0, .int .i64 y1, .int .i64 y2])).run Try.prog w = .ok (x0 == y0 && (x1 == y1 && (x2 == y2))) w := by
  refine eqA_of Try.underlying101 (by kernel_rfl) ?_
  refine eqf_cons (by rfl) (by go_simp; rfl) (by go_simp; rfl) (by go_simp) ?_
  refine eqf_cons (by rfl) (by go_simp; rfl) (by go_simp; rfl) (by go_simp) ?_
  exact eqf_last (by rfl) (by go_simp; rfl) (by go_simp; rfl) (by go_simp)
end Go.Proofs.Ytdlekcdedahbhaa.Q
namespace Go.Proofs.Ytdlekcdedahbhaa.Q
open Go.RowKit Go.Proofs.YtdlekcdedahbhaaW.PrintWords Go.Proofs.YtdlekcdedahbhaaW.PrintLast Go.Proofs.YtdlekcdedahbhaaW.PrintMore
attribute [local go_sem] max2_int min2_int max_two min_two max_three min_three max_four min_four   -- for this text's walks alone
set_option linter.unusedVariables false
set_option linter.unusedSimpArgs false
attribute [local go_sem high] eqA101
end Go.Proofs.Ytdlekcdedahbhaa.Q
namespace Go.Proofs.Ytdlekcdedahbhaa.Q
open Go.RowKit Go.Proofs.YtdlekcdedahbhaaW.PrintWords Go.Proofs.YtdlekcdedahbhaaW.PrintLast Go.Proofs.YtdlekcdedahbhaaW.PrintMore
attribute [local go_sem] max2_int min2_int max_two min_two max_three min_three max_four min_four   -- for this text's walks alone
set_option linter.unusedVariables false
set_option linter.unusedSimpArgs false
end Go.Proofs.Ytdlekcdedahbhaa.Q
namespace Go.Proofs.Ytdlekcdedahbhaa.Q
open Go.RowKit Go.Proofs.YtdlekcdedahbhaaW.PrintWords Go.Proofs.YtdlekcdedahbhaaW.PrintLast Go.Proofs.YtdlekcdedahbhaaW.PrintMore
attribute [local go_sem] max2_int min2_int max_two min_two max_three min_three max_four min_four   -- for this text's walks alone
set_option linter.unusedVariables false
set_option linter.unusedSimpArgs false
end Go.Proofs.Ytdlekcdedahbhaa.Q
namespace Go.Proofs.Ytdlekcdedahbhaa.Q
open Go.RowKit Go.Proofs.YtdlekcdedahbhaaW.PrintWords Go.Proofs.YtdlekcdedahbhaaW.PrintLast Go.Proofs.YtdlekcdedahbhaaW.PrintMore
attribute [local go_sem] max2_int min2_int max_two min_two max_three min_three max_four min_four   -- for this text's walks alone
set_option linter.unusedVariables false
set_option linter.unusedSimpArgs false
end Go.Proofs.Ytdlekcdedahbhaa.Q
namespace Go.Proofs.Ytdlekcdedahbhaa.Q
open Go.RowKit Go.Proofs.YtdlekcdedahbhaaW.PrintWords
set_option linter.unusedVariables false
set_option linter.unusedSimpArgs false
theorem Ev.up {α : Type} {g : Nat → Option α} {r : α} (h : Ev (fun k => g (k + 1)) r) : Ev g r := by
  obtain ⟨K, hK⟩ := h
  refine ⟨K + 1, fun k hk => ?_⟩
  obtain ⟨m, rfl⟩ : ∃ m, k = m + 1 := ⟨k - 1, by omega⟩
  exact hK m (by omega)
theorem wr {x : Int} (h : -9223372036854775808 ≤ x ∧ x ≤ 9223372036854775807) : wrap64 x = x := by unfold wrap64; omega
theorem wi (i : Nat) (h : i ≤ 100000) : wrap64 ((i : Int) + 1) = ((i + 1 : Nat) : Int) := by rw [wr (by omega)]; omega
theorem rdI (l : List Int) (i : Nat) (h : i < l.length) : rd l (i : Int) = l[i] := by simp [rd, h]
theorem known_f : lw_known.f = some true := rfl
theorem sum_take (l : List Int) (i : Nat) (h : i < l.length) : (l.take (i + 1)).sum = (l.take i).sum + l[i] := by
  rw [List.take_succ_eq_append_getElem h, List.sum_append]
  simp
theorem sum_bnd (B : Int) (hB : 0 ≤ B) : ∀ l : List Int, (∀ x ∈ l, -B ≤ x ∧ x ≤ B) → -(B * l.length) ≤ l.sum ∧ l.sum ≤ B * l.length
  | [], _ => by simp
  | x :: l, h => by
    have h1 := sum_bnd B hB l (fun y hy => h y (List.mem_cons_of_mem _ hy))
    have h2 := h x (List.mem_cons_self ..)
    simp only [List.sum_cons, List.length_cons]
    rw [Int.natCast_add, Int.mul_add]
    omega
end Go.Proofs.Ytdlekcdedahbhaa.Q
namespace Go.Proofs.Ytdlekcdedahbhaa.Q
open Go.RowKit Go.Proofs.YtdlekcdedahbhaaW.PrintWords Go.Proofs.YtdlekcdedahbhaaW.PrintLast Go.Proofs.YtdlekcdedahbhaaW.PrintMore
attribute [local go_sem] max2_int min2_int max_two min_two max_three min_three max_four min_four   -- for this text's walks alone
set_option linter.unusedVariables false
set_option linter.unusedSimpArgs false
end Go.Proofs.Ytdlekcdedahbhaa.Q
namespace Go.Proofs.Ytdlekcdedahbhaa.Q
open Go.RowKit Go.Proofs.YtdlekcdedahbhaaW.PrintWords Go.Proofs.YtdlekcdedahbhaaW.PrintLast Go.Proofs.YtdlekcdedahbhaaW.PrintMore
attribute [local go_sem] max2_int min2_int max_two min_two max_three min_three max_four min_four   -- for this text's walks alone
set_option linter.unusedVariables false
set_option linter.unusedSimpArgs false
end Go.Proofs.Ytdlekcdedahbhaa.Q
namespace Go.Proofs.Ytdlekcdedahbhaa.Q
open Go.RowKit Go.Proofs.YtdlekcdedahbhaaW.PrintWords Go.Proofs.YtdlekcdedahbhaaW.PrintLast Go.Proofs.YtdlekcdedahbhaaW.PrintMore
attribute [local go_sem] max2_int min2_int max_two min_two max_three min_three max_four min_four   -- for this text's walks alone
set_option linter.unusedVariables false
set_option linter.unusedSimpArgs false
end Go.Proofs.Ytdlekcdedahbhaa.Q
namespace Go.Proofs.Ytdlekcdedahbhaa.Q
open Go.RowKit Go.Proofs.YtdlekcdedahbhaaW.PrintWords
set_option linter.unusedVariables false
set_option linter.unusedSimpArgs false
theorem mulb {m p A B : Int} (h1 : -A ≤ m) (h2 : m ≤ A) (h3 : 0 ≤ p) (h4 : p ≤ B) (hA : 0 ≤ A) : -(A * B) ≤ m * p ∧ m * p ≤ A * B := by
  have a1 : m * p ≤ A * p := Int.mul_le_mul_of_nonneg_right h2 h3
  have a2 : A * p ≤ A * B := Int.mul_le_mul_of_nonneg_left h4 hA
  have a3 : -A * p ≤ m * p := Int.mul_le_mul_of_nonneg_right h1 h3
  rw [Int.neg_mul] at a3
  omega
theorem tdb {x S : Int} (hS : 1 ≤ S) (B : Int) (h : -B ≤ x ∧ x ≤ B) : -B ≤ x.tdiv S ∧ x.tdiv S ≤ B := by
  have key : ∀ y : Int, 0 ≤ y → y ≤ B → 0 ≤ y.tdiv S ∧ y.tdiv S ≤ B := by
    intro y h0 h1
    rw [Int.tdiv_eq_ediv_of_nonneg h0]
    have := Int.ediv_le_self S h0
    have := Int.ediv_nonneg h0 (show 0 ≤ S by omega)
    omega
  by_cases h0 : 0 ≤ x
  · have := key x h0 h.2; omega
  · have h1 := key (-x) (by omega) (by omega)
    have h2 : (-x).tdiv S = -(x.tdiv S) := Int.neg_tdiv _ _
    omega
def sh (l : List Int) (m S : Int) : List Int := l.map fun p => (m * p).tdiv S
theorem sh_len (l : List Int) (m S : Int) : (sh l m S).length = l.length := by simp [sh]
theorem sh_bd (l : List Int) (m S : Int) (hS : 1 ≤ S) (hb : ∀ x ∈ l, 1 ≤ x ∧ x ≤ 1000) (hm : -100000 ≤ m ∧ m ≤ 100000) : ∀ x ∈ sh l m S, -100000000 ≤ x ∧ x ≤ 100000000 := by
  intro x hx
  obtain ⟨p, hp, rfl⟩ := List.mem_map.1 hx
  have h1 := hb p hp
  exact tdb hS 100000000 (mulb (A := 100000) (B := 1000) (by omega) (by omega) (by omega) (by omega) (by omega))
theorem sum_bd6 (l : List Int) (hl : l.length ≤ 6) (hb : ∀ x ∈ l, -100000000 ≤ x ∧ x ≤ 100000000) : -600000000 ≤ l.sum ∧ l.sum ≤ 600000000 := by
  have h := sum_bnd 100000000 (by omega) l hb
  have h4 : (100000000 : Int) * l.length ≤ 100000000 * 6 := Int.mul_le_mul_of_nonneg_left (by omega) (by omega)
  omega
theorem fDiv_l1 (l : List Int) (m S : Int) (hS : 1 ≤ S) (hl : l.length ≤ 6) (hb : ∀ x ∈ l, 1 ≤ x ∧ x ≤ 1000) (hm : -100000 ≤ m ∧ m ≤ 100000) : ∀ (d i : Nat), i + d = l.length → Ev (fun k => fee_Dividend.l1 k m ((sh l m S).take i) (m - ((sh l m S).take i).sum) S l (l.length : Int) (i : Int)) (sh l m S, m - (sh l m S).sum, 0)
  | 0, i, h => by
    refine Ev.up ?_
    simp only [fee_Dividend.l1, if_neg (show ¬ (i : Int) < (l.length : Int) by omega)]
    rw [List.take_of_length_le (by rw [sh_len]; omega)]
    exact Ev.now _
  | d + 1, i, h => by
    have ih := fDiv_l1 l m S hS hl hb hm d (i + 1) (by omega)
    have hbs := sh_bd l m S hS hb hm
    have e1 : i < (sh l m S).length := by rw [sh_len]; omega
    have hx := hb l[i] (List.getElem_mem _)
    have h1 := mulb (m := m) (p := l[i]) (A := 100000) (B := 1000) (by omega) (by omega) (by omega) (by omega) (by omega)
    have h2 := tdb hS 100000000 (x := m * l[i]) (by omega)
    have h3 := sum_bd6 ((sh l m S).take i) (by rw [List.length_take, sh_len]; omega) (fun x hx => hbs x (List.mem_of_mem_take hx))
    have e2 : (sh l m S)[i] = (m * l[i]).tdiv S := by simp [sh]
    rw [sum_take _ i e1, List.take_succ_eq_append_getElem e1, e2] at ih
    refine Ev.up ?_
    simp only [fee_Dividend.l1, if_pos (show (i : Int) < (l.length : Int) by omega), if_pos (show (0 : Int) ≤ (i : Int) by omega), wi i (by omega), rdI l i (by omega), if_neg (show ¬ S = 0 by omega)]
    simp only [if_pos (show ((sh l m S).take i).length < 17592186044416 by rw [List.length_take, sh_len]; omega)]
    rw [wr (x := m * l[i]) (by omega), wr (x := (m * l[i]).tdiv S) (by omega), wr (by omega)]
    rw [show m - ((sh l m S).take i).sum - (m * l[i]).tdiv S = m - (((sh l m S).take i).sum + (m * l[i]).tdiv S) by omega]
    exact ih
theorem sum_pos (l : List Int) (hb : ∀ x ∈ l, 1 ≤ x ∧ x ≤ 1000) : (l.length : Int) ≤ l.sum ∧ l.sum ≤ 1000 * l.length := by
  induction l with
  | nil => simp
  | cons x l ih =>
    have h1 := ih (fun y hy => hb y (List.mem_cons_of_mem _ hy))
    have h2 := hb x (List.mem_cons_self ..)
    simp only [List.sum_cons, List.length_cons]
    omega
theorem fDiv_l0 (l : List Int) (m : Int) (h0 : 0 < l.length) (hl : l.length ≤ 6) (hb : ∀ x ∈ l, 1 ≤ x ∧ x ≤ 1000) (hm : -100000 ≤ m ∧ m ≤ 100000) : ∀ (d i : Nat), i + d = l.length → Ev (fun k => fee_Dividend.l0 k l m (l.take i).sum l (l.length : Int) (i : Int)) (sh l m l.sum, m - (sh l m l.sum).sum, 0)
  | 0, i, h => by
    refine Ev.up ?_
    simp only [fee_Dividend.l0, if_neg (show ¬ (i : Int) < (l.length : Int) by omega)]
    rw [List.take_of_length_le (by omega)]
    have h1 := fDiv_l1 l m l.sum (by have := sum_pos l hb; omega) hl hb hm l.length 0 (by omega)
    simpa using h1
  | d + 1, i, h => by
    have ih := fDiv_l0 l m h0 hl hb hm d (i + 1) (by omega)
    have h3 := sum_pos (l.take i) (fun x hx => hb x (List.mem_of_mem_take hx))
    rw [List.length_take] at h3
    have hx := hb l[i] (List.getElem_mem _)
    rw [sum_take l i (by omega)] at ih
    refine Ev.up ?_
    simp only [fee_Dividend.l0, if_pos (show (i : Int) < (l.length : Int) by omega), if_pos (show (0 : Int) ≤ (i : Int) by omega), wi i (by omega), rdI l i (by omega)]
    rw [wr (by omega)]
    exact ih
def ownE (l : List Int) (m : Int) : Int := if l.length > 6 then 5 else if l.length = 0 then 7 else if inB 1 1000 l then (if inB (-100000) 100000 [m] then 0 else 3) else 2
theorem ownE_zero {l : List Int} {m : Int} (h : ownE l m = 0) : l.length ≤ 6 ∧ 0 < l.length ∧ (∀ x ∈ l, 1 ≤ x ∧ x ≤ 1000) ∧ (-100000 ≤ m ∧ m ≤ 100000) := by
  unfold ownE at h
  by_cases h1 : l.length > 6
  · simp [h1] at h
  · rw [if_neg h1] at h
    by_cases h2 : l.length = 0
    · simp [h2] at h
    · rw [if_neg h2] at h
      cases h3 : inB 1 1000 l
      · simp [h3] at h
      · rw [h3] at h
        cases h4 : inB (-100000) 100000 [m]
        · simp [h4] at h
        · have h5 := (inB_iff _ _ _).1 h4 m (by simp)
          exact ⟨by omega, by omega, (inB_iff _ _ _).1 h3, h5⟩
def divS (l : List Int) (m : Int) : List Int := if ownE l m = 0 then sh l m l.sum else []
def divR (l : List Int) (m : Int) : Int := if ownE l m = 0 then m - (sh l m l.sum).sum else 0
theorem Div_f (l : List Int) (m : Int) : Ev (fun k => fee_Dividend.f k l m) (divS l m, divR l m, ownE l m) := by
  by_cases h0 : ownE l m = 0
  · obtain ⟨h1, h2, h3, h4⟩ := ownE_zero h0
    have e1 : inB 1 1000 l = true := (inB_iff _ _ _).2 h3
    have e2 : inB (-100000) 100000 [m] = true := (inB_iff _ _ _).2 (by intro n hn; simp at hn; subst hn; exact h4)
    unfold fee_Dividend.f divS divR
    rw [h0]
    simp only [if_neg (show ¬ (l.length : Int) > 6 by omega), if_neg (show ¬ (l.length : Int) = 0 by omega), fee_within.f, Option.bind_some, e1, e2, if_true]
    simpa using fDiv_l0 l m h2 h1 h3 h4 l.length 0 (by omega)
  · unfold fee_Dividend.f divS divR
    rw [if_neg h0, if_neg h0]
    unfold ownE at h0 ⊢
    simp only [fee_within.f, Option.bind_some]
    by_cases h1 : l.length > 6
    · simp only [if_pos h1, if_pos (show (l.length : Int) > 6 by omega)]
      exact Ev.now _
    · simp only [if_neg h1, if_neg (show ¬ (l.length : Int) > 6 by omega)] at h0 ⊢
      by_cases h2 : l.length = 0
      · simp only [if_pos h2, if_pos (show (l.length : Int) = 0 by omega)]
        exact Ev.now _
      · simp only [if_neg h2, if_neg (show ¬ (l.length : Int) = 0 by omega)] at h0 ⊢
        cases h3 : inB 1 1000 l
        · simpa using Ev.now (([] : List Int), (0 : Int), (2 : Int))
        · cases h4 : inB (-100000) 100000 [m]
          · simpa using Ev.now (([] : List Int), (0 : Int), (3 : Int))
          · simp [h3, h4] at h0
end Go.Proofs.Ytdlekcdedahbhaa.Q
namespace Go.Proofs.Ytdlekcdedahbhaa.Q
open Go.RowKit Go.Proofs.YtdlekcdedahbhaaW.PrintWords
set_option linter.unusedVariables false
set_option linter.unusedSimpArgs false
theorem sh_neg (l : List Int) (m S : Int) : sh l (-m) S = (sh l m S).map fun x => -x := by
  simp only [sh, List.map_map]
  refine List.map_congr_left fun p _ => ?_
  simp only [Function.comp]
  rw [Int.neg_mul, Int.neg_tdiv]
theorem sum_negs : ∀ l : List Int, (l.map fun x => -x).sum = -l.sum
  | [] => by simp
  | x :: l => by
    rw [List.map_cons, List.sum_cons, List.sum_cons, sum_negs l]
    omega
theorem sh_sum (m S : Int) (hm : 0 ≤ m) (hS : 1 ≤ S) : ∀ l : List Int, (∀ x ∈ l, 1 ≤ x ∧ x ≤ 1000) → (sh l m S).sum * S ≤ m * l.sum ∧ m * l.sum ≤ (sh l m S).sum * S + (l.length : Int) * (S - 1) ∧ 0 ≤ (sh l m S).sum
  | [], _ => by simp [sh]
  | x :: l, h => by
    obtain ⟨h1, h2, h3⟩ := sh_sum m S hm hS l (fun y hy => h y (List.mem_cons_of_mem _ hy))
    have hx := h x (List.mem_cons_self ..)
    have h0 : 0 ≤ m * x := Int.mul_nonneg hm (by omega)
    have e : sh (x :: l) m S = (m * x).tdiv S :: sh l m S := rfl
    rw [e, List.sum_cons, List.sum_cons, List.length_cons, Int.tdiv_eq_ediv_of_nonneg h0, Int.add_mul, Int.mul_add, Int.natCast_add, Int.add_mul]
    have q1 := Int.mul_ediv_add_emod (m * x) S
    have q2 := Int.emod_nonneg (m * x) (show S ≠ 0 by omega)
    have q3 := Int.emod_lt_of_pos (m * x) (show 0 < S by omega)
    have q4 := Int.ediv_nonneg h0 (show 0 ≤ S by omega)
    rw [Int.mul_comm S] at q1
    generalize (m * x) / S * S = a at *
    generalize m * x = b at *
    generalize (sh l m S).sum * S = c at *
    generalize m * l.sum = d at *
    generalize (l.length : Int) * (S - 1) = f at *
    have e2 : ((1 : Nat) : Int) * (S - 1) = S - 1 := by simp
    rw [e2]
    omega
theorem rest_bd (l : List Int) (m : Int) (hm : 0 ≤ m) (h0 : 0 < l.length) (h : ∀ x ∈ l, 1 ≤ x ∧ x ≤ 1000) : 0 ≤ m - (sh l m l.sum).sum ∧ m - (sh l m l.sum).sum < (l.length : Int) := by
  have hp := sum_pos l h
  have hS : 1 ≤ l.sum := by omega
  obtain ⟨h1, h2, h3⟩ := sh_sum m l.sum hm hS l h
  generalize (sh l m l.sum).sum = s at *
  have k1 : s ≤ m := Int.le_of_mul_le_mul_right h1 (by omega)
  refine ⟨by omega, ?_⟩
  have k2 : (m - s) * l.sum ≤ (l.length : Int) * (l.sum - 1) := by rw [Int.sub_mul]; omega
  have k3 : (l.length : Int) * (l.sum - 1) < (l.length : Int) * l.sum := by rw [Int.mul_sub]; omega
  exact Int.lt_of_mul_lt_mul_right (Int.lt_of_le_of_lt k2 k3) (by omega)
theorem sh_mono (m S x y : Int) (hm : 0 ≤ m) (hS : 1 ≤ S) (hx : 1 ≤ x) (h : x ≤ y) : (m * x).tdiv S ≤ (m * y).tdiv S := by
  rw [Int.tdiv_eq_ediv_of_nonneg (Int.mul_nonneg hm (by omega)), Int.tdiv_eq_ediv_of_nonneg (Int.mul_nonneg hm (by omega))]
  exact Int.ediv_le_ediv (by omega) (Int.mul_le_mul_of_nonneg_left h hm)
theorem ownE_ok (l : List Int) (m : Int) (h0 : 0 < l.length) (h6 : l.length ≤ 6) (h : ∀ x ∈ l, 1 ≤ x ∧ x ≤ 1000) (hm : -100000 ≤ m ∧ m ≤ 100000) : ownE l m = 0 := by
  unfold ownE
  rw [if_neg (by omega), if_neg (by omega), if_pos ((inB_iff 1 1000 l).2 h), if_pos ((inB_iff _ _ _).2 (by simpa using hm))]
theorem ints_f (l : List Int) (h : l.length ≤ 1000) : lw_ints.f l = some l := by
  simp only [lw_ints.f, Option.bind_some, List.length_nil, Nat.zero_add, List.nil_append]
  rw [if_pos (by omega)]
structure Pts (l : List Int) : Prop where
  n0 : 0 < l.length
  n6 : l.length ≤ 6
  b : ∀ x ∈ l, 1 ≤ x ∧ x ≤ 1000
theorem rd_sh (l : List Int) (m S : Int) (i : Nat) (h : i < l.length) : rd (sh l m S) (i : Int) = (m * rd l (i : Int)).tdiv S := by
  simp [rd, sh, h]
theorem rd_neg (l : List Int) (i : Nat) (h : i < l.length) : rd (l.map fun x => -x) (i : Int) = -(rd l (i : Int)) := by
  simp [rd, h]
theorem rd_mem (l : List Int) (i : Nat) (h : i < l.length) : rd l (i : Int) ∈ l := by
  rw [rdI l i h]
  exact List.getElem_mem _
theorem Own_l2 (l : List Int) (P : Pts l) (m : Int) (hm : 0 ≤ m ∧ m ≤ 65535) (x12 : List Int) (x15 : Int) (i : Nat) (hi : i < l.length) (hR : Ev (fun k => lw_FeeOwners.l1 k l m (sh l m l.sum) x12 x15 ((i + 1 : Nat) : Int)) true) :
    ∀ (d j : Nat), j + d = i → Ev (fun k => lw_FeeOwners.l2 k l m (sh l m l.sum) x12 x15 (i : Int) (j : Int)) true
  | 0, j, h => by
    have := P.n6
    refine Ev.up ?_
    simp only [lw_FeeOwners.l2, if_neg (show ¬ (j : Int) < (i : Int) by omega), wi i (by omega)]
    exact hR
  | d + 1, j, h => by
    have ih := Own_l2 l P m hm x12 x15 i hi hR d (j + 1) (by omega)
    have h6 := P.n6
    have hp := sum_pos l P.b
    have h0 := P.n0
    have hl := sh_len l m l.sum
    have ai := P.b _ (rd_mem l i hi)
    have aj := P.b _ (rd_mem l j (by omega))
    have ei := rd_sh l m l.sum i hi
    have ej := rd_sh l m l.sum j (by omega)
    have m1 := fun h => sh_mono m l.sum (rd l (i : Int)) (rd l (j : Int)) hm.1 (by omega) ai.1 h
    have m2 := fun h => sh_mono m l.sum (rd l (j : Int)) (rd l (i : Int)) hm.1 (by omega) aj.1 h
    rw [← ei, ← ej] at m1 m2
    refine Ev.up ?_
    simp only [lw_FeeOwners.l2, if_pos (show (j : Int) < (i : Int) by omega), if_pos (show (0 : Int) ≤ (j : Int) by omega), if_pos (show (j : Int) < (l.length : Int) by omega), if_pos (show (0 : Int) ≤ (i : Int) by omega), if_pos (show (i : Int) < (l.length : Int) by omega), hl, wi j (by omega)]
    by_cases c1 : rd l (j : Int) ≥ rd l (i : Int)
    · have n1 : ¬ rd (sh l m l.sum) (j : Int) < rd (sh l m l.sum) (i : Int) := by have := m1 c1; omega
      simp only [if_pos c1, if_neg n1]
      by_cases c2 : rd l (i : Int) ≥ rd l (j : Int)
      · have n2 : ¬ rd (sh l m l.sum) (i : Int) < rd (sh l m l.sum) (j : Int) := by have := m2 c2; omega
        simp only [if_pos c2, if_neg n2]
        exact ih
      · simp only [if_neg c2]
        exact ih
    · have c2 : rd l (i : Int) ≥ rd l (j : Int) := by omega
      have n2 : ¬ rd (sh l m l.sum) (i : Int) < rd (sh l m l.sum) (j : Int) := by have := m2 c2; omega
      simp only [if_neg c1, if_pos c2, if_neg n2]
      exact ih
theorem Own_l1 (l : List Int) (P : Pts l) (m : Int) (hm : 0 ≤ m ∧ m ≤ 65535) : ∀ (d i : Nat), i + d = l.length → Ev (fun k => lw_FeeOwners.l1 k l m (sh l m l.sum) ((sh l m l.sum).map fun x => -x) (m - (sh l m l.sum).sum + ((sh l m l.sum).take i).sum) (i : Int)) true
  | 0, i, h => by
    have hl := sh_len l m l.sum
    refine Ev.up ?_
    simp only [lw_FeeOwners.l1, if_neg (show ¬ (i : Int) < (l.length : Int) by omega)]
    rw [List.take_of_length_le (by omega)]
    rw [if_pos (by omega), known_f]
    exact Ev.now true
  | d + 1, i, h => by
    have ih := Own_l1 l P m hm d (i + 1) (by omega)
    have h6 := P.n6
    have hp := sum_pos l P.b
    have h0 := P.n0
    have hl := sh_len l m l.sum
    have hln : ((sh l m l.sum).map fun x => -x).length = l.length := by rw [List.length_map, hl]
    have hb := sh_bd l m l.sum (by omega) P.b (by omega)
    have b1 := hb _ (rd_mem (sh l m l.sum) i (by omega))
    have hs := sum_bd6 (sh l m l.sum) (by omega) hb
    have ht := sum_bd6 ((sh l m l.sum).take i) (by rw [List.length_take]; omega) (fun x hx => hb x (List.mem_of_mem_take hx))
    have ei := rd_sh l m l.sum i (by omega)
    have ai := P.b _ (rd_mem l i (by omega))
    have en := rd_neg (sh l m l.sum) i (by omega)
    have nn : ¬ rd (sh l m l.sum) (i : Int) < 0 := by
      rw [ei, Int.tdiv_eq_ediv_of_nonneg (Int.mul_nonneg hm.1 (by omega))]
      have := Int.ediv_nonneg (Int.mul_nonneg hm.1 (show 0 ≤ rd l (i : Int) by omega)) (show 0 ≤ l.sum by omega)
      omega
    have e2 : wrap64 (-(rd (sh l m l.sum) (i : Int))) = -(rd (sh l m l.sum) (i : Int)) := wr (by omega)
    rw [sum_take _ i (by omega), ← rdI _ i (by omega)] at ih
    refine Ev.up ?_
    simp only [lw_FeeOwners.l1, if_pos (show (i : Int) < (l.length : Int) by omega), if_pos (show (0 : Int) ≤ (i : Int) by omega), hl, hln, en, e2, if_true, decide_eq_false nn]
    refine Ev.up ?_
    simp only [lw_FeeOwners.j4, Bool.false_eq_true, if_false, if_pos (show (0 : Int) ≤ (i : Int) by omega), hl, if_pos (show (i : Int) < (l.length : Int) by omega)]
    rw [wr (by omega), Int.add_assoc]
    exact Own_l2 l P m hm _ _ i (by omega) ih i 0 (by omega)
theorem Own_end (x0 l : List Int) (P : Pts l) (m i : Int) (hm : 0 ≤ m ∧ m ≤ 65535) : Ev (fun k => lw_FeeOwners.j1 k x0 l m i false) true := by
  have h6 := P.n6
  have h0 := P.n0
  have hp := sum_pos l P.b
  have hl := sh_len l m l.sum
  have o1 := ownE_ok l m h0 h6 P.b (by omega)
  have o2 := ownE_ok l (-m) h0 h6 P.b (by omega)
  have D1 := Div_f l m
  have D2 := Div_f l (-m)
  have hb := rest_bd l m hm.1 h0 P.b
  simp only [divS, divR, o1, o2, if_true] at D1 D2
  rw [sh_neg, sum_negs] at D2
  have e1 : wrap64 (-m) = -m := wr (by omega)
  have e2 : wrap64 (-(m - (sh l m l.sum).sum)) = -(m - (sh l m l.sum).sum) := wr (by omega)
  refine Ev.up ?_
  simp only [lw_FeeOwners.j1, Bool.false_eq_true, if_false, ints_f l (by omega), Option.bind_some, e1]
  refine Ev.bind D1 ?_
  refine Ev.bind D2 ?_
  simp only [if_true, hl, List.length_map, e2, if_pos (show -m - -(sh l m l.sum).sum = -(m - (sh l m l.sum).sum) by omega), if_neg (show ¬ m - (sh l m l.sum).sum < 0 by omega), decide_eq_false (show ¬ m - (sh l m l.sum).sum ≥ (l.length : Int) by omega)]
  refine Ev.up ?_
  simp only [lw_FeeOwners.j2, Bool.false_eq_true, if_false]
  have h := Own_l1 l P m hm l.length 0 (by omega)
  simpa using h
theorem Own_l0 (x0 : List Int) (hx : ∀ x ∈ x0, 0 ≤ x ∧ x ≤ 65535) (m : Int) (hm : 0 ≤ m ∧ m ≤ 65535) : ∀ (d i : Nat) (l : List Int), i + d = 6 → l.length = i → (∀ x ∈ l, 1 ≤ x ∧ x ≤ 1000) → Ev (fun k => lw_FeeOwners.l0 k x0 l m (i : Int)) true
  | 0, i, l, h, hl, hb => by
    refine Ev.up ?_
    simp only [lw_FeeOwners.l0, if_neg (show ¬ (i : Int) < 6 by omega)]
    exact Own_end x0 l ⟨by omega, by omega, hb⟩ m _ hm
  | d + 1, i, l, h, hl, hb => by
    have add : ∀ n : Int, 1 ≤ n ∧ n ≤ 1000 → Ev (fun k => lw_FeeOwners.l0 k x0 (l ++ [n]) m ((i + 1 : Nat) : Int)) true := fun n hn => by
      refine Own_l0 x0 hx m hm d (i + 1) (l ++ [n]) (by omega) (by rw [List.length_append, List.length_singleton]; omega) ?_
      intro x hx
      rcases List.mem_append.1 hx with hx | hx
      · exact hb x hx
      · rw [List.mem_singleton.1 hx]; exact hn
    have body : (i = 0 ∨ i < x0.length) → Ev (fun k => lw_FeeOwners.j1 k x0 l m (i : Int) true) true := fun hc => by
      refine Ev.up ?_
      simp only [lw_FeeOwners.j1, if_true, if_pos (show l.length < 17592186044416 by omega), wi i (by omega)]
      by_cases c : i < x0.length
      · have h1 := hx _ (rd_mem x0 i c)
        have h2 : (rd x0 (i : Int)).tmod 1000 = rd x0 (i : Int) % 1000 := Int.tmod_eq_emod_of_nonneg h1.1
        have h3 : 0 ≤ rd x0 (i : Int) % 1000 ∧ rd x0 (i : Int) % 1000 < 1000 := by omega
        simp only [if_pos (show (i : Int) < (x0.length : Int) by omega), if_pos (show (0 : Int) ≤ (i : Int) by omega)]
        rw [wr (x := rd x0 (i : Int)) (by omega), h2, wr (by omega)]
        exact add _ (by omega)
      · simp only [if_neg (show ¬ (i : Int) < (x0.length : Int) by omega)]
        exact add 1 (by omega)
    refine Ev.up ?_
    simp only [lw_FeeOwners.l0, if_pos (show (i : Int) < 6 by omega)]
    by_cases c0 : i = 0
    · simp only [if_pos (show (i : Int) = 0 by omega)]
      exact body (Or.inl c0)
    · simp only [if_neg (show ¬ (i : Int) = 0 by omega)]
      by_cases c : i < x0.length
      · simp only [decide_eq_true (show (i : Int) < (x0.length : Int) by omega)]
        exact body (Or.inr c)
      · simp only [decide_eq_false (show ¬ (i : Int) < (x0.length : Int) by omega)]
        exact Own_end x0 l ⟨by omega, by omega, hb⟩ m _ hm
theorem FeeOwners_pure (l0 : List Int) (a1 : Int) (w0 : ∀ x_ ∈ l0, (Lit.int .u16 x_).wf = true) (w1 : (Lit.int .u16 a1).wf = true) : ∃ k, lw_FeeOwners.f k l0 a1 = some true := by
  have u : ∀ x : Int, (Lit.int .u16 x).wf = true → 0 ≤ x ∧ x ≤ 65535 := fun x h => by
    simp only [Lit.wf, Bool.and_eq_true, decide_eq_true_eq] at h
    exact h
  have hm := u a1 w1
  have h := Own_l0 l0 (fun x hx => u x (w0 x hx)) a1 hm 6 0 [] (by omega) rfl (fun x hx => by cases hx)
  have e : Ev (fun k => lw_FeeOwners.f k l0 a1) true := by
    unfold lw_FeeOwners.f
    rw [wr (by omega)]
    exact h
  exact e.rounds
end Go.Proofs.Ytdlekcdedahbhaa.Q
