/- Functions printed by the kit's printer over these walks, and the plain law. No condition. -/
import Derived.Test.YtemingmeidmjkaaDoorX0
import Derived.Test.YtemingmeidmjkaaDoorGWoolTruth0
import Derived.Test.YtemingmeidmjkaaDoorGWoolTruth1
import Derived.WalkKit
import Derived.ProofKit
import Derived.OpenShut
import Derived.ShutString
import Derived.ChangeOld
import Derived.Below
import Derived.SizedLaws
import Derived.ChangeArms
import Derived.WideShapes
import Derived.Carry
import Derived.Test.YtemingmeidmjkaaDoorX2
import Derived.Test.YtemingmeidmjkaaDoorX3
import Derived.Test.YtemingmeidmjkaaDoorX1
import Derived.Test.YtemingmeidmjkaaDoorRows
import Derived.LaidLaws
import Derived.LaidHandle
import Derived.Handed
import Derived.ChangeSame
set_option linter.unusedVariables false
set_option linter.unusedSimpArgs false
namespace Go.Proofs.YtemingmeidmjkaaDoor.Q
open Go.RowKit Go.Proofs.YtemingmeidmjkaaDoorW.PrintWords Go.Proofs.YtemingmeidmjkaaDoorW.PrintLast Go.Proofs.YtemingmeidmjkaaDoorW.PrintMore
attribute [local go_sem] max2_int min2_int max_two min_two max_three min_three max_four min_four   -- for this text's walks alone
set_option linter.unusedVariables false
set_option linter.unusedSimpArgs false
mutual
def lw_WoolTruth.j0 : Nat → List Int → List Int → List (S41) → List (S41) → Bool → Option (Bool)
 | 0, _, _, _, _, _ => none
 | k + 1, x4, x5, x7, x9, x110 => if x110 = true then (none) else (lw_WoolTruth.l0 k x4 x5 x7 x9 0)
def lw_WoolTruth.l0 : Nat → List Int → List Int → List (S41) → List (S41) → Int → Option (Bool)
 | 0, _, _, _, _, _ => none
 | k + 1, x4, x5, x7, x9, x17 => if x17 < (x4.length : Int) then (if 0 ≤ x17 then (if x17 < (x7.length : Int) then ((lw_in.f (rd x4 x17) ((rd_T41 x7 x17).f0) ((rd_T41 x7 x17).f1)).bind fun t756 => (if t756 = true then (if ((rd_T41 x7 x17).f0) < 0 then (none) else (if ((rd_T41 x7 x17).f1) > 400 then (none) else (if x17 > 0 then (if 0 ≤ (wrap64 (x17 - 1)) then (if (wrap64 (x17 - 1)) < (x7.length : Int) then (if ((rd_T41 x7 x17).f0) > ((rd_T41 x7 (wrap64 (x17 - 1))).f0) then (none) else (lw_WoolTruth.j2 k x4 x5 x7 x9 x17 (decide (((rd_T41 x7 x17).f1) > ((rd_T41 x7 (wrap64 (x17 - 1))).f1))))) else (none)) else (none)) else (lw_WoolTruth.j2 k x4 x5 x7 x9 x17 false)))) else (none))) else (none)) else (none)) else ((lw_known.f).bind fun t753 => (some t753))
def lw_WoolTruth.j2 : Nat → List Int → List Int → List (S41) → List (S41) → Int → Bool → Option (Bool)
 | 0, _, _, _, _, _, _ => none
 | k + 1, x4, x5, x7, x9, x17, x174 => if x174 = true then (none) else (if x17 < (x5.length : Int) then (if 0 ≤ x17 then (if x17 < (x9.length : Int) then ((lw_in.f (rd x5 x17) ((rd_T41 x9 x17).f0) ((rd_T41 x9 x17).f1)).bind fun t765 => (if t765 = true then (lw_WoolTruth.l0 k x4 x5 x7 x9 (wrap64 (x17 + 1))) else (none))) else (none)) else (none)) else (lw_WoolTruth.l0 k x4 x5 x7 x9 (wrap64 (x17 + 1))))
end
def lw_WoolTruth.f (k : Nat) (l0_0 : List (S76)) (a0_1 : Int) (l0_2 : List Int) (l0_3 : List (S136)) : Option (Bool) := (lw_Cart_road.f k l0_0 a0_1 l0_2 l0_3).bind fun bt683 => ((lw_Cart_lived.f k l0_0 a0_1 l0_2 l0_3 bt683.1 bt683.2 (-1) 0).bind fun bt690 => ((lw_Cart_weighed.f k l0_0 a0_1 l0_2 l0_3 bt683.1 bt683.2 bt690.1 ([] : List Int)).bind fun bt697 => ((lw_own.f bt697.1 bt697.2).bind fun bt703 => ((wool_Weights.f bt703.1 bt703.2).bind fun bt709 => ((lw_own.f bt697.1 bt697.2).bind fun bt713 => ((wool_Flocks.f bt713.1 bt713.2).bind fun bt719 => ((lw_own.f bt697.1 bt697.2).bind fun bt723 => ((wool_Missing.f bt723.1 bt723.2).bind fun bt729 => ((lw_own.f bt697.1 bt697.2).bind fun bt733 => ((wool_Where.f bt733.1 bt733.2).bind fun bt739 => ((lw_own.f bt697.1 bt697.2).bind fun bt743 => ((wool_Wrong.f bt743.1 bt743.2).bind fun bt749 => (if bt709.2 = 0 then (if bt719.2 = 0 then (if bt729.2.2 = 0 then (if bt739.2 = 6 then (if bt749.2 = 6 then (if (bt709.1.length : Int) = (bt690.1.length : Int) then (if (bt719.1.length : Int) = (bt690.2.1.length : Int) then (if (wrap64 ((bt739.1.length : Int) + (bt749.1.length : Int))) = 0 then (if bt729.1 = 0 then (lw_WoolTruth.j0 k bt690.1 bt690.2.1 bt709.1 bt719.1 (decide (bt729.2.1 < 0))) else (none)) else (none)) else (none)) else (none)) else (none)) else (none)) else (none)) else (none)) else (none))))))))))))))
def lw_WoolTruth.T14 : Bool × List (List Nat × List Nat) := (true, [([], []), ([], []), ([0, 1], [0, 1]), ([2], [2]), ([], []), ([], []), ([4, 5], [4, 5]), ([6], [6]), ([3, 7], [3, 7]), ([8], [8]), ([9, 8], [9]), ([10], [10]), ([10], [10]), ([11, 12, 10], [10, 11, 12]), ([13, 10], [10, 13]), ([14, 10], [10, 14]), ([15, 10], [10, 15]), ([10, 16], [10, 16]), ([17, 10], [17]), ([18], [18]), ([18], [18]), ([19, 20, 18], [18, 19, 20]), ([21, 18], [18, 21]), ([22, 18], [18, 22]), ([23, 18], [18, 23]), ([18, 24], [18, 24]), ([25, 18], [25]), ([26], [26]), ([27, 26], [26, 27]), ([28, 26, 26], [26, 28]), ([29], [29]), ([29], [29]), ([30, 31, 29], [29, 30, 31]), ([32, 29], [29, 32]), ([33, 29], [29, 33]), ([29], [29]), ([29], [29]), ([36, 29], [29, 36]), ([35, 37, 29], [29, 35, 37]), ([38, 29], [29, 38]), ([39, 29], [29, 39]), ([34, 40, 29], [29, 34, 40]), ([41, 29, 29], [29, 41]), ([42], [42]), ([42], [42]), ([43, 44, 42], [42, 43, 44]), ([45, 42], [42, 45]), ([46, 42], [42, 46]), ([42], [42]), ([42], [42]), ([49, 42], [42, 49]), ([48, 50, 42], [42, 48, 50]), ([51, 42], [42, 51]), ([52, 42], [42, 52]), ([47, 53, 42], [42, 47, 53]), ([42, 54, 29], [29, 42, 54]), ([29, 55, 26], [26, 29, 55]), ([26, 56], [26, 56])])
def lw_WoolTruth.B14 : List Nat := [0, 0, 3, 7, 0, 0, 48, 112, 255, 511, 1023, 2047, 2047, 8191, 16383, 32767, 65535, 131071, 262143, 524287, 524287, 2097151, 4194303, 8388607, 16777215, 33554431, 67108863, 134217727, 268435455, 536870911, 1073741823, 1073741823, 4294967295, 8589934591, 17179869183, 1073741823, 1073741823, 69793218559, 241591910399, 516469817343, 1066225631231, 2199023255551, 4398046511103, 8796093022207, 8796093022207, 35184372088831, 70368744177663, 140737488355327, 8796093022207, 8796093022207, 571746046443519, 1979120929996799, 4230920743682047, 8734520371052543, 18014398509481983, 36028797018963967, 72057594037927935, 144115188075855871]
theorem lw_WoolTruth.tab14 : rtab .any (opsOf Tryd.f10 14) = lw_WoolTruth.T14 := by kernel_rfl
theorem lw_WoolTruth.bits14 : waitsOk lw_WoolTruth.T14.2 lw_WoolTruth.B14 = true := by kernel_rfl
def lw_WoolTruth.T16 : Bool × List (List Nat × List Nat) := (true, [([], []), ([], []), ([1], [1]), ([0, 2], [0, 2]), ([3], [3]), ([4], [4]), ([4], [4]), ([5, 6, 4], [4, 5, 6]), ([7, 4], [4, 7]), ([4], [4]), ([4], [4]), ([9, 10, 4], [4, 9, 10]), ([11, 4], [4, 11]), ([8, 12, 4, 4], [4, 8, 12]), ([13, 4], [4, 13]), ([4, 14], [4, 14])])
def lw_WoolTruth.B16 : List Nat := [0, 0, 2, 7, 15, 31, 31, 127, 255, 31, 31, 1567, 3615, 8191, 16383, 32767]
theorem lw_WoolTruth.tab16 : rtab .any (opsOf Tryd.f10 16) = lw_WoolTruth.T16 := by kernel_rfl
theorem lw_WoolTruth.bits16 : waitsOk lw_WoolTruth.T16.2 lw_WoolTruth.B16 = true := by kernel_rfl
set_option maxHeartbeats 8000000 in
set_option maxRecDepth 100000 in
theorem lw_WoolTruth.calls (k : Nat) (A0_0 : Option Addr) (c0_0 : Nat) (l0_0 : List (S76)) (a0_1 : Int) (A0_2 : Option Addr) (c0_2 : Nat) (l0_2 : List Int) (A0_3 : Option Addr) (c0_3 : Nat) (l0_3 : List (S136)) (r : Bool) (w : World) (hG : GL w) (hr0_0 : Kd.C k76 w A0_0 l0_0.length l0_0) (hc0_0 : l0_0.length ≤ c0_0) (hr0_2 : Kd.C (Kd.int .u8) w A0_2 l0_2.length l0_2) (hc0_2 : l0_2.length ≤ c0_2) (hr0_3 : Kd.C k136 w A0_3 l0_3.length l0_3) (hc0_3 : l0_3.length ≤ c0_3) (h : lw_WoolTruth.f k l0_0 a0_1 l0_2 l0_3 = some r) :
  Calls Tryd.prog 10 #[.agg #[.slice A0_0 l0_0.length c0_0, .int .u16 a0_1, .slice A0_2 l0_2.length c0_2, .slice A0_3 l0_3.length c0_3]] w fun e w' => e = .returned (.bool r) ∧ Below w.heap.size w w' := by
 have hu69 := Tryd.underlying69; have hu25 := Tryd.underlying25; have hu41 := Tryd.underlying41; have HR0_0 := Aside0.mk hr0_0; have HC0_0 := Aside0.mk hc0_0; clear hr0_0 hc0_0; have HR0_2 := Aside0.mk hr0_2; have HC0_2 := Aside0.mk hc0_2; clear hr0_2 hc0_2; have HR0_3 := Aside0.mk hr0_3; have HC0_3 := Aside0.mk hc0_3; clear hr0_3 hc0_3; have HB := Aside0.mk (Below.refl w.heap.size w); have HGL := Aside0.mk hG; clear hG; have H : ((lw_Cart_road.f k l0_0 a0_1 l0_2 l0_3).bind fun bt683 => ((lw_Cart_lived.f k l0_0 a0_1 l0_2 l0_3 bt683.1 bt683.2 (-1) 0).bind fun bt690 => ((lw_Cart_weighed.f k l0_0 a0_1 l0_2 l0_3 bt683.1 bt683.2 bt690.1 ([] : List Int)).bind fun bt697 => ((lw_own.f bt697.1 bt697.2).bind fun bt703 => ((wool_Weights.f bt703.1 bt703.2).bind fun bt709 => ((lw_own.f bt697.1 bt697.2).bind fun bt713 => ((wool_Flocks.f bt713.1 bt713.2).bind fun bt719 => ((lw_own.f bt697.1 bt697.2).bind fun bt723 => ((wool_Missing.f bt723.1 bt723.2).bind fun bt729 => ((lw_own.f bt697.1 bt697.2).bind fun bt733 => ((wool_Where.f bt733.1 bt733.2).bind fun bt739 => ((lw_own.f bt697.1 bt697.2).bind fun bt743 => ((wool_Wrong.f bt743.1 bt743.2).bind fun bt749 => (if bt709.2 = 0 then (if bt719.2 = 0 then (if bt729.2.2 = 0 then (if bt739.2 = 6 then (if bt749.2 = 6 then (if (bt709.1.length : Int) = (bt690.1.length : Int) then (if (bt719.1.length : Int) = (bt690.2.1.length : Int) then (if (wrap64 ((bt739.1.length : Int) + (bt749.1.length : Int))) = 0 then (if bt729.1 = 0 then (lw_WoolTruth.j0 k bt690.1 bt690.2.1 bt709.1 bt719.1 (decide (bt729.2.1 < 0))) else (none)) else (none)) else (none)) else (none)) else (none)) else (none)) else (none)) else (none)) else (none))))))))))))))) = some r := h; clear h; obtain ⟨⟨t683, t686⟩, A20, H⟩ := Option.bind_eq_some_iff.mp H; replace H : ((lw_Cart_lived.f k l0_0 a0_1 l0_2 l0_3 t683 t686 (-1) 0).bind fun bt690 => ((lw_Cart_weighed.f k l0_0 a0_1 l0_2 l0_3 t683 t686 bt690.1 ([] : List Int)).bind fun bt697 => ((lw_own.f bt697.1 bt697.2).bind fun bt703 => ((wool_Weights.f bt703.1 bt703.2).bind fun bt709 => ((lw_own.f bt697.1 bt697.2).bind fun bt713 => ((wool_Flocks.f bt713.1 bt713.2).bind fun bt719 => ((lw_own.f bt697.1 bt697.2).bind fun bt723 => ((wool_Missing.f bt723.1 bt723.2).bind fun bt729 => ((lw_own.f bt697.1 bt697.2).bind fun bt733 => ((wool_Where.f bt733.1 bt733.2).bind fun bt739 => ((lw_own.f bt697.1 bt697.2).bind fun bt743 => ((wool_Wrong.f bt743.1 bt743.2).bind fun bt749 => (if bt709.2 = 0 then (if bt719.2 = 0 then (if bt729.2.2 = 0 then (if bt739.2 = 6 then (if bt749.2 = 6 then (if (bt709.1.length : Int) = (bt690.1.length : Int) then (if (bt719.1.length : Int) = (bt690.2.1.length : Int) then (if (wrap64 ((bt739.1.length : Int) + (bt749.1.length : Int))) = 0 then (if bt729.1 = 0 then (lw_WoolTruth.j0 k bt690.1 bt690.2.1 bt709.1 bt719.1 (decide (bt729.2.1 < 0))) else (none)) else (none)) else (none)) else (none)) else (none)) else (none)) else (none)) else (none)) else (none)))))))))))))) = some r := H; have A2 := Aside0.mk A20
 clear A20; obtain ⟨⟨t690, t693, t696⟩, A30, H⟩ := Option.bind_eq_some_iff.mp H; replace H : ((lw_Cart_weighed.f k l0_0 a0_1 l0_2 l0_3 t683 t686 t690 ([] : List Int)).bind fun bt697 => ((lw_own.f bt697.1 bt697.2).bind fun bt703 => ((wool_Weights.f bt703.1 bt703.2).bind fun bt709 => ((lw_own.f bt697.1 bt697.2).bind fun bt713 => ((wool_Flocks.f bt713.1 bt713.2).bind fun bt719 => ((lw_own.f bt697.1 bt697.2).bind fun bt723 => ((wool_Missing.f bt723.1 bt723.2).bind fun bt729 => ((lw_own.f bt697.1 bt697.2).bind fun bt733 => ((wool_Where.f bt733.1 bt733.2).bind fun bt739 => ((lw_own.f bt697.1 bt697.2).bind fun bt743 => ((wool_Wrong.f bt743.1 bt743.2).bind fun bt749 => (if bt709.2 = 0 then (if bt719.2 = 0 then (if bt729.2.2 = 0 then (if bt739.2 = 6 then (if bt749.2 = 6 then (if (bt709.1.length : Int) = (t690.length : Int) then (if (bt719.1.length : Int) = (t693.length : Int) then (if (wrap64 ((bt739.1.length : Int) + (bt749.1.length : Int))) = 0 then (if bt729.1 = 0 then (lw_WoolTruth.j0 k t690 t693 bt709.1 bt719.1 (decide (bt729.2.1 < 0))) else (none)) else (none)) else (none)) else (none)) else (none)) else (none)) else (none)) else (none)) else (none))))))))))))) = some r := H; have A3 := Aside0.mk A30; clear A30; obtain ⟨⟨t697, t700⟩, A40, H⟩ := Option.bind_eq_some_iff.mp H; replace H : ((lw_own.f t697 t700).bind fun bt703 => ((wool_Weights.f bt703.1 bt703.2).bind fun bt709 => ((lw_own.f t697 t700).bind fun bt713 => ((wool_Flocks.f bt713.1 bt713.2).bind fun bt719 => ((lw_own.f t697 t700).bind fun bt723 => ((wool_Missing.f bt723.1 bt723.2).bind fun bt729 => ((lw_own.f t697 t700).bind fun bt733 => ((wool_Where.f bt733.1 bt733.2).bind fun bt739 => ((lw_own.f t697 t700).bind fun bt743 => ((wool_Wrong.f bt743.1 bt743.2).bind fun bt749 => (if bt709.2 = 0 then (if bt719.2 = 0 then (if bt729.2.2 = 0 then (if bt739.2 = 6 then (if bt749.2 = 6 then (if (bt709.1.length : Int) = (t690.length : Int) then (if (bt719.1.length : Int) = (t693.length : Int) then (if (wrap64 ((bt739.1.length : Int) + (bt749.1.length : Int))) = 0 then (if bt729.1 = 0 then (lw_WoolTruth.j0 k t690 t693 bt709.1 bt719.1 (decide (bt729.2.1 < 0))) else (none)) else (none)) else (none)) else (none)) else (none)) else (none)) else (none)) else (none)) else (none)))))))))))) = some r := H; have A4 := Aside0.mk A40; clear A40; obtain ⟨⟨t703, t706⟩, A50, H⟩ := Option.bind_eq_some_iff.mp H; replace H : ((wool_Weights.f t703 t706).bind fun bt709 => ((lw_own.f t697 t700).bind fun bt713 => ((wool_Flocks.f bt713.1 bt713.2).bind fun bt719 => ((lw_own.f t697 t700).bind fun bt723 => ((wool_Missing.f bt723.1 bt723.2).bind fun bt729 => ((lw_own.f t697 t700).bind fun bt733 => ((wool_Where.f bt733.1 bt733.2).bind fun bt739 => ((lw_own.f t697 t700).bind fun bt743 => ((wool_Wrong.f bt743.1 bt743.2).bind fun bt749 => (if bt709.2 = 0 then (if bt719.2 = 0 then (if bt729.2.2 = 0 then (if bt739.2 = 6 then (if bt749.2 = 6 then (if (bt709.1.length : Int) = (t690.length : Int) then (if (bt719.1.length : Int) = (t693.length : Int) then (if (wrap64 ((bt739.1.length : Int) + (bt749.1.length : Int))) = 0 then (if bt729.1 = 0 then (lw_WoolTruth.j0 k t690 t693 bt709.1 bt719.1 (decide (bt729.2.1 < 0))) else (none)) else (none)) else (none)) else (none)) else (none)) else (none)) else (none)) else (none)) else (none))))))))))) = some r := H
 have A5 := Aside0.mk A50; clear A50; obtain ⟨⟨t709, t712⟩, A60, H⟩ := Option.bind_eq_some_iff.mp H; replace H : ((lw_own.f t697 t700).bind fun bt713 => ((wool_Flocks.f bt713.1 bt713.2).bind fun bt719 => ((lw_own.f t697 t700).bind fun bt723 => ((wool_Missing.f bt723.1 bt723.2).bind fun bt729 => ((lw_own.f t697 t700).bind fun bt733 => ((wool_Where.f bt733.1 bt733.2).bind fun bt739 => ((lw_own.f t697 t700).bind fun bt743 => ((wool_Wrong.f bt743.1 bt743.2).bind fun bt749 => (if t712 = 0 then (if bt719.2 = 0 then (if bt729.2.2 = 0 then (if bt739.2 = 6 then (if bt749.2 = 6 then (if (t709.length : Int) = (t690.length : Int) then (if (bt719.1.length : Int) = (t693.length : Int) then (if (wrap64 ((bt739.1.length : Int) + (bt749.1.length : Int))) = 0 then (if bt729.1 = 0 then (lw_WoolTruth.j0 k t690 t693 t709 bt719.1 (decide (bt729.2.1 < 0))) else (none)) else (none)) else (none)) else (none)) else (none)) else (none)) else (none)) else (none)) else (none)))))))))) = some r := H; have A6 := Aside0.mk A60; clear A60; obtain ⟨⟨t713, t716⟩, A70, H⟩ := Option.bind_eq_some_iff.mp H; replace H : ((wool_Flocks.f t713 t716).bind fun bt719 => ((lw_own.f t697 t700).bind fun bt723 => ((wool_Missing.f bt723.1 bt723.2).bind fun bt729 => ((lw_own.f t697 t700).bind fun bt733 => ((wool_Where.f bt733.1 bt733.2).bind fun bt739 => ((lw_own.f t697 t700).bind fun bt743 => ((wool_Wrong.f bt743.1 bt743.2).bind fun bt749 => (if t712 = 0 then (if bt719.2 = 0 then (if bt729.2.2 = 0 then (if bt739.2 = 6 then (if bt749.2 = 6 then (if (t709.length : Int) = (t690.length : Int) then (if (bt719.1.length : Int) = (t693.length : Int) then (if (wrap64 ((bt739.1.length : Int) + (bt749.1.length : Int))) = 0 then (if bt729.1 = 0 then (lw_WoolTruth.j0 k t690 t693 t709 bt719.1 (decide (bt729.2.1 < 0))) else (none)) else (none)) else (none)) else (none)) else (none)) else (none)) else (none)) else (none)) else (none))))))))) = some r := H; have A7 := Aside0.mk A70; clear A70; obtain ⟨⟨t719, t722⟩, A80, H⟩ := Option.bind_eq_some_iff.mp H; replace H : ((lw_own.f t697 t700).bind fun bt723 => ((wool_Missing.f bt723.1 bt723.2).bind fun bt729 => ((lw_own.f t697 t700).bind fun bt733 => ((wool_Where.f bt733.1 bt733.2).bind fun bt739 => ((lw_own.f t697 t700).bind fun bt743 => ((wool_Wrong.f bt743.1 bt743.2).bind fun bt749 => (if t712 = 0 then (if t722 = 0 then (if bt729.2.2 = 0 then (if bt739.2 = 6 then (if bt749.2 = 6 then (if (t709.length : Int) = (t690.length : Int) then (if (t719.length : Int) = (t693.length : Int) then (if (wrap64 ((bt739.1.length : Int) + (bt749.1.length : Int))) = 0 then (if bt729.1 = 0 then (lw_WoolTruth.j0 k t690 t693 t709 t719 (decide (bt729.2.1 < 0))) else (none)) else (none)) else (none)) else (none)) else (none)) else (none)) else (none)) else (none)) else (none)))))))) = some r := H; have A8 := Aside0.mk A80; clear A80; obtain ⟨⟨t723, t726⟩, A90, H⟩ := Option.bind_eq_some_iff.mp H; replace H : ((wool_Missing.f t723 t726).bind fun bt729 => ((lw_own.f t697 t700).bind fun bt733 => ((wool_Where.f bt733.1 bt733.2).bind fun bt739 => ((lw_own.f t697 t700).bind fun bt743 => ((wool_Wrong.f bt743.1 bt743.2).bind fun bt749 => (if t712 = 0 then (if t722 = 0 then (if bt729.2.2 = 0 then (if bt739.2 = 6 then (if bt749.2 = 6 then (if (t709.length : Int) = (t690.length : Int) then (if (t719.length : Int) = (t693.length : Int) then (if (wrap64 ((bt739.1.length : Int) + (bt749.1.length : Int))) = 0 then (if bt729.1 = 0 then (lw_WoolTruth.j0 k t690 t693 t709 t719 (decide (bt729.2.1 < 0))) else (none)) else (none)) else (none)) else (none)) else (none)) else (none)) else (none)) else (none)) else (none))))))) = some r := H
 have A9 := Aside0.mk A90; clear A90; obtain ⟨⟨t729, t730, t731⟩, A100, H⟩ := Option.bind_eq_some_iff.mp H; replace H : ((lw_own.f t697 t700).bind fun bt733 => ((wool_Where.f bt733.1 bt733.2).bind fun bt739 => ((lw_own.f t697 t700).bind fun bt743 => ((wool_Wrong.f bt743.1 bt743.2).bind fun bt749 => (if t712 = 0 then (if t722 = 0 then (if t731 = 0 then (if bt739.2 = 6 then (if bt749.2 = 6 then (if (t709.length : Int) = (t690.length : Int) then (if (t719.length : Int) = (t693.length : Int) then (if (wrap64 ((bt739.1.length : Int) + (bt749.1.length : Int))) = 0 then (if t729 = 0 then (lw_WoolTruth.j0 k t690 t693 t709 t719 (decide (t730 < 0))) else (none)) else (none)) else (none)) else (none)) else (none)) else (none)) else (none)) else (none)) else (none)))))) = some r := H; have A10 := Aside0.mk A100; clear A100; obtain ⟨⟨t733, t736⟩, A110, H⟩ := Option.bind_eq_some_iff.mp H; replace H : ((wool_Where.f t733 t736).bind fun bt739 => ((lw_own.f t697 t700).bind fun bt743 => ((wool_Wrong.f bt743.1 bt743.2).bind fun bt749 => (if t712 = 0 then (if t722 = 0 then (if t731 = 0 then (if bt739.2 = 6 then (if bt749.2 = 6 then (if (t709.length : Int) = (t690.length : Int) then (if (t719.length : Int) = (t693.length : Int) then (if (wrap64 ((bt739.1.length : Int) + (bt749.1.length : Int))) = 0 then (if t729 = 0 then (lw_WoolTruth.j0 k t690 t693 t709 t719 (decide (t730 < 0))) else (none)) else (none)) else (none)) else (none)) else (none)) else (none)) else (none)) else (none)) else (none))))) = some r := H; have A11 := Aside0.mk A110; clear A110; obtain ⟨⟨t739, t742⟩, A120, H⟩ := Option.bind_eq_some_iff.mp H; replace H : ((lw_own.f t697 t700).bind fun bt743 => ((wool_Wrong.f bt743.1 bt743.2).bind fun bt749 => (if t712 = 0 then (if t722 = 0 then (if t731 = 0 then (if t742 = 6 then (if bt749.2 = 6 then (if (t709.length : Int) = (t690.length : Int) then (if (t719.length : Int) = (t693.length : Int) then (if (wrap64 ((t739.length : Int) + (bt749.1.length : Int))) = 0 then (if t729 = 0 then (lw_WoolTruth.j0 k t690 t693 t709 t719 (decide (t730 < 0))) else (none)) else (none)) else (none)) else (none)) else (none)) else (none)) else (none)) else (none)) else (none)))) = some r := H; have A12 := Aside0.mk A120; clear A120; obtain ⟨⟨t743, t746⟩, A130, H⟩ := Option.bind_eq_some_iff.mp H; replace H : ((wool_Wrong.f t743 t746).bind fun bt749 => (if t712 = 0 then (if t722 = 0 then (if t731 = 0 then (if t742 = 6 then (if bt749.2 = 6 then (if (t709.length : Int) = (t690.length : Int) then (if (t719.length : Int) = (t693.length : Int) then (if (wrap64 ((t739.length : Int) + (bt749.1.length : Int))) = 0 then (if t729 = 0 then (lw_WoolTruth.j0 k t690 t693 t709 t719 (decide (t730 < 0))) else (none)) else (none)) else (none)) else (none)) else (none)) else (none)) else (none)) else (none)) else (none))) = some r := H; have A13 := Aside0.mk A130; clear A130; obtain ⟨⟨t749, t752⟩, A140, H⟩ := Option.bind_eq_some_iff.mp H; replace H : (if t712 = 0 then (if t722 = 0 then (if t731 = 0 then (if t742 = 6 then (if t752 = 6 then (if (t709.length : Int) = (t690.length : Int) then (if (t719.length : Int) = (t693.length : Int) then (if (wrap64 ((t739.length : Int) + (t749.length : Int))) = 0 then (if t729 = 0 then (lw_WoolTruth.j0 k t690 t693 t709 t719 (decide (t730 < 0))) else (none)) else (none)) else (none)) else (none)) else (none)) else (none)) else (none)) else (none)) else (none)) = some r := H
 have A14 := Aside0.mk A140; clear A140; have HC15 := Aside0.mk H; clear H; go_enter Tryd.func10, Tryd.ntmps10
 go_upto_region 9 with (first | ((with_reducible refine gate_dst (N := 1) rfl ?_); (try (refine gate_guard (by rfl) ?_; dsimp only)); refine box_event ?hg (N := 1) ?hd (cs := #[.slice A0_0 l0_0.length c0_0, .int .u16 a0_1, .slice A0_2 l0_2.length c0_2, .slice A0_3 l0_3.length c0_3]) (t := 69) ?hr ?_; (case hd => rfl); (case hg => rfl); (case hr => first | (go_simp; done) | (go_simp; rfl)); intro gb682 hg w16 hbox hb; have BK682 := Aside0.mk (hbox); have GW682 := Aside0.mk (sqZ hg HB); have GE682 := Aside0.mk (sqZ hg HB); replace HB := sqb hb HB; clear hb hbox hg; have hcz17_0 := sqc0 BK682; have hcz17_1 := sqc1 BK682; have hcz17_2 := sqc2 BK682; have hcz17_3 : w16.cell? ⟨gb682, 3, none⟩ = some (.slice A0_3 l0_3.length c0_3) := (blk_cell BK682.out 3).trans rfl; have hfz17_0 := blk_frozen BK682.out 0; have hfz17_1 := blk_frozen BK682.out 1; have hfz17_2 := blk_frozen BK682.out 2; have hfz17_3 := blk_frozen BK682.out 3) | ((with_reducible refine gate_callee (f := 45) rfl ?_); refine goesL_ (some 19) rfl rfl Tryd.func45 sqF rfl #[.agg #[.slice A0_0 l0_0.length c0_0, .int .u16 a0_1, .slice A0_2 l0_2.length c0_2, .slice A0_3 l0_3.length c0_3]] rfl sqM ?_; (with_reducible refine (lw_Cart_road.calls k _ _ l0_0 a0_1 _ _ l0_2 _ _ l0_3 t683 t686 _ ?side1 ?side2 ?side3 ?side4 ?side5 ?side6 A2.out).mono ?_); (case side1 => exact sqQ HR0_0 HB); (case side2 => exact HC0_0.out); (case side3 => exact sqQ HR0_2 HB); (case side4 => exact HC0_2.out); (case side5 => exact sqQ HR0_3 HB); (case side6 => exact HC0_3.out); rintro e w18 ⟨v684, v687, rfl, ho0, ho1, hb⟩; refine ⟨_, rfl, ?_⟩; have HO685 := Aside0.mk (Kd.R_lower ho0 (below_size (sqB HB))); have HO688 := Aside0.mk (Kd.R_lower ho1 (below_size (sqB HB))); replace BK682 := sqk BK682 hb; replace HB := sqb hb HB; (try clear hb); (try clear hb2); (try clear hk); (try clear hi); (try clear ho0); (try clear ho1)) | ((with_reducible refine gate_dst (N := 3) rfl ?_); (try (refine gate_guard (by rfl) ?_; dsimp only)); refine box_event ?hg (N := 3) ?hd (cs := #[.slice none 0 0, .slice none 0 0]) (t := 25) ?hr ?_; (case hd => rfl); (case hg => rfl); (case hr => first | (go_simp; done) | (go_simp; rfl)); intro gb689 hg w19 hbox hb; replace HO685 := Aside0.mk (Kd.R_below (sqR HO685) hb); replace HO688 := Aside0.mk (Kd.R_below (sqR HO688) hb); have BK689 := Aside0.mk (hbox); have GW689 := Aside0.mk (sqZ hg HB); have GE689 := Aside0.mk (sqZ hg HB); replace HB := sqb hb HB; have NB682_689 := Aside0.mk (sqL hg BK682); have NB689_682 := Aside0.mk (sqG hg BK682); replace BK682 := sqk BK682 hb; clear hb hbox hg; obtain ⟨Ao20, co20, eo20⟩ := Kd.R_slice HO685.out; subst eo20; have hnb21 := NB689_682.out; have hnc21 := NB682_689.out; have hcz22_0 := sqc0 BK689; have hcz22_1 := sqc1 BK689; have hfz22_0 := blk_frozen BK689.out 0; have hfz22_1 := blk_frozen BK689.out 1; obtain ⟨Ao23, co23, eo23⟩ := Kd.R_slice HO688.out; subst eo23; have hcz24_0 := sqc0 BK682; have hcz24_1 := sqc1 BK682; have hcz24_2 := sqc2 BK682; have hcz24_3 : w19.cell? ⟨gb682, 3, none⟩ = some (.slice A0_3 l0_3.length c0_3) := (blk_cell BK682.out 3).trans rfl; have hfz24_0 := blk_frozen BK682.out 0; have hfz24_1 := blk_frozen BK682.out 1; have hfz24_2 := blk_frozen BK682.out 2; have hfz24_3 := blk_frozen BK682.out 3) | ((with_reducible refine gate_callee (f := 46) rfl ?_); refine goesL_ (some 23) rfl rfl Tryd.func46 sqF rfl #[.agg #[.slice A0_0 l0_0.length c0_0, .int .u16 a0_1, .slice A0_2 l0_2.length c0_2, .slice A0_3 l0_3.length c0_3], .agg #[.slice Ao20 t683.length co20, .slice Ao23 t686.length co23], .int .i64 (-1), .int .i64 0] rfl sqM ?_; (with_reducible refine (lw_Cart_lived.calls k _ _ l0_0 a0_1 _ _ l0_2 _ _ l0_3 _ _ t683 _ _ t686 (-1) 0 t690 t693 t696 _ ?side1 ?side2 ?side3 ?side4 ?side5 ?side6 ?side7 ?side8 ?side9 ?side10 A3.out).mono ?_); (case side1 => exact Kd.C_below HR0_0.out (sqB HB)); (case side2 => exact HC0_0.out); (case side3 => exact Kd.C_below HR0_2.out (sqB HB)); (case side4 => exact HC0_2.out); (case side5 => exact Kd.C_below HR0_3.out (sqB HB)); (case side6 => exact HC0_3.out); (case side7 => refine (Kd.R_reads' (e := 41) (base := w.heap.size) (ok := fun k_ => True) (n := t683.length) (c := co20) ?_).2.2; exact (by (with_reducible repeat (first | apply Kd.R_alloc | apply Kd.R_drewN | apply Kd.R_drew)); exact (Kd.R_mono (Kd.R_far (p := ⟨gb689, 1, none⟩) (Kd.R_far (p := ⟨gb689, 0, none⟩) (Kd.R_types HO685.out BK689.out (by decide)) (fun _ hk => hk.2) (.slice Ao20 t683.length co20)) (fun _ hk => hk.2) (.slice Ao23 t686.length co23)) (fun _ h_ => h_.1)))); (case side8 => exact (Kd.R_reads' HO685.out).2.1); (case side9 => refine (Kd.R_reads' (e := 80) (base := w.heap.size) (ok := fun k_ => True) (n := t686.length) (c := co23) ?_).2.2; exact (by (with_reducible repeat (first | apply Kd.R_alloc | apply Kd.R_drewN | apply Kd.R_drew)); exact (Kd.R_mono (Kd.R_far (p := ⟨gb689, 1, none⟩) (Kd.R_far (p := ⟨gb689, 0, none⟩) (Kd.R_types HO688.out BK689.out (by decide)) (fun _ hk => hk.2) (.slice Ao20 t683.length co20)) (fun _ hk => hk.2) (.slice Ao23 t686.length co23)) (fun _ h_ => h_.1)))); (case side10 => exact (Kd.R_reads' HO688.out).2.1); rintro e w25 ⟨v691, v694, rfl, ho0, ho1, hb⟩; refine ⟨_, rfl, ?_⟩; replace HO685 := Aside0.mk (Kd.R_below (by (with_reducible repeat (first | apply Kd.R_alloc | apply Kd.R_drewN | apply Kd.R_drew)); exact (Kd.R_mono (Kd.R_far (p := ⟨gb689, 1, none⟩) (Kd.R_far (p := ⟨gb689, 0, none⟩) (Kd.R_types HO685.out BK689.out (by decide)) (fun _ hk => hk.2) (.slice Ao20 t683.length co20)) (fun _ hk => hk.2) (.slice Ao23 t686.length co23)) (fun _ h_ => h_.1))) hb); replace HO688 := Aside0.mk (Kd.R_below (by (with_reducible repeat (first | apply Kd.R_alloc | apply Kd.R_drewN | apply Kd.R_drew)); exact (Kd.R_mono (Kd.R_far (p := ⟨gb689, 1, none⟩) (Kd.R_far (p := ⟨gb689, 0, none⟩) (Kd.R_types HO688.out BK689.out (by decide)) (fun _ hk => hk.2) (.slice Ao20 t683.length co20)) (fun _ hk => hk.2) (.slice Ao23 t686.length co23)) (fun _ h_ => h_.1))) hb); have HO692 := Aside0.mk (Kd.R_lower ho0 (below_size (sqB HB))); have HO695 := Aside0.mk (Kd.R_lower ho1 (below_size (sqB HB))); replace BK682 := Aside0.mk (blk_below (g := gb682) (o := .cells #[.slice A0_0 l0_0.length c0_0, .int .u16 a0_1, .slice A0_2 l0_2.length c0_2, .slice A0_3 l0_3.length c0_3] 69 (0, 0)) sqX hb); replace BK689 := Aside0.mk (blk_below (g := gb689) (o := .cells #[.slice Ao20 t683.length co20, .slice Ao23 t686.length co23] 25 (0, 0)) (by (with_reducible repeat (first | refine blk_drewN ?_ _ | refine blk_drew ?_ | refine blk_alloc ?_ _)); refine blk_put (cs := #[.slice Ao20 t683.length co20, .slice none 0 0]) ?_ 1 _ rfl; (with_reducible repeat (first | refine blk_drewN ?_ _ | refine blk_drew ?_ | refine blk_alloc ?_ _)); refine blk_put (cs := #[.slice none 0 0, .slice none 0 0]) ?_ 0 _ rfl; (with_reducible repeat (first | refine blk_drewN ?_ _ | refine blk_drew ?_ | refine blk_alloc ?_ _)); exact BK689.out) hb); replace HB := sqb hb HB; (try clear hb); (try clear hb2); (try clear hk); (try clear hi); (try clear ho0); (try clear ho1); have hcz26_0 := sqc0 BK682; have hcz26_1 := sqc1 BK682; have hcz26_2 := sqc2 BK682; have hcz26_3 : w25.cell? ⟨gb682, 3, none⟩ = some (.slice A0_3 l0_3.length c0_3) := (blk_cell BK682.out 3).trans rfl; have hfz26_0 := blk_frozen BK682.out 0; have hfz26_1 := blk_frozen BK682.out 1; have hfz26_2 := blk_frozen BK682.out 2; have hfz26_3 := blk_frozen BK682.out 3; have hcz27_0 := sqc0 BK689; have hcz27_1 := sqc1 BK689; have hfz27_0 := blk_frozen BK689.out 0; have hfz27_1 := blk_frozen BK689.out 1; obtain ⟨Ao28, co28, eo28⟩ := Kd.R_slice HO692.out; subst eo28) | ((with_reducible refine gate_callee (f := 47) rfl ?_); refine goesL_ (some 30) rfl rfl Tryd.func47 sqF rfl #[.agg #[.slice A0_0 l0_0.length c0_0, .int .u16 a0_1, .slice A0_2 l0_2.length c0_2, .slice A0_3 l0_3.length c0_3], .agg #[.slice Ao20 t683.length co20, .slice Ao23 t686.length co23], .slice Ao28 t690.length co28, .slice none 0 0] rfl sqM ?_; (refine (lw_Cart_weighed.calls k _ _ l0_0 a0_1 _ _ l0_2 _ _ l0_3 _ _ t683 _ _ t686 _ _ t690 _ _ ([] : List Int) t697 t700 _ ?side1 ?side2 ?side3 ?side4 ?side5 ?side6 ?side7 ?side8 ?side9 ?side10 ?side11 ?side12 ?side13 ?side14 A4.out).mono ?_); (case side1 => exact sqQ HR0_0 HB); (case side2 => exact HC0_0.out); (case side3 => exact sqQ HR0_2 HB); (case side4 => exact HC0_2.out); (case side5 => exact sqQ HR0_3 HB); (case side6 => exact HC0_3.out); (case side7 => repeat (first | exact (Kd.R_reads' HO685.out).2.2 | (with_reducible refine Kd.C_alloc ?_ _) | (with_reducible refine Kd.C_drewN ?_ _) | (with_reducible refine Kd.C_drew ?_))); (case side8 => exact (Kd.R_reads' HO685.out).2.1); (case side9 => repeat (first | exact (Kd.R_reads' HO688.out).2.2 | (with_reducible refine Kd.C_alloc ?_ _) | (with_reducible refine Kd.C_drewN ?_ _) | (with_reducible refine Kd.C_drew ?_))); (case side10 => exact (Kd.R_reads' HO688.out).2.1); (case side11 => repeat (first | exact (Kd.R_reads' HO692.out).2.2 | (with_reducible refine Kd.C_alloc ?_ _) | (with_reducible refine Kd.C_drewN ?_ _) | (with_reducible refine Kd.C_drew ?_))); (case side12 => exact (Kd.R_reads' HO692.out).2.1); (case side13 => exact Kd.C_nil _ _); (case side14 => exact Nat.le_refl _); rintro e w29 ⟨v698, v701, rfl, ho0, ho1, hb⟩; refine ⟨_, rfl, ?_⟩; replace HO692 := Aside0.mk (Kd.R_below (sqR HO692) hb); replace HO695 := Aside0.mk (Kd.R_below (sqR HO695) hb); have HO699 := Aside0.mk (Kd.R_lower (Kd.R_new' ho0 (Kd.R_lt (sqR HO685))) (below_size (sqB HB))); replace HO685 := Aside0.mk (Kd.R_elder' (sqR HO685) (Kd.R_base ho0) hb); have HO702 := Aside0.mk (Kd.R_lower (Kd.R_new' ho1 (Kd.R_lt (sqR HO688))) (below_size (sqB HB))); replace HO688 := Aside0.mk (Kd.R_elder' (sqR HO688) (Kd.R_base ho1) hb); replace BK682 := sqk BK682 hb; replace BK689 := sqk BK689 hb; replace HB := sqb hb HB; (try clear hb); (try clear hb2); (try clear hk); (try clear hi); (try clear ho0); (try clear ho1); obtain ⟨Ao30, co30, eo30⟩ := Kd.R_slice HO699.out; subst eo30; have hcz31_0 := sqc0 BK689; have hcz31_1 := sqc1 BK689; have hfz31_0 := blk_frozen BK689.out 0; have hfz31_1 := blk_frozen BK689.out 1; obtain ⟨Ao32, co32, eo32⟩ := Kd.R_slice HO702.out; subst eo32) | ((with_reducible refine gate_callee (f := 48) rfl ?_); refine goesL_ (some 33) rfl rfl Tryd.func48 sqF rfl #[.agg #[.slice Ao30 t697.length co30, .slice Ao32 t700.length co32]] rfl sqM ?_; (with_reducible refine (lw_own.calls _ _ t697 _ _ t700 t703 t706 _ ?side1 ?side2 ?side3 ?side4 A5.out).mono ?_); (case side1 => refine (Kd.R_reads' (e := 41) (base := w.heap.size) (ok := fun k_ => (True ∧ some k_ ≠ (.slice Ao20 t683.length co20 : Value).ownBlock)) (n := t697.length) (c := co30) ?_).2.2; exact (by (with_reducible repeat (first | apply Kd.R_alloc | apply Kd.R_drewN | apply Kd.R_drew)); exact (Kd.R_mono (Kd.R_far (p := ⟨gb689, 1, none⟩) (Kd.R_far (p := ⟨gb689, 0, none⟩) (Kd.R_types HO699.out BK689.out (by decide)) (fun _ hk => hk.2) (.slice Ao30 t697.length co30)) (fun _ hk => hk.2) (.slice Ao32 t700.length co32)) (fun _ h_ => h_.1)))); (case side2 => exact (Kd.R_reads' HO699.out).2.1); (case side3 => refine (Kd.R_reads' (e := 80) (base := w.heap.size) (ok := fun k_ => (True ∧ some k_ ≠ (.slice Ao23 t686.length co23 : Value).ownBlock)) (n := t700.length) (c := co32) ?_).2.2; exact (by (with_reducible repeat (first | apply Kd.R_alloc | apply Kd.R_drewN | apply Kd.R_drew)); exact (Kd.R_mono (Kd.R_far (p := ⟨gb689, 1, none⟩) (Kd.R_far (p := ⟨gb689, 0, none⟩) (Kd.R_types HO702.out BK689.out (by decide)) (fun _ hk => hk.2) (.slice Ao30 t697.length co30)) (fun _ hk => hk.2) (.slice Ao32 t700.length co32)) (fun _ h_ => h_.1)))); (case side4 => exact (Kd.R_reads' HO702.out).2.1); rintro e w33 ⟨v704, v707, rfl, ho0, ho1, hb⟩; refine ⟨_, rfl, ?_⟩; replace HO692 := Aside0.mk (Kd.R_below (by (with_reducible repeat (first | apply Kd.R_alloc | apply Kd.R_drewN | apply Kd.R_drew)); exact (Kd.R_mono (Kd.R_far (p := ⟨gb689, 1, none⟩) (Kd.R_far (p := ⟨gb689, 0, none⟩) (Kd.R_types HO692.out BK689.out (by decide)) (fun _ hk => hk.2) (.slice Ao30 t697.length co30)) (fun _ hk => hk.2) (.slice Ao32 t700.length co32)) (fun _ h_ => h_.1))) hb); replace HO695 := Aside0.mk (Kd.R_below (by (with_reducible repeat (first | apply Kd.R_alloc | apply Kd.R_drewN | apply Kd.R_drew)); exact (Kd.R_mono (Kd.R_far (p := ⟨gb689, 1, none⟩) (Kd.R_far (p := ⟨gb689, 0, none⟩) (Kd.R_types HO695.out BK689.out (by decide)) (fun _ hk => hk.2) (.slice Ao30 t697.length co30)) (fun _ hk => hk.2) (.slice Ao32 t700.length co32)) (fun _ h_ => h_.1))) hb); have HO705 := Aside0.mk (Kd.R_lower (Kd.R_new' (Kd.R_new' ho0 (Kd.R_lt (by (with_reducible repeat (first | apply Kd.R_alloc | apply Kd.R_drewN | apply Kd.R_drew)); exact (Kd.R_mono (Kd.R_far (p := ⟨gb689, 1, none⟩) (Kd.R_far (p := ⟨gb689, 0, none⟩) (Kd.R_types HO685.out BK689.out (by decide)) (fun _ hk => hk.2) (.slice Ao30 t697.length co30)) (fun _ hk => hk.2) (.slice Ao32 t700.length co32)) (fun _ h_ => h_.1))))) (Kd.R_lt (by (with_reducible repeat (first | apply Kd.R_alloc | apply Kd.R_drewN | apply Kd.R_drew)); exact (Kd.R_mono (Kd.R_far (p := ⟨gb689, 1, none⟩) (Kd.R_far (p := ⟨gb689, 0, none⟩) (Kd.R_types HO699.out BK689.out (by decide)) (fun _ hk => hk.2) (.slice Ao30 t697.length co30)) (fun _ hk => hk.2) (.slice Ao32 t700.length co32)) (fun _ h_ => h_.1))))) (below_size (sqB HB))); replace HO685 := Aside0.mk (Kd.R_elder' (by (with_reducible repeat (first | apply Kd.R_alloc | apply Kd.R_drewN | apply Kd.R_drew)); exact (Kd.R_mono (Kd.R_far (p := ⟨gb689, 1, none⟩) (Kd.R_far (p := ⟨gb689, 0, none⟩) (Kd.R_types HO685.out BK689.out (by decide)) (fun _ hk => hk.2) (.slice Ao30 t697.length co30)) (fun _ hk => hk.2) (.slice Ao32 t700.length co32)) (fun _ h_ => h_.1))) (Kd.R_base ho0) hb); replace HO699 := Aside0.mk (Kd.R_elder' (by (with_reducible repeat (first | apply Kd.R_alloc | apply Kd.R_drewN | apply Kd.R_drew)); exact (Kd.R_mono (Kd.R_far (p := ⟨gb689, 1, none⟩) (Kd.R_far (p := ⟨gb689, 0, none⟩) (Kd.R_types HO699.out BK689.out (by decide)) (fun _ hk => hk.2) (.slice Ao30 t697.length co30)) (fun _ hk => hk.2) (.slice Ao32 t700.length co32)) (fun _ h_ => h_.1))) (Kd.R_base ho0) hb); have HO708 := Aside0.mk (Kd.R_lower (Kd.R_new' (Kd.R_new' ho1 (Kd.R_lt (by (with_reducible repeat (first | apply Kd.R_alloc | apply Kd.R_drewN | apply Kd.R_drew)); exact (Kd.R_mono (Kd.R_far (p := ⟨gb689, 1, none⟩) (Kd.R_far (p := ⟨gb689, 0, none⟩) (Kd.R_types HO688.out BK689.out (by decide)) (fun _ hk => hk.2) (.slice Ao30 t697.length co30)) (fun _ hk => hk.2) (.slice Ao32 t700.length co32)) (fun _ h_ => h_.1))))) (Kd.R_lt (by (with_reducible repeat (first | apply Kd.R_alloc | apply Kd.R_drewN | apply Kd.R_drew)); exact (Kd.R_mono (Kd.R_far (p := ⟨gb689, 1, none⟩) (Kd.R_far (p := ⟨gb689, 0, none⟩) (Kd.R_types HO702.out BK689.out (by decide)) (fun _ hk => hk.2) (.slice Ao30 t697.length co30)) (fun _ hk => hk.2) (.slice Ao32 t700.length co32)) (fun _ h_ => h_.1))))) (below_size (sqB HB))); replace HO688 := Aside0.mk (Kd.R_elder' (by (with_reducible repeat (first | apply Kd.R_alloc | apply Kd.R_drewN | apply Kd.R_drew)); exact (Kd.R_mono (Kd.R_far (p := ⟨gb689, 1, none⟩) (Kd.R_far (p := ⟨gb689, 0, none⟩) (Kd.R_types HO688.out BK689.out (by decide)) (fun _ hk => hk.2) (.slice Ao30 t697.length co30)) (fun _ hk => hk.2) (.slice Ao32 t700.length co32)) (fun _ h_ => h_.1))) (Kd.R_base ho1) hb); replace HO702 := Aside0.mk (Kd.R_elder' (by (with_reducible repeat (first | apply Kd.R_alloc | apply Kd.R_drewN | apply Kd.R_drew)); exact (Kd.R_mono (Kd.R_far (p := ⟨gb689, 1, none⟩) (Kd.R_far (p := ⟨gb689, 0, none⟩) (Kd.R_types HO702.out BK689.out (by decide)) (fun _ hk => hk.2) (.slice Ao30 t697.length co30)) (fun _ hk => hk.2) (.slice Ao32 t700.length co32)) (fun _ h_ => h_.1))) (Kd.R_base ho1) hb); replace BK682 := Aside0.mk (blk_below (g := gb682) (o := .cells #[.slice A0_0 l0_0.length c0_0, .int .u16 a0_1, .slice A0_2 l0_2.length c0_2, .slice A0_3 l0_3.length c0_3] 69 (0, 0)) sqX hb); replace BK689 := Aside0.mk (blk_below (g := gb689) (o := .cells #[.slice Ao30 t697.length co30, .slice Ao32 t700.length co32] 25 (0, 0)) (by (with_reducible repeat (first | refine blk_drewN ?_ _ | refine blk_drew ?_ | refine blk_alloc ?_ _)); refine blk_put (cs := #[.slice Ao30 t697.length co30, .slice Ao23 t686.length co23]) ?_ 1 _ rfl; (with_reducible repeat (first | refine blk_drewN ?_ _ | refine blk_drew ?_ | refine blk_alloc ?_ _)); refine blk_put (cs := #[.slice Ao20 t683.length co20, .slice Ao23 t686.length co23]) ?_ 0 _ rfl; (with_reducible repeat (first | refine blk_drewN ?_ _ | refine blk_drew ?_ | refine blk_alloc ?_ _)); exact BK689.out) hb); replace HB := sqb hb HB; (try clear hb); (try clear hb2); (try clear hk); (try clear hi); (try clear ho0); (try clear ho1); obtain ⟨Ao34, co34, eo34⟩ := Kd.R_slice HO705.out; subst eo34; obtain ⟨Ao35, co35, eo35⟩ := Kd.R_slice HO708.out; subst eo35) | ((with_reducible refine gate_callee (f := 20) rfl ?_); refine goesL_ (some 34) rfl rfl Tryd.func20 sqF rfl #[.agg #[.slice Ao34 t703.length co34, .slice Ao35 t706.length co35]] rfl sqM ?_; (with_reducible refine (wool_Weights.calls _ _ t703 _ _ t706 t709 t712 _ ?sideG ?side1 ?side2 ?side3 ?side4 A6.out).mono ?_); (case sideG => exact (Kd.C_below HGL.out (sqB HB))); (case side1 => repeat (first | exact (Kd.R_reads' HO705.out).2.2 | (with_reducible refine Kd.C_alloc ?_ _) | (with_reducible refine Kd.C_drewN ?_ _) | (with_reducible refine Kd.C_drew ?_))); (case side2 => exact (Kd.R_reads' HO705.out).2.1); (case side3 => repeat (first | exact (Kd.R_reads' HO708.out).2.2 | (with_reducible refine Kd.C_alloc ?_ _) | (with_reducible refine Kd.C_drewN ?_ _) | (with_reducible refine Kd.C_drew ?_))); (case side4 => exact (Kd.R_reads' HO708.out).2.1); rintro e w36 ⟨v710, rfl, ho0, hb⟩; refine ⟨_, rfl, ?_⟩; replace HO688 := Aside0.mk (Kd.R_below (sqR HO688) hb); replace HO692 := Aside0.mk (Kd.R_below (sqR HO692) hb); replace HO695 := Aside0.mk (Kd.R_below (sqR HO695) hb); replace HO702 := Aside0.mk (Kd.R_below (sqR HO702) hb); replace HO708 := Aside0.mk (Kd.R_below (sqR HO708) hb); have HO711 := Aside0.mk (Kd.R_lower (Kd.R_new' (Kd.R_new' (Kd.R_new' ho0 (Kd.R_lt (sqR HO685))) (Kd.R_lt (sqR HO699))) (Kd.R_lt (sqR HO705))) (below_size (sqB HB))); replace HO685 := Aside0.mk (Kd.R_elder' (sqR HO685) (Kd.R_base ho0) hb); replace HO699 := Aside0.mk (Kd.R_elder' (sqR HO699) (Kd.R_base ho0) hb); replace HO705 := Aside0.mk (Kd.R_elder' (sqR HO705) (Kd.R_base ho0) hb); replace BK682 := sqk BK682 hb; replace BK689 := sqk BK689 hb; replace HB := sqb hb HB; (try clear hb); (try clear hb2); (try clear hk); (try clear hi); (try clear ho0); have hcz37_0 := sqc0 BK689; have hcz37_1 := sqc1 BK689; have hfz37_0 := blk_frozen BK689.out 0; have hfz37_1 := blk_frozen BK689.out 1) | ((with_reducible refine gate_callee (f := 48) rfl ?_); refine goesL_ (some 39) rfl rfl Tryd.func48 sqF rfl #[.agg #[.slice Ao30 t697.length co30, .slice Ao32 t700.length co32]] rfl sqM ?_; (with_reducible refine (lw_own.calls _ _ t697 _ _ t700 t713 t716 _ ?side1 ?side2 ?side3 ?side4 A7.out).mono ?_); (case side1 => repeat (first | exact (Kd.R_reads' HO699.out).2.2 | (with_reducible refine Kd.C_alloc ?_ _) | (with_reducible refine Kd.C_drewN ?_ _) | (with_reducible refine Kd.C_drew ?_))); (case side2 => exact (Kd.R_reads' HO699.out).2.1); (case side3 => repeat (first | exact (Kd.R_reads' HO702.out).2.2 | (with_reducible refine Kd.C_alloc ?_ _) | (with_reducible refine Kd.C_drewN ?_ _) | (with_reducible refine Kd.C_drew ?_))); (case side4 => exact (Kd.R_reads' HO702.out).2.1); rintro e w38 ⟨v714, v717, rfl, ho0, ho1, hb⟩; refine ⟨_, rfl, ?_⟩; replace HO692 := Aside0.mk (Kd.R_below (sqR HO692) hb); replace HO695 := Aside0.mk (Kd.R_below (sqR HO695) hb); have HO715 := Aside0.mk (Kd.R_lower (Kd.R_new' (Kd.R_new' (Kd.R_new' (Kd.R_new' ho0 (Kd.R_lt (sqR HO685))) (Kd.R_lt (sqR HO699))) (Kd.R_lt (sqR HO705))) (Kd.R_lt (sqR HO711))) (below_size (sqB HB))); replace HO685 := Aside0.mk (Kd.R_elder' (sqR HO685) (Kd.R_base ho0) hb); replace HO699 := Aside0.mk (Kd.R_elder' (sqR HO699) (Kd.R_base ho0) hb); replace HO705 := Aside0.mk (Kd.R_elder' (sqR HO705) (Kd.R_base ho0) hb); replace HO711 := Aside0.mk (Kd.R_elder' (sqR HO711) (Kd.R_base ho0) hb); have HO718 := Aside0.mk (Kd.R_lower (Kd.R_new' (Kd.R_new' (Kd.R_new' ho1 (Kd.R_lt (sqR HO688))) (Kd.R_lt (sqR HO702))) (Kd.R_lt (sqR HO708))) (below_size (sqB HB))); replace HO688 := Aside0.mk (Kd.R_elder' (sqR HO688) (Kd.R_base ho1) hb); replace HO702 := Aside0.mk (Kd.R_elder' (sqR HO702) (Kd.R_base ho1) hb); replace HO708 := Aside0.mk (Kd.R_elder' (sqR HO708) (Kd.R_base ho1) hb); replace BK682 := sqk BK682 hb; replace BK689 := sqk BK689 hb; replace HB := sqb hb HB; (try clear hb); (try clear hb2); (try clear hk); (try clear hi); (try clear ho0); (try clear ho1); obtain ⟨Ao39, co39, eo39⟩ := Kd.R_slice HO715.out; subst eo39; obtain ⟨Ao40, co40, eo40⟩ := Kd.R_slice HO718.out; subst eo40) | ((with_reducible refine gate_callee (f := 21) rfl ?_); refine goesL_ (some 40) rfl rfl Tryd.func21 sqF rfl #[.agg #[.slice Ao39 t713.length co39, .slice Ao40 t716.length co40]] rfl sqM ?_; (with_reducible refine (wool_Flocks.calls _ _ t713 _ _ t716 t719 t722 _ ?sideG ?side1 ?side2 ?side3 ?side4 A8.out).mono ?_); (case sideG => exact (Kd.C_below HGL.out (sqB HB))); (case side1 => repeat (first | exact (Kd.R_reads' HO715.out).2.2 | (with_reducible refine Kd.C_alloc ?_ _) | (with_reducible refine Kd.C_drewN ?_ _) | (with_reducible refine Kd.C_drew ?_))); (case side2 => exact (Kd.R_reads' HO715.out).2.1); (case side3 => repeat (first | exact (Kd.R_reads' HO718.out).2.2 | (with_reducible refine Kd.C_alloc ?_ _) | (with_reducible refine Kd.C_drewN ?_ _) | (with_reducible refine Kd.C_drew ?_))); (case side4 => exact (Kd.R_reads' HO718.out).2.1); rintro e w41 ⟨v720, rfl, ho0, hb⟩; refine ⟨_, rfl, ?_⟩; replace HO688 := Aside0.mk (Kd.R_below (sqR HO688) hb); replace HO692 := Aside0.mk (Kd.R_below (sqR HO692) hb); replace HO695 := Aside0.mk (Kd.R_below (sqR HO695) hb); replace HO702 := Aside0.mk (Kd.R_below (sqR HO702) hb); replace HO708 := Aside0.mk (Kd.R_below (sqR HO708) hb); replace HO718 := Aside0.mk (Kd.R_below (sqR HO718) hb); have HO721 := Aside0.mk (Kd.R_lower (Kd.R_new' (Kd.R_new' (Kd.R_new' (Kd.R_new' (Kd.R_new' ho0 (Kd.R_lt (sqR HO685))) (Kd.R_lt (sqR HO699))) (Kd.R_lt (sqR HO705))) (Kd.R_lt (sqR HO711))) (Kd.R_lt (sqR HO715))) (below_size (sqB HB))); replace HO685 := Aside0.mk (Kd.R_elder' (sqR HO685) (Kd.R_base ho0) hb); replace HO699 := Aside0.mk (Kd.R_elder' (sqR HO699) (Kd.R_base ho0) hb); replace HO705 := Aside0.mk (Kd.R_elder' (sqR HO705) (Kd.R_base ho0) hb); replace HO711 := Aside0.mk (Kd.R_elder' (sqR HO711) (Kd.R_base ho0) hb); replace HO715 := Aside0.mk (Kd.R_elder' (sqR HO715) (Kd.R_base ho0) hb); replace BK682 := sqk BK682 hb; replace BK689 := sqk BK689 hb; replace HB := sqb hb HB; (try clear hb); (try clear hb2); (try clear hk); (try clear hi); (try clear ho0); have hcz42_0 := sqc0 BK689; have hcz42_1 := sqc1 BK689; have hfz42_0 := blk_frozen BK689.out 0; have hfz42_1 := blk_frozen BK689.out 1) | ((with_reducible refine gate_callee (f := 48) rfl ?_); refine goesL_ (some 45) rfl rfl Tryd.func48 sqF rfl #[.agg #[.slice Ao30 t697.length co30, .slice Ao32 t700.length co32]] rfl sqM ?_; (with_reducible refine (lw_own.calls _ _ t697 _ _ t700 t723 t726 _ ?side1 ?side2 ?side3 ?side4 A9.out).mono ?_); (case side1 => repeat (first | exact (Kd.R_reads' HO699.out).2.2 | (with_reducible refine Kd.C_alloc ?_ _) | (with_reducible refine Kd.C_drewN ?_ _) | (with_reducible refine Kd.C_drew ?_))); (case side2 => exact (Kd.R_reads' HO699.out).2.1); (case side3 => repeat (first | exact (Kd.R_reads' HO702.out).2.2 | (with_reducible refine Kd.C_alloc ?_ _) | (with_reducible refine Kd.C_drewN ?_ _) | (with_reducible refine Kd.C_drew ?_))); (case side4 => exact (Kd.R_reads' HO702.out).2.1); rintro e w43 ⟨v724, v727, rfl, ho0, ho1, hb⟩; refine ⟨_, rfl, ?_⟩; replace HO692 := Aside0.mk (Kd.R_below (sqR HO692) hb); replace HO695 := Aside0.mk (Kd.R_below (sqR HO695) hb); have HO725 := Aside0.mk (Kd.R_lower (Kd.R_new' (Kd.R_new' (Kd.R_new' (Kd.R_new' (Kd.R_new' (Kd.R_new' ho0 (Kd.R_lt (sqR HO685))) (Kd.R_lt (sqR HO699))) (Kd.R_lt (sqR HO705))) (Kd.R_lt (sqR HO711))) (Kd.R_lt (sqR HO715))) (Kd.R_lt (sqR HO721))) (below_size (sqB HB))); replace HO685 := Aside0.mk (Kd.R_elder' (sqR HO685) (Kd.R_base ho0) hb); replace HO699 := Aside0.mk (Kd.R_elder' (sqR HO699) (Kd.R_base ho0) hb); replace HO705 := Aside0.mk (Kd.R_elder' (sqR HO705) (Kd.R_base ho0) hb); replace HO711 := Aside0.mk (Kd.R_elder' (sqR HO711) (Kd.R_base ho0) hb); replace HO715 := Aside0.mk (Kd.R_elder' (sqR HO715) (Kd.R_base ho0) hb); replace HO721 := Aside0.mk (Kd.R_elder' (sqR HO721) (Kd.R_base ho0) hb); have HO728 := Aside0.mk (Kd.R_lower (Kd.R_new' (Kd.R_new' (Kd.R_new' (Kd.R_new' ho1 (Kd.R_lt (sqR HO688))) (Kd.R_lt (sqR HO702))) (Kd.R_lt (sqR HO708))) (Kd.R_lt (sqR HO718))) (below_size (sqB HB))); replace HO688 := Aside0.mk (Kd.R_elder' (sqR HO688) (Kd.R_base ho1) hb); replace HO702 := Aside0.mk (Kd.R_elder' (sqR HO702) (Kd.R_base ho1) hb); replace HO708 := Aside0.mk (Kd.R_elder' (sqR HO708) (Kd.R_base ho1) hb); replace HO718 := Aside0.mk (Kd.R_elder' (sqR HO718) (Kd.R_base ho1) hb); replace BK682 := sqk BK682 hb; replace BK689 := sqk BK689 hb; replace HB := sqb hb HB; (try clear hb); (try clear hb2); (try clear hk); (try clear hi); (try clear ho0); (try clear ho1); obtain ⟨Ao44, co44, eo44⟩ := Kd.R_slice HO725.out; subst eo44; obtain ⟨Ao45, co45, eo45⟩ := Kd.R_slice HO728.out; subst eo45) | ((with_reducible refine gate_callee (f := 29) rfl ?_); refine goesL_ (some 46) rfl rfl Tryd.func29 sqF rfl #[.agg #[.slice Ao44 t723.length co44, .slice Ao45 t726.length co45]] rfl sqM ?_; (with_reducible refine (wool_Missing.calls _ _ t723 _ _ t726 t729 t730 t731 _ ?sideG ?side1 ?side2 ?side3 ?side4 A10.out).mono ?_); (case sideG => exact (Kd.C_below HGL.out (sqB HB))); (case side1 => repeat (first | exact (Kd.R_reads' HO725.out).2.2 | (with_reducible refine Kd.C_alloc ?_ _) | (with_reducible refine Kd.C_drewN ?_ _) | (with_reducible refine Kd.C_drew ?_))); (case side2 => exact (Kd.R_reads' HO725.out).2.1); (case side3 => repeat (first | exact (Kd.R_reads' HO728.out).2.2 | (with_reducible refine Kd.C_alloc ?_ _) | (with_reducible refine Kd.C_drewN ?_ _) | (with_reducible refine Kd.C_drew ?_))); (case side4 => exact (Kd.R_reads' HO728.out).2.1); rintro e w46 ⟨rfl, hb⟩; refine ⟨_, rfl, ?_⟩; replace HO685 := Aside0.mk (Kd.R_below (sqR HO685) hb); replace HO688 := Aside0.mk (Kd.R_below (sqR HO688) hb); replace HO692 := Aside0.mk (Kd.R_below (sqR HO692) hb); replace HO695 := Aside0.mk (Kd.R_below (sqR HO695) hb); replace HO699 := Aside0.mk (Kd.R_below (sqR HO699) hb); replace HO702 := Aside0.mk (Kd.R_below (sqR HO702) hb); replace HO705 := Aside0.mk (Kd.R_below (sqR HO705) hb); replace HO708 := Aside0.mk (Kd.R_below (sqR HO708) hb); replace HO711 := Aside0.mk (Kd.R_below (sqR HO711) hb); replace HO715 := Aside0.mk (Kd.R_below (sqR HO715) hb); replace HO718 := Aside0.mk (Kd.R_below (sqR HO718) hb); replace HO721 := Aside0.mk (Kd.R_below (sqR HO721) hb); replace HO725 := Aside0.mk (Kd.R_below (sqR HO725) hb); replace HO728 := Aside0.mk (Kd.R_below (sqR HO728) hb); replace BK682 := sqk BK682 hb; replace BK689 := sqk BK689 hb; replace HB := sqb hb HB; (try clear hb); (try clear hb2); (try clear hk); (try clear hi)) | ((with_reducible refine gate_dst (N := 11) rfl ?_); (try (refine gate_guard (by rfl) ?_; dsimp only)); refine box_event ?hg (N := 11) ?hd (cs := #[.int .i64 0, .int .i64 0]) (t := 41) ?hr ?_; (case hd => rfl); (case hg => rfl); (case hr => first | (go_simp; done) | (go_simp; rfl)); intro gb732 hg w47 hbox hb; replace HO685 := Aside0.mk (Kd.R_below (Kd.R_elderB (sqR HO685) gb732 (Nat.le_of_eq hg.symm)) hb); replace HO688 := Aside0.mk (Kd.R_below (sqR HO688) hb); replace HO692 := Aside0.mk (Kd.R_below (sqR HO692) hb); replace HO695 := Aside0.mk (Kd.R_below (sqR HO695) hb); replace HO699 := Aside0.mk (Kd.R_below (Kd.R_elderB (sqR HO699) gb732 (Nat.le_of_eq hg.symm)) hb); replace HO702 := Aside0.mk (Kd.R_below (sqR HO702) hb); replace HO705 := Aside0.mk (Kd.R_below (Kd.R_elderB (sqR HO705) gb732 (Nat.le_of_eq hg.symm)) hb); replace HO708 := Aside0.mk (Kd.R_below (sqR HO708) hb); replace HO711 := Aside0.mk (Kd.R_below (Kd.R_elderB (sqR HO711) gb732 (Nat.le_of_eq hg.symm)) hb); replace HO715 := Aside0.mk (Kd.R_below (Kd.R_elderB (sqR HO715) gb732 (Nat.le_of_eq hg.symm)) hb); replace HO718 := Aside0.mk (Kd.R_below (sqR HO718) hb); replace HO721 := Aside0.mk (Kd.R_below (Kd.R_elderB (sqR HO721) gb732 (Nat.le_of_eq hg.symm)) hb); replace HO725 := Aside0.mk (Kd.R_below (Kd.R_elderB (sqR HO725) gb732 (Nat.le_of_eq hg.symm)) hb); replace HO728 := Aside0.mk (Kd.R_below (sqR HO728) hb); have BK732 := Aside0.mk (hbox); have GW732 := Aside0.mk (sqZ hg HB); have GE732 := Aside0.mk (sqZ hg HB); replace HB := sqb hb HB; have NB682_732 := Aside0.mk (sqL hg BK682); have NB732_682 := Aside0.mk (sqG hg BK682); replace BK682 := sqk BK682 hb; have NB689_732 := Aside0.mk (sqL hg BK689); have NB732_689 := Aside0.mk (sqG hg BK689); replace BK689 := sqk BK689 hb; clear hb hbox hg; have hnb48 := NB732_682.out; have hnc48 := NB682_732.out; have hnb49 := NB732_689.out; have hnc49 := NB689_732.out; have hcz50_0 := sqc0 BK732; have hcz50_1 := sqc1 BK732; have hfz50_0 := blk_frozen BK732.out 0; have hfz50_1 := blk_frozen BK732.out 1; have hcz51_0 := sqc0 BK689; have hcz51_1 := sqc1 BK689; have hfz51_0 := blk_frozen BK689.out 0; have hfz51_1 := blk_frozen BK689.out 1) | ((with_reducible refine gate_callee (f := 48) rfl ?_); refine goesL_ (some 51) rfl rfl Tryd.func48 sqF rfl #[.agg #[.slice Ao30 t697.length co30, .slice Ao32 t700.length co32]] rfl sqM ?_; (with_reducible refine (lw_own.calls _ _ t697 _ _ t700 t733 t736 _ ?side1 ?side2 ?side3 ?side4 A11.out).mono ?_); (case side1 => refine (Kd.R_reads' (e := 41) (base := w.heap.size) (ok := fun k_ => (((((((True ∧ some k_ ≠ (.slice Ao20 t683.length co20 : Value).ownBlock) ∧ some k_ ≠ (.slice Ao34 t703.length co34 : Value).ownBlock) ∧ some k_ ≠ (v710 : Value).ownBlock) ∧ some k_ ≠ (.slice Ao39 t713.length co39 : Value).ownBlock) ∧ some k_ ≠ (v720 : Value).ownBlock) ∧ some k_ ≠ (.slice Ao44 t723.length co44 : Value).ownBlock) ∧ k_ ≠ gb732)) (n := t697.length) (c := co30) ?_).2.2; exact (by (with_reducible repeat (first | apply Kd.R_alloc | apply Kd.R_drewN | apply Kd.R_drew)); exact (Kd.R_mono (Kd.R_far (p := ⟨gb732, 1, none⟩) (Kd.R_far (p := ⟨gb732, 0, none⟩) (Kd.R_mono HO699.out (fun k_ hk => (⟨hk, hk.2⟩ : _ ∧ k_ ≠ gb732))) (fun _ hk => hk.2) (.int .i64 t729)) (fun _ hk => hk.2) (.int .i64 t730)) (fun _ h_ => h_.1)))); (case side2 => exact (Kd.R_reads' HO699.out).2.1); (case side3 => refine (Kd.R_reads' (e := 80) (base := w.heap.size) (ok := fun k_ => ((((True ∧ some k_ ≠ (.slice Ao23 t686.length co23 : Value).ownBlock) ∧ some k_ ≠ (.slice Ao35 t706.length co35 : Value).ownBlock) ∧ some k_ ≠ (.slice Ao40 t716.length co40 : Value).ownBlock) ∧ some k_ ≠ (.slice Ao45 t726.length co45 : Value).ownBlock)) (n := t700.length) (c := co32) ?_).2.2; exact (by (with_reducible repeat (first | apply Kd.R_alloc | apply Kd.R_drewN | apply Kd.R_drew)); exact (Kd.R_mono (Kd.R_far (p := ⟨gb732, 1, none⟩) (Kd.R_far (p := ⟨gb732, 0, none⟩) (Kd.R_types HO702.out BK732.out (by decide)) (fun _ hk => hk.2) (.int .i64 t729)) (fun _ hk => hk.2) (.int .i64 t730)) (fun _ h_ => h_.1)))); (case side4 => exact (Kd.R_reads' HO702.out).2.1); rintro e w52 ⟨v734, v737, rfl, ho0, ho1, hb⟩; refine ⟨_, rfl, ?_⟩; replace HO692 := Aside0.mk (Kd.R_below (by (with_reducible repeat (first | apply Kd.R_alloc | apply Kd.R_drewN | apply Kd.R_drew)); exact (Kd.R_mono (Kd.R_far (p := ⟨gb732, 1, none⟩) (Kd.R_far (p := ⟨gb732, 0, none⟩) (Kd.R_types HO692.out BK732.out (by decide)) (fun _ hk => hk.2) (.int .i64 t729)) (fun _ hk => hk.2) (.int .i64 t730)) (fun _ h_ => h_.1))) hb); replace HO695 := Aside0.mk (Kd.R_below (by (with_reducible repeat (first | apply Kd.R_alloc | apply Kd.R_drewN | apply Kd.R_drew)); exact (Kd.R_mono (Kd.R_far (p := ⟨gb732, 1, none⟩) (Kd.R_far (p := ⟨gb732, 0, none⟩) (Kd.R_types HO695.out BK732.out (by decide)) (fun _ hk => hk.2) (.int .i64 t729)) (fun _ hk => hk.2) (.int .i64 t730)) (fun _ h_ => h_.1))) hb); have HO735 := Aside0.mk (Kd.R_lower (Kd.R_newB (Kd.R_new' (Kd.R_new' (Kd.R_new' (Kd.R_new' (Kd.R_new' (Kd.R_new' (Kd.R_new' ho0 (Kd.R_lt (by (with_reducible repeat (first | apply Kd.R_alloc | apply Kd.R_drewN | apply Kd.R_drew)); exact (Kd.R_mono (Kd.R_far (p := ⟨gb732, 1, none⟩) (Kd.R_far (p := ⟨gb732, 0, none⟩) (Kd.R_mono HO685.out (fun k_ hk => (⟨hk, hk.2⟩ : _ ∧ k_ ≠ gb732))) (fun _ hk => hk.2) (.int .i64 t729)) (fun _ hk => hk.2) (.int .i64 t730)) (fun _ h_ => h_.1))))) (Kd.R_lt (by (with_reducible repeat (first | apply Kd.R_alloc | apply Kd.R_drewN | apply Kd.R_drew)); exact (Kd.R_mono (Kd.R_far (p := ⟨gb732, 1, none⟩) (Kd.R_far (p := ⟨gb732, 0, none⟩) (Kd.R_mono HO699.out (fun k_ hk => (⟨hk, hk.2⟩ : _ ∧ k_ ≠ gb732))) (fun _ hk => hk.2) (.int .i64 t729)) (fun _ hk => hk.2) (.int .i64 t730)) (fun _ h_ => h_.1))))) (Kd.R_lt (by (with_reducible repeat (first | apply Kd.R_alloc | apply Kd.R_drewN | apply Kd.R_drew)); exact (Kd.R_mono (Kd.R_far (p := ⟨gb732, 1, none⟩) (Kd.R_far (p := ⟨gb732, 0, none⟩) (Kd.R_mono HO705.out (fun k_ hk => (⟨hk, hk.2⟩ : _ ∧ k_ ≠ gb732))) (fun _ hk => hk.2) (.int .i64 t729)) (fun _ hk => hk.2) (.int .i64 t730)) (fun _ h_ => h_.1))))) (Kd.R_lt (by (with_reducible repeat (first | apply Kd.R_alloc | apply Kd.R_drewN | apply Kd.R_drew)); exact (Kd.R_mono (Kd.R_far (p := ⟨gb732, 1, none⟩) (Kd.R_far (p := ⟨gb732, 0, none⟩) (Kd.R_mono HO711.out (fun k_ hk => (⟨hk, hk.2⟩ : _ ∧ k_ ≠ gb732))) (fun _ hk => hk.2) (.int .i64 t729)) (fun _ hk => hk.2) (.int .i64 t730)) (fun _ h_ => h_.1))))) (Kd.R_lt (by (with_reducible repeat (first | apply Kd.R_alloc | apply Kd.R_drewN | apply Kd.R_drew)); exact (Kd.R_mono (Kd.R_far (p := ⟨gb732, 1, none⟩) (Kd.R_far (p := ⟨gb732, 0, none⟩) (Kd.R_mono HO715.out (fun k_ hk => (⟨hk, hk.2⟩ : _ ∧ k_ ≠ gb732))) (fun _ hk => hk.2) (.int .i64 t729)) (fun _ hk => hk.2) (.int .i64 t730)) (fun _ h_ => h_.1))))) (Kd.R_lt (by (with_reducible repeat (first | apply Kd.R_alloc | apply Kd.R_drewN | apply Kd.R_drew)); exact (Kd.R_mono (Kd.R_far (p := ⟨gb732, 1, none⟩) (Kd.R_far (p := ⟨gb732, 0, none⟩) (Kd.R_mono HO721.out (fun k_ hk => (⟨hk, hk.2⟩ : _ ∧ k_ ≠ gb732))) (fun _ hk => hk.2) (.int .i64 t729)) (fun _ hk => hk.2) (.int .i64 t730)) (fun _ h_ => h_.1))))) (Kd.R_lt (by (with_reducible repeat (first | apply Kd.R_alloc | apply Kd.R_drewN | apply Kd.R_drew)); exact (Kd.R_mono (Kd.R_far (p := ⟨gb732, 1, none⟩) (Kd.R_far (p := ⟨gb732, 0, none⟩) (Kd.R_mono HO725.out (fun k_ hk => (⟨hk, hk.2⟩ : _ ∧ k_ ≠ gb732))) (fun _ hk => hk.2) (.int .i64 t729)) (fun _ hk => hk.2) (.int .i64 t730)) (fun _ h_ => h_.1))))) (g := gb732) (o := .cells #[.int .i64 t729, .int .i64 t730] 41 (0, 0)) (by (with_reducible repeat (first | refine blk_drewN ?_ _ | refine blk_drew ?_ | refine blk_alloc ?_ _)); refine blk_put (cs := #[.int .i64 t729, .int .i64 0]) ?_ 1 _ rfl; (with_reducible repeat (first | refine blk_drewN ?_ _ | refine blk_drew ?_ | refine blk_alloc ?_ _)); refine blk_put (cs := #[.int .i64 0, .int .i64 0]) ?_ 0 _ rfl; (with_reducible repeat (first | refine blk_drewN ?_ _ | refine blk_drew ?_ | refine blk_alloc ?_ _)); exact BK732.out)) (below_size (sqB HB))); replace HO685 := Aside0.mk (Kd.R_elder' (by (with_reducible repeat (first | apply Kd.R_alloc | apply Kd.R_drewN | apply Kd.R_drew)); exact (Kd.R_mono (Kd.R_far (p := ⟨gb732, 1, none⟩) (Kd.R_far (p := ⟨gb732, 0, none⟩) (Kd.R_mono HO685.out (fun k_ hk => (⟨hk, hk.2⟩ : _ ∧ k_ ≠ gb732))) (fun _ hk => hk.2) (.int .i64 t729)) (fun _ hk => hk.2) (.int .i64 t730)) (fun _ h_ => h_.1))) (Kd.R_base ho0) hb); replace HO699 := Aside0.mk (Kd.R_elder' (by (with_reducible repeat (first | apply Kd.R_alloc | apply Kd.R_drewN | apply Kd.R_drew)); exact (Kd.R_mono (Kd.R_far (p := ⟨gb732, 1, none⟩) (Kd.R_far (p := ⟨gb732, 0, none⟩) (Kd.R_mono HO699.out (fun k_ hk => (⟨hk, hk.2⟩ : _ ∧ k_ ≠ gb732))) (fun _ hk => hk.2) (.int .i64 t729)) (fun _ hk => hk.2) (.int .i64 t730)) (fun _ h_ => h_.1))) (Kd.R_base ho0) hb); replace HO705 := Aside0.mk (Kd.R_elder' (by (with_reducible repeat (first | apply Kd.R_alloc | apply Kd.R_drewN | apply Kd.R_drew)); exact (Kd.R_mono (Kd.R_far (p := ⟨gb732, 1, none⟩) (Kd.R_far (p := ⟨gb732, 0, none⟩) (Kd.R_mono HO705.out (fun k_ hk => (⟨hk, hk.2⟩ : _ ∧ k_ ≠ gb732))) (fun _ hk => hk.2) (.int .i64 t729)) (fun _ hk => hk.2) (.int .i64 t730)) (fun _ h_ => h_.1))) (Kd.R_base ho0) hb); replace HO711 := Aside0.mk (Kd.R_elder' (by (with_reducible repeat (first | apply Kd.R_alloc | apply Kd.R_drewN | apply Kd.R_drew)); exact (Kd.R_mono (Kd.R_far (p := ⟨gb732, 1, none⟩) (Kd.R_far (p := ⟨gb732, 0, none⟩) (Kd.R_mono HO711.out (fun k_ hk => (⟨hk, hk.2⟩ : _ ∧ k_ ≠ gb732))) (fun _ hk => hk.2) (.int .i64 t729)) (fun _ hk => hk.2) (.int .i64 t730)) (fun _ h_ => h_.1))) (Kd.R_base ho0) hb); replace HO715 := Aside0.mk (Kd.R_elder' (by (with_reducible repeat (first | apply Kd.R_alloc | apply Kd.R_drewN | apply Kd.R_drew)); exact (Kd.R_mono (Kd.R_far (p := ⟨gb732, 1, none⟩) (Kd.R_far (p := ⟨gb732, 0, none⟩) (Kd.R_mono HO715.out (fun k_ hk => (⟨hk, hk.2⟩ : _ ∧ k_ ≠ gb732))) (fun _ hk => hk.2) (.int .i64 t729)) (fun _ hk => hk.2) (.int .i64 t730)) (fun _ h_ => h_.1))) (Kd.R_base ho0) hb); replace HO721 := Aside0.mk (Kd.R_elder' (by (with_reducible repeat (first | apply Kd.R_alloc | apply Kd.R_drewN | apply Kd.R_drew)); exact (Kd.R_mono (Kd.R_far (p := ⟨gb732, 1, none⟩) (Kd.R_far (p := ⟨gb732, 0, none⟩) (Kd.R_mono HO721.out (fun k_ hk => (⟨hk, hk.2⟩ : _ ∧ k_ ≠ gb732))) (fun _ hk => hk.2) (.int .i64 t729)) (fun _ hk => hk.2) (.int .i64 t730)) (fun _ h_ => h_.1))) (Kd.R_base ho0) hb); replace HO725 := Aside0.mk (Kd.R_elder' (by (with_reducible repeat (first | apply Kd.R_alloc | apply Kd.R_drewN | apply Kd.R_drew)); exact (Kd.R_mono (Kd.R_far (p := ⟨gb732, 1, none⟩) (Kd.R_far (p := ⟨gb732, 0, none⟩) (Kd.R_mono HO725.out (fun k_ hk => (⟨hk, hk.2⟩ : _ ∧ k_ ≠ gb732))) (fun _ hk => hk.2) (.int .i64 t729)) (fun _ hk => hk.2) (.int .i64 t730)) (fun _ h_ => h_.1))) (Kd.R_base ho0) hb); have HO738 := Aside0.mk (Kd.R_lower (Kd.R_new' (Kd.R_new' (Kd.R_new' (Kd.R_new' (Kd.R_new' ho1 (Kd.R_lt (by (with_reducible repeat (first | apply Kd.R_alloc | apply Kd.R_drewN | apply Kd.R_drew)); exact (Kd.R_mono (Kd.R_far (p := ⟨gb732, 1, none⟩) (Kd.R_far (p := ⟨gb732, 0, none⟩) (Kd.R_types HO688.out BK732.out (by decide)) (fun _ hk => hk.2) (.int .i64 t729)) (fun _ hk => hk.2) (.int .i64 t730)) (fun _ h_ => h_.1))))) (Kd.R_lt (by (with_reducible repeat (first | apply Kd.R_alloc | apply Kd.R_drewN | apply Kd.R_drew)); exact (Kd.R_mono (Kd.R_far (p := ⟨gb732, 1, none⟩) (Kd.R_far (p := ⟨gb732, 0, none⟩) (Kd.R_types HO702.out BK732.out (by decide)) (fun _ hk => hk.2) (.int .i64 t729)) (fun _ hk => hk.2) (.int .i64 t730)) (fun _ h_ => h_.1))))) (Kd.R_lt (by (with_reducible repeat (first | apply Kd.R_alloc | apply Kd.R_drewN | apply Kd.R_drew)); exact (Kd.R_mono (Kd.R_far (p := ⟨gb732, 1, none⟩) (Kd.R_far (p := ⟨gb732, 0, none⟩) (Kd.R_types HO708.out BK732.out (by decide)) (fun _ hk => hk.2) (.int .i64 t729)) (fun _ hk => hk.2) (.int .i64 t730)) (fun _ h_ => h_.1))))) (Kd.R_lt (by (with_reducible repeat (first | apply Kd.R_alloc | apply Kd.R_drewN | apply Kd.R_drew)); exact (Kd.R_mono (Kd.R_far (p := ⟨gb732, 1, none⟩) (Kd.R_far (p := ⟨gb732, 0, none⟩) (Kd.R_types HO718.out BK732.out (by decide)) (fun _ hk => hk.2) (.int .i64 t729)) (fun _ hk => hk.2) (.int .i64 t730)) (fun _ h_ => h_.1))))) (Kd.R_lt (by (with_reducible repeat (first | apply Kd.R_alloc | apply Kd.R_drewN | apply Kd.R_drew)); exact (Kd.R_mono (Kd.R_far (p := ⟨gb732, 1, none⟩) (Kd.R_far (p := ⟨gb732, 0, none⟩) (Kd.R_types HO728.out BK732.out (by decide)) (fun _ hk => hk.2) (.int .i64 t729)) (fun _ hk => hk.2) (.int .i64 t730)) (fun _ h_ => h_.1))))) (below_size (sqB HB))); replace HO688 := Aside0.mk (Kd.R_elder' (by (with_reducible repeat (first | apply Kd.R_alloc | apply Kd.R_drewN | apply Kd.R_drew)); exact (Kd.R_mono (Kd.R_far (p := ⟨gb732, 1, none⟩) (Kd.R_far (p := ⟨gb732, 0, none⟩) (Kd.R_types HO688.out BK732.out (by decide)) (fun _ hk => hk.2) (.int .i64 t729)) (fun _ hk => hk.2) (.int .i64 t730)) (fun _ h_ => h_.1))) (Kd.R_base ho1) hb); replace HO702 := Aside0.mk (Kd.R_elder' (by (with_reducible repeat (first | apply Kd.R_alloc | apply Kd.R_drewN | apply Kd.R_drew)); exact (Kd.R_mono (Kd.R_far (p := ⟨gb732, 1, none⟩) (Kd.R_far (p := ⟨gb732, 0, none⟩) (Kd.R_types HO702.out BK732.out (by decide)) (fun _ hk => hk.2) (.int .i64 t729)) (fun _ hk => hk.2) (.int .i64 t730)) (fun _ h_ => h_.1))) (Kd.R_base ho1) hb); replace HO708 := Aside0.mk (Kd.R_elder' (by (with_reducible repeat (first | apply Kd.R_alloc | apply Kd.R_drewN | apply Kd.R_drew)); exact (Kd.R_mono (Kd.R_far (p := ⟨gb732, 1, none⟩) (Kd.R_far (p := ⟨gb732, 0, none⟩) (Kd.R_types HO708.out BK732.out (by decide)) (fun _ hk => hk.2) (.int .i64 t729)) (fun _ hk => hk.2) (.int .i64 t730)) (fun _ h_ => h_.1))) (Kd.R_base ho1) hb); replace HO718 := Aside0.mk (Kd.R_elder' (by (with_reducible repeat (first | apply Kd.R_alloc | apply Kd.R_drewN | apply Kd.R_drew)); exact (Kd.R_mono (Kd.R_far (p := ⟨gb732, 1, none⟩) (Kd.R_far (p := ⟨gb732, 0, none⟩) (Kd.R_types HO718.out BK732.out (by decide)) (fun _ hk => hk.2) (.int .i64 t729)) (fun _ hk => hk.2) (.int .i64 t730)) (fun _ h_ => h_.1))) (Kd.R_base ho1) hb); replace HO728 := Aside0.mk (Kd.R_elder' (by (with_reducible repeat (first | apply Kd.R_alloc | apply Kd.R_drewN | apply Kd.R_drew)); exact (Kd.R_mono (Kd.R_far (p := ⟨gb732, 1, none⟩) (Kd.R_far (p := ⟨gb732, 0, none⟩) (Kd.R_types HO728.out BK732.out (by decide)) (fun _ hk => hk.2) (.int .i64 t729)) (fun _ hk => hk.2) (.int .i64 t730)) (fun _ h_ => h_.1))) (Kd.R_base ho1) hb); replace BK682 := Aside0.mk (blk_below (g := gb682) (o := .cells #[.slice A0_0 l0_0.length c0_0, .int .u16 a0_1, .slice A0_2 l0_2.length c0_2, .slice A0_3 l0_3.length c0_3] 69 (0, 0)) sqX hb); replace BK689 := Aside0.mk (blk_below (g := gb689) (o := .cells #[.slice Ao30 t697.length co30, .slice Ao32 t700.length co32] 25 (0, 0)) sqX hb); replace BK732 := Aside0.mk (blk_below (g := gb732) (o := .cells #[.int .i64 t729, .int .i64 t730] 41 (0, 0)) (by (with_reducible repeat (first | refine blk_drewN ?_ _ | refine blk_drew ?_ | refine blk_alloc ?_ _)); refine blk_put (cs := #[.int .i64 t729, .int .i64 0]) ?_ 1 _ rfl; (with_reducible repeat (first | refine blk_drewN ?_ _ | refine blk_drew ?_ | refine blk_alloc ?_ _)); refine blk_put (cs := #[.int .i64 0, .int .i64 0]) ?_ 0 _ rfl; (with_reducible repeat (first | refine blk_drewN ?_ _ | refine blk_drew ?_ | refine blk_alloc ?_ _)); exact BK732.out) hb); replace HB := sqb hb HB; (try clear hb); (try clear hb2); (try clear hk); (try clear hi); (try clear ho0); (try clear ho1); obtain ⟨Ao53, co53, eo53⟩ := Kd.R_slice HO735.out; subst eo53; obtain ⟨Ao54, co54, eo54⟩ := Kd.R_slice HO738.out; subst eo54) | ((with_reducible refine gate_callee (f := 31) rfl ?_); refine goesL_ (some 52) rfl rfl Tryd.func31 sqF rfl #[.agg #[.slice Ao53 t733.length co53, .slice Ao54 t736.length co54]] rfl sqM ?_; (with_reducible refine (wool_Where.calls _ _ t733 _ _ t736 t739 t742 _ ?sideG ?side1 ?side2 ?side3 ?side4 A12.out).mono ?_); (case sideG => exact (Kd.C_below HGL.out (sqB HB))); (case side1 => repeat (first | exact (Kd.R_reads' HO735.out).2.2 | (with_reducible refine Kd.C_alloc ?_ _) | (with_reducible refine Kd.C_drewN ?_ _) | (with_reducible refine Kd.C_drew ?_))); (case side2 => exact (Kd.R_reads' HO735.out).2.1); (case side3 => repeat (first | exact (Kd.R_reads' HO738.out).2.2 | (with_reducible refine Kd.C_alloc ?_ _) | (with_reducible refine Kd.C_drewN ?_ _) | (with_reducible refine Kd.C_drew ?_))); (case side4 => exact (Kd.R_reads' HO738.out).2.1); rintro e w55 ⟨v740, rfl, ho0, hb⟩; refine ⟨_, rfl, ?_⟩; replace HO685 := Aside0.mk (Kd.R_below (sqR HO685) hb); replace HO688 := Aside0.mk (Kd.R_below (sqR HO688) hb); replace HO699 := Aside0.mk (Kd.R_below (sqR HO699) hb); replace HO702 := Aside0.mk (Kd.R_below (sqR HO702) hb); replace HO705 := Aside0.mk (Kd.R_below (sqR HO705) hb); replace HO708 := Aside0.mk (Kd.R_below (sqR HO708) hb); replace HO711 := Aside0.mk (Kd.R_below (sqR HO711) hb); replace HO715 := Aside0.mk (Kd.R_below (sqR HO715) hb); replace HO718 := Aside0.mk (Kd.R_below (sqR HO718) hb); replace HO721 := Aside0.mk (Kd.R_below (sqR HO721) hb); replace HO725 := Aside0.mk (Kd.R_below (sqR HO725) hb); replace HO728 := Aside0.mk (Kd.R_below (sqR HO728) hb); replace HO735 := Aside0.mk (Kd.R_below (sqR HO735) hb); replace HO738 := Aside0.mk (Kd.R_below (sqR HO738) hb); have HO741 := Aside0.mk (Kd.R_lower (Kd.R_new' (Kd.R_new' ho0 (Kd.R_lt (sqR HO692))) (Kd.R_lt (sqR HO695))) (below_size (sqB HB))); replace HO692 := Aside0.mk (Kd.R_elder' (sqR HO692) (Kd.R_base ho0) hb); replace HO695 := Aside0.mk (Kd.R_elder' (sqR HO695) (Kd.R_base ho0) hb); replace BK682 := sqk BK682 hb; replace BK689 := sqk BK689 hb; replace BK732 := sqk BK732 hb; replace HB := sqb hb HB; (try clear hb); (try clear hb2); (try clear hk); (try clear hi); (try clear ho0); have hcz56_0 := sqc0 BK689; have hcz56_1 := sqc1 BK689; have hfz56_0 := blk_frozen BK689.out 0; have hfz56_1 := blk_frozen BK689.out 1) | ((with_reducible refine gate_callee (f := 48) rfl ?_); refine goesL_ (some 57) rfl rfl Tryd.func48 sqF rfl #[.agg #[.slice Ao30 t697.length co30, .slice Ao32 t700.length co32]] rfl sqM ?_; (with_reducible refine (lw_own.calls _ _ t697 _ _ t700 t743 t746 _ ?side1 ?side2 ?side3 ?side4 A13.out).mono ?_); (case side1 => repeat (first | exact (Kd.R_reads' HO699.out).2.2 | (with_reducible refine Kd.C_alloc ?_ _) | (with_reducible refine Kd.C_drewN ?_ _) | (with_reducible refine Kd.C_drew ?_))); (case side2 => exact (Kd.R_reads' HO699.out).2.1); (case side3 => repeat (first | exact (Kd.R_reads' HO702.out).2.2 | (with_reducible refine Kd.C_alloc ?_ _) | (with_reducible refine Kd.C_drewN ?_ _) | (with_reducible refine Kd.C_drew ?_))); (case side4 => exact (Kd.R_reads' HO702.out).2.1); rintro e w57 ⟨v744, v747, rfl, ho0, ho1, hb⟩; refine ⟨_, rfl, ?_⟩; replace HO692 := Aside0.mk (Kd.R_below (sqR HO692) hb); replace HO695 := Aside0.mk (Kd.R_below (sqR HO695) hb); replace HO741 := Aside0.mk (Kd.R_below (sqR HO741) hb); have HO745 := Aside0.mk (Kd.R_lower (Kd.R_newB (Kd.R_new' (Kd.R_new' (Kd.R_new' (Kd.R_new' (Kd.R_new' (Kd.R_new' (Kd.R_new' (Kd.R_new' ho0 (Kd.R_lt (sqR HO685))) (Kd.R_lt (sqR HO699))) (Kd.R_lt (sqR HO705))) (Kd.R_lt (sqR HO711))) (Kd.R_lt (sqR HO715))) (Kd.R_lt (sqR HO721))) (Kd.R_lt (sqR HO725))) (Kd.R_lt (sqR HO735))) (g := gb732) (o := .cells #[.int .i64 t729, .int .i64 t730] 41 (0, 0)) (sqK BK732)) (below_size (sqB HB))); replace HO685 := Aside0.mk (Kd.R_elder' (sqR HO685) (Kd.R_base ho0) hb); replace HO699 := Aside0.mk (Kd.R_elder' (sqR HO699) (Kd.R_base ho0) hb); replace HO705 := Aside0.mk (Kd.R_elder' (sqR HO705) (Kd.R_base ho0) hb); replace HO711 := Aside0.mk (Kd.R_elder' (sqR HO711) (Kd.R_base ho0) hb); replace HO715 := Aside0.mk (Kd.R_elder' (sqR HO715) (Kd.R_base ho0) hb); replace HO721 := Aside0.mk (Kd.R_elder' (sqR HO721) (Kd.R_base ho0) hb); replace HO725 := Aside0.mk (Kd.R_elder' (sqR HO725) (Kd.R_base ho0) hb); replace HO735 := Aside0.mk (Kd.R_elder' (sqR HO735) (Kd.R_base ho0) hb); have HO748 := Aside0.mk (Kd.R_lower (Kd.R_new' (Kd.R_new' (Kd.R_new' (Kd.R_new' (Kd.R_new' (Kd.R_new' ho1 (Kd.R_lt (sqR HO688))) (Kd.R_lt (sqR HO702))) (Kd.R_lt (sqR HO708))) (Kd.R_lt (sqR HO718))) (Kd.R_lt (sqR HO728))) (Kd.R_lt (sqR HO738))) (below_size (sqB HB))); replace HO688 := Aside0.mk (Kd.R_elder' (sqR HO688) (Kd.R_base ho1) hb); replace HO702 := Aside0.mk (Kd.R_elder' (sqR HO702) (Kd.R_base ho1) hb); replace HO708 := Aside0.mk (Kd.R_elder' (sqR HO708) (Kd.R_base ho1) hb); replace HO718 := Aside0.mk (Kd.R_elder' (sqR HO718) (Kd.R_base ho1) hb); replace HO728 := Aside0.mk (Kd.R_elder' (sqR HO728) (Kd.R_base ho1) hb); replace HO738 := Aside0.mk (Kd.R_elder' (sqR HO738) (Kd.R_base ho1) hb); replace BK682 := sqk BK682 hb; replace BK689 := sqk BK689 hb; replace BK732 := sqk BK732 hb; replace HB := sqb hb HB; (try clear hb); (try clear hb2); (try clear hk); (try clear hi); (try clear ho0); (try clear ho1); obtain ⟨Ao58, co58, eo58⟩ := Kd.R_slice HO745.out; subst eo58; obtain ⟨Ao59, co59, eo59⟩ := Kd.R_slice HO748.out; subst eo59) | ((with_reducible refine gate_callee (f := 37) rfl ?_); refine goesL_ (some 58) rfl rfl Tryd.func37 sqF rfl #[.agg #[.slice Ao58 t743.length co58, .slice Ao59 t746.length co59]] rfl sqM ?_; (with_reducible refine (wool_Wrong.calls _ _ t743 _ _ t746 t749 t752 _ ?sideG ?side1 ?side2 ?side3 ?side4 A14.out).mono ?_); (case sideG => exact (Kd.C_below HGL.out (sqB HB))); (case side1 => repeat (first | exact (Kd.R_reads' HO745.out).2.2 | (with_reducible refine Kd.C_alloc ?_ _) | (with_reducible refine Kd.C_drewN ?_ _) | (with_reducible refine Kd.C_drew ?_))); (case side2 => exact (Kd.R_reads' HO745.out).2.1); (case side3 => repeat (first | exact (Kd.R_reads' HO748.out).2.2 | (with_reducible refine Kd.C_alloc ?_ _) | (with_reducible refine Kd.C_drewN ?_ _) | (with_reducible refine Kd.C_drew ?_))); (case side4 => exact (Kd.R_reads' HO748.out).2.1); rintro e w60 ⟨v750, rfl, ho0, hb⟩; refine ⟨_, rfl, ?_⟩; replace HO685 := Aside0.mk (Kd.R_below (sqR HO685) hb); replace HO688 := Aside0.mk (Kd.R_below (sqR HO688) hb); replace HO699 := Aside0.mk (Kd.R_below (sqR HO699) hb); replace HO702 := Aside0.mk (Kd.R_below (sqR HO702) hb); replace HO705 := Aside0.mk (Kd.R_below (sqR HO705) hb); replace HO708 := Aside0.mk (Kd.R_below (sqR HO708) hb); replace HO711 := Aside0.mk (Kd.R_below (sqR HO711) hb); replace HO715 := Aside0.mk (Kd.R_below (sqR HO715) hb); replace HO718 := Aside0.mk (Kd.R_below (sqR HO718) hb); replace HO721 := Aside0.mk (Kd.R_below (sqR HO721) hb); replace HO725 := Aside0.mk (Kd.R_below (sqR HO725) hb); replace HO728 := Aside0.mk (Kd.R_below (sqR HO728) hb); replace HO735 := Aside0.mk (Kd.R_below (sqR HO735) hb); replace HO738 := Aside0.mk (Kd.R_below (sqR HO738) hb); replace HO745 := Aside0.mk (Kd.R_below (sqR HO745) hb); replace HO748 := Aside0.mk (Kd.R_below (sqR HO748) hb); have HO751 := Aside0.mk (Kd.R_lower (Kd.R_new' (Kd.R_new' (Kd.R_new' ho0 (Kd.R_lt (sqR HO692))) (Kd.R_lt (sqR HO695))) (Kd.R_lt (sqR HO741))) (below_size (sqB HB))); replace HO692 := Aside0.mk (Kd.R_elder' (sqR HO692) (Kd.R_base ho0) hb); replace HO695 := Aside0.mk (Kd.R_elder' (sqR HO695) (Kd.R_base ho0) hb); replace HO741 := Aside0.mk (Kd.R_elder' (sqR HO741) (Kd.R_base ho0) hb); replace BK682 := sqk BK682 hb; replace BK689 := sqk BK689 hb; replace BK732 := sqk BK732 hb; replace HB := sqb hb HB; (try clear hb); (try clear hb2); (try clear hk); (try clear hi); (try clear ho0)))
 (try simp only [Act.put, sqA])
 go_cut [110] (fun v110 wc => ∃ (kq : Nat) (x110_14 : Bool), v110 = .bool x110_14 ∧ Aside0 (lw_WoolTruth.j0 kq t690 t693 t709 t719 x110_14 = some r) ∧ Aside0 (kq ≤ k) ∧ Aside0 (Kd.R (Kd.int .i64) 3 wc w.heap.size (fun k_ => some k_ ≠ (v694 : Value).ownBlock) (.slice Ao28 t690.length co28) t690) ∧ Aside0 (Kd.R (Kd.int .i64) 3 wc w.heap.size (fun k_ => some k_ ≠ ((.slice Ao28 t690.length co28) : Value).ownBlock) v694 t693) ∧ Aside0 (Kd.R k41 41 wc w.heap.size (fun k_ => some k_ ≠ (v720 : Value).ownBlock ∧ some k_ ≠ ((.slice Ao30 t697.length co30) : Value).ownBlock ∧ k_ ≠ gb732) v710 t709) ∧ Aside0 (Kd.R k41 41 wc w.heap.size (fun k_ => some k_ ≠ (v710 : Value).ownBlock ∧ some k_ ≠ ((.slice Ao30 t697.length co30) : Value).ownBlock ∧ k_ ≠ gb732) v720 t719) ∧ Aside0 (Kd.R k41 41 wc w.heap.size (fun k_ => some k_ ≠ (v710 : Value).ownBlock ∧ some k_ ≠ (v720 : Value).ownBlock ∧ k_ ≠ gb732) (.slice Ao30 t697.length co30) t697) ∧ Aside0 (Kd.R k80 80 wc w.heap.size (fun _ => True) (.slice Ao32 t700.length co32) t700) ∧ Aside0 (wc.heap[gb682]? = some (.cells #[(.slice A0_0 l0_0.length c0_0), .int .u16 a0_1, (.slice A0_2 l0_2.length c0_2), (.slice A0_3 l0_3.length c0_3)] 69 (0, 0))) ∧ Aside0 (wc.heap[gb689]? = some (.cells #[(.slice Ao30 t697.length co30), (.slice Ao32 t700.length co32)] 25 (0, 0))) ∧ Aside0 (wc.heap[gb732]? = some (.cells #[.int .i64 t729, .int .i64 t730] 41 (0, 0))) ∧ Aside0 (Below w.heap.size w wc))
 case first =>
  have H := HC15.out; clear HC15
  by_cases c61 : t712 = 0
  ·rw [if_pos c61] at H
   have c61b0 : (t712 == 0) = true := beq_iff_eq.mpr c61; have c61b1 : (t712 != 0) = false := bne_eq_false_iff_eq.mpr c61; clear c61
   (first | rw [c61b0] | (simp only [i64_w, i32_w]; rw [c61b0]) | skip)
   by_cases c62 : t722 = 0
   ·rw [if_pos c62] at H
    have c62b0 : (t722 == 0) = true := beq_iff_eq.mpr c62; have c62b1 : (t722 != 0) = false := bne_eq_false_iff_eq.mpr c62; clear c62
    by_cases c63 : t731 = 0
    ·rw [if_pos c63] at H
     have c63b0 : (t731 == 0) = true := beq_iff_eq.mpr c63; have c63b1 : (t731 != 0) = false := bne_eq_false_iff_eq.mpr c63; clear c63
     by_cases c64 : t742 = 6
     ·rw [if_pos c64] at H
      have c64b0 : (t742 == 6) = true := beq_iff_eq.mpr c64; have c64b1 : (t742 != 6) = false := bne_eq_false_iff_eq.mpr c64; clear c64
      by_cases c65 : t752 = 6
      ·rw [if_pos c65] at H
       have c65b0 : (t752 == 6) = true := beq_iff_eq.mpr c65; have c65b1 : (t752 != 6) = false := bne_eq_false_iff_eq.mpr c65; clear c65
       by_cases c66 : (t709.length : Int) = (t690.length : Int)
       ·rw [if_pos c66] at H
        have c66b0 : ((t709.length : Int) == (t690.length : Int)) = true := beq_iff_eq.mpr c66; have c66b1 : ((t709.length : Int) != (t690.length : Int)) = false := bne_eq_false_iff_eq.mpr c66
        have c66b2 : (t709.length == t690.length) = true := by first | simpa using c66 | (simp at c66 ⊢; omega)
        clear c66
        by_cases c67 : (t719.length : Int) = (t693.length : Int)
        ·rw [if_pos c67] at H
         have c67b0 : ((t719.length : Int) == (t693.length : Int)) = true := beq_iff_eq.mpr c67; have c67b1 : ((t719.length : Int) != (t693.length : Int)) = false := bne_eq_false_iff_eq.mpr c67
         have c67b2 : (t719.length == t693.length) = true := by first | simpa using c67 | (simp at c67 ⊢; omega)
         clear c67
         by_cases c68 : (wrap64 ((t739.length : Int) + (t749.length : Int))) = 0
         ·rw [if_pos c68] at H
          have c68b0 : ((wrap64 ((t739.length : Int) + (t749.length : Int))) == 0) = true := beq_iff_eq.mpr c68; have c68b1 : ((wrap64 ((t739.length : Int) + (t749.length : Int))) != 0) = false := bne_eq_false_iff_eq.mpr c68; clear c68
          by_cases c69 : t729 = 0
          ·rw [if_pos c69] at H
           have c69b0 : (t729 == 0) = true := beq_iff_eq.mpr c69; have c69b1 : (t729 != 0) = false := bne_eq_false_iff_eq.mpr c69; clear c69; have H' := Aside0.mk H; clear H; obtain ⟨Ao70, co70, eo70⟩ := Kd.R_slice HO711.out; subst eo70; obtain ⟨Ao71, co71, eo71⟩ := Kd.R_slice HO721.out; subst eo71; obtain ⟨Ao72, co72, eo72⟩ := Kd.R_slice HO695.out; subst eo72; obtain ⟨Ao73, co73, eo73⟩ := Kd.R_slice HO741.out; subst eo73; obtain ⟨Ao74, co74, eo74⟩ := Kd.R_slice HO751.out; subst eo74; have hnb75 := NB732_682.out; have hnc75 := NB682_732.out; have hnb76 := NB732_689.out; have hnc76 := NB689_732.out; have hcz77_0 := sqc0 BK732; have hcz77_1 := sqc1 BK732; have hfz77_0 := blk_frozen BK732.out 0; have hfz77_1 := blk_frozen BK732.out 1
           go_wp2
           go_meet
           case rel => exact ⟨_, (decide (t730 < 0)), sqE, H', ⟨by first | omega | exact Nat.le_refl _⟩, ⟨by (with_reducible repeat (first | apply Kd.R_alloc | apply Kd.R_drewN | apply Kd.R_drew)); exact Kd.R_mono HO692.out (fun _ hk => hk.1.1)⟩, ⟨by (with_reducible repeat (first | apply Kd.R_alloc | apply Kd.R_drewN | apply Kd.R_drew)); exact Kd.R_mono HO695.out (fun _ hk => hk.1.1)⟩, ⟨by (with_reducible repeat (first | apply Kd.R_alloc | apply Kd.R_drewN | apply Kd.R_drew)); exact Kd.R_mono HO711.out (fun _ hk => ⟨hk.1.1.1.1.2, ⟨hk.1.1.1.1.1.1.1.2, hk.1.1.2⟩⟩)⟩, ⟨by (with_reducible repeat (first | apply Kd.R_alloc | apply Kd.R_drewN | apply Kd.R_drew)); exact Kd.R_mono HO721.out (fun _ hk => ⟨hk.1.1.1.1.1.2, ⟨hk.1.1.1.1.1.1.1.2, hk.1.1.2⟩⟩)⟩, ⟨by (with_reducible repeat (first | apply Kd.R_alloc | apply Kd.R_drewN | apply Kd.R_drew)); exact Kd.R_mono HO699.out (fun _ hk => ⟨hk.1.1.1.1.1.1.2, ⟨hk.1.1.1.1.2, hk.1.1.2⟩⟩)⟩, ⟨by (with_reducible repeat (first | apply Kd.R_alloc | apply Kd.R_drewN | apply Kd.R_drew)); exact Kd.R_mono HO702.out (fun _ hk => trivial)⟩, ⟨sqK BK682⟩, ⟨sqK BK689⟩, ⟨sqK BK732⟩, ⟨sqB HB⟩⟩
          ·rw [if_neg c69] at H
           exact absurd H (by simp)
         ·rw [if_neg c68] at H
          exact absurd H (by simp)
        ·rw [if_neg c67] at H
         exact absurd H (by simp)
       ·rw [if_neg c66] at H
        exact absurd H (by simp)
      ·rw [if_neg c65] at H
       exact absurd H (by simp)
     ·rw [if_neg c64] at H
      exact absurd H (by simp)
    ·rw [if_neg c63] at H
     exact absurd H (by simp)
   ·rw [if_neg c62] at H
    exact absurd H (by simp)
  ·rw [if_neg c61] at H
   exact absurd H (by simp)
 case rest =>
  clear HC15; try clear hcz17_0
  (try clear hcz17_1); (try clear hcz17_2); (try clear hcz17_3); (try clear hcz22_0); (try clear hcz22_1); (try clear hcz24_0); (try clear hcz24_1); (try clear hcz24_2); (try clear hcz24_3); (try clear hcz26_0); (try clear hcz26_1); (try clear hcz26_2); (try clear hcz26_3); (try clear hcz27_0); (try clear hcz27_1); (try clear hcz31_0); (try clear hcz31_1); (try clear hcz37_0); (try clear hcz37_1); (try clear hcz42_0); (try clear hcz42_1); (try clear hcz50_0); (try clear hcz50_1); (try clear hcz51_0); (try clear hcz51_1); (try clear hcz56_0); (try clear hcz56_1); (try clear hfz17_0); (try clear hfz17_1); (try clear hfz17_2); (try clear hfz17_3); (try clear hfz22_0); (try clear hfz22_1); (try clear hfz24_0); (try clear hfz24_1); (try clear hfz24_2); (try clear hfz24_3); (try clear hfz26_0); (try clear hfz26_1); (try clear hfz26_2); (try clear hfz26_3); (try clear hfz27_0); (try clear hfz27_1); (try clear hfz31_0); (try clear hfz31_1); (try clear hfz37_0); (try clear hfz37_1); (try clear hfz42_0); (try clear hfz42_1); (try clear hfz50_0); (try clear hfz50_1); (try clear hfz51_0); (try clear hfz51_1); (try clear hfz56_0); (try clear hfz56_1); obtain ⟨kq, x110_14, rfl, HA, HJ14, HO_4, HO_5, HO_7, HO_9, HO_690000, HO_690001, BK682, BK689, BK732, HB⟩ := hcut
  cases kq with
  | zero => exact absurd HA.out (by simp [lw_WoolTruth.j0])
  | succ kj14 =>
   have H := HA.out; clear HA; simp only [lw_WoolTruth.j0] at H
   by_cases c78 : x110_14 = true
   ·subst c78
    rw [if_pos rfl] at H; exact absurd H (by simp)
   ·replace c78 := Bool.eq_false_iff.mpr c78
    subst c78; rw [if_neg Bool.false_ne_true] at H; have H' := Aside0.mk H; clear H; go_wp2
    go_loopg [17] kj14 (fun kq v17 w' => ∃ (x17_2 : Int), v17 = .int .i64 x17_2 ∧ Aside0 (lw_WoolTruth.l0 kq t690 t693 t709 t719 x17_2 = some r) ∧ Aside0 (kq ≤ kj14) ∧ Aside0 (Kd.R (Kd.int .i64) 3 w' w.heap.size (fun k_ => some k_ ≠ (v694 : Value).ownBlock) (.slice Ao28 t690.length co28) t690) ∧ Aside0 (Kd.R (Kd.int .i64) 3 w' w.heap.size (fun k_ => some k_ ≠ ((.slice Ao28 t690.length co28) : Value).ownBlock) v694 t693) ∧ Aside0 (Kd.R k41 41 w' w.heap.size (fun k_ => some k_ ≠ (v720 : Value).ownBlock ∧ some k_ ≠ ((.slice Ao30 t697.length co30) : Value).ownBlock ∧ k_ ≠ gb732) v710 t709) ∧ Aside0 (Kd.R k41 41 w' w.heap.size (fun k_ => some k_ ≠ (v710 : Value).ownBlock ∧ some k_ ≠ ((.slice Ao30 t697.length co30) : Value).ownBlock ∧ k_ ≠ gb732) v720 t719) ∧ Aside0 (Kd.R k41 41 w' w.heap.size (fun k_ => some k_ ≠ (v710 : Value).ownBlock ∧ some k_ ≠ (v720 : Value).ownBlock ∧ k_ ≠ gb732) (.slice Ao30 t697.length co30) t697) ∧ Aside0 (Kd.R k80 80 w' w.heap.size (fun _ => True) (.slice Ao32 t700.length co32) t700) ∧ Aside0 (w'.heap[gb682]? = some (.cells #[(.slice A0_0 l0_0.length c0_0), .int .u16 a0_1, (.slice A0_2 l0_2.length c0_2), (.slice A0_3 l0_3.length c0_3)] 69 (0, 0))) ∧ Aside0 (w'.heap[gb689]? = some (.cells #[(.slice Ao30 t697.length co30), (.slice Ao32 t700.length co32)] 25 (0, 0))) ∧ Aside0 (w'.heap[gb732]? = some (.cells #[.int .i64 t729, .int .i64 t730] 41 (0, 0))) ∧ Aside0 (Below w.heap.size w w'))
    case atStart => exact ⟨(0), sqE, H', ⟨Nat.le_refl _⟩, ⟨sqR HO_4⟩, ⟨sqR HO_5⟩, ⟨sqR HO_7⟩, ⟨sqR HO_9⟩, ⟨sqR HO_690000⟩, ⟨sqR HO_690001⟩, ⟨sqK BK682⟩, ⟨sqK BK689⟩, ⟨sqK BK732⟩, ⟨sqB HB⟩⟩
    case round =>
     clear H'; try clear c78
     obtain ⟨x17_2, rfl, HA, HK2, HO_4, HO_5, HO_7, HO_9, HO_690000, HO_690001, BK682, BK689, BK732, HB⟩ := hrel
     cases gk with
     | zero => exact absurd HA.out (by simp [lw_WoolTruth.l0])
     | succ k2 =>
      have H := HA.out; clear HA; simp only [lw_WoolTruth.l0] at H
      by_cases c79 : x17_2 < (t690.length : Int)
      ·rw [if_pos c79] at H
       have c79b0 : decide (x17_2 < (t690.length : Int)) = true := decide_eq_true c79; clear c79; have HC80 := Aside0.mk H
       clear H; go_upto_region 14 with (fail)
       go_cut [174] (fun v174 wc => ∃ (kq : Nat) (x174_79 : Bool), v174 = .bool x174_79 ∧ Aside0 (lw_WoolTruth.j2 kq t690 t693 t709 t719 x17_2 x174_79 = some r) ∧ Aside0 (kq ≤ k2) ∧ Aside0 (Kd.R (Kd.int .i64) 3 wc w.heap.size (fun k_ => some k_ ≠ (v694 : Value).ownBlock) (.slice Ao28 t690.length co28) t690) ∧ Aside0 (Kd.R (Kd.int .i64) 3 wc w.heap.size (fun k_ => some k_ ≠ ((.slice Ao28 t690.length co28) : Value).ownBlock) v694 t693) ∧ Aside0 (Kd.R k41 41 wc w.heap.size (fun k_ => some k_ ≠ (v720 : Value).ownBlock ∧ some k_ ≠ ((.slice Ao30 t697.length co30) : Value).ownBlock ∧ k_ ≠ gb732) v710 t709) ∧ Aside0 (Kd.R k41 41 wc w.heap.size (fun k_ => some k_ ≠ (v710 : Value).ownBlock ∧ some k_ ≠ ((.slice Ao30 t697.length co30) : Value).ownBlock ∧ k_ ≠ gb732) v720 t719) ∧ Aside0 (Kd.R k41 41 wc w.heap.size (fun k_ => some k_ ≠ (v710 : Value).ownBlock ∧ some k_ ≠ (v720 : Value).ownBlock ∧ k_ ≠ gb732) (.slice Ao30 t697.length co30) t697) ∧ Aside0 (Kd.R k80 80 wc w.heap.size (fun _ => True) (.slice Ao32 t700.length co32) t700) ∧ Aside0 (wc.heap[gb682]? = some (.cells #[(.slice A0_0 l0_0.length c0_0), .int .u16 a0_1, (.slice A0_2 l0_2.length c0_2), (.slice A0_3 l0_3.length c0_3)] 69 (0, 0))) ∧ Aside0 (wc.heap[gb689]? = some (.cells #[(.slice Ao30 t697.length co30), (.slice Ao32 t700.length co32)] 25 (0, 0))) ∧ Aside0 (wc.heap[gb732]? = some (.cells #[.int .i64 t729, .int .i64 t730] 41 (0, 0))) ∧ Aside0 (Below w.heap.size w wc))
       case first =>
        have H := HC80.out; clear HC80
        by_cases c81 : 0 ≤ x17_2
        ·rw [if_pos c81] at H
         have c81b0 : decide (0 ≤ x17_2) = true := decide_eq_true c81; clear c81
         (first | rw [c81b0] | (simp only [i64_w, i32_w]; rw [c81b0]) | skip)
         by_cases c82 : x17_2 < (t709.length : Int)
         ·rw [if_pos c82] at H
          have c82b0 : decide (x17_2 < (t709.length : Int)) = true := decide_eq_true c82; clear c82; obtain ⟨t756, A830, H⟩ := Option.bind_eq_some_iff.mp H; have A83 := Aside0.mk A830; clear A830
          by_cases c84 : t756 = true
          ·subst c84
           rw [if_pos rfl] at H
           by_cases c85 : ((rd_T41 t709 x17_2).f0) < 0
           ·rw [if_pos c85] at H
            exact absurd H (by simp)
           ·rw [if_neg c85] at H
            have c85b0 : decide (((rd_T41 t709 x17_2).f0) < 0) = false := decide_eq_false c85; clear c85
            by_cases c86 : ((rd_T41 t709 x17_2).f1) > 400
            ·rw [if_pos c86] at H
             exact absurd H (by simp)
            ·rw [if_neg c86] at H
             have c86b0 : decide (400 < ((rd_T41 t709 x17_2).f1)) = false := decide_eq_false c86; clear c86
             by_cases c87 : x17_2 > 0
             ·rw [if_pos c87] at H
              have c87b0 : decide (0 < x17_2) = true := decide_eq_true c87; clear c87; obtain ⟨ji88, hji88⟩ : ∃ j_ : Int, (wrap64 (x17_2 - 1)) = j_ := ⟨_, rfl⟩
              replace H : (if 0 ≤ (ji88) then (if (ji88) < (t709.length : Int) then (if ((rd_T41 t709 x17_2).f0) > ((rd_T41 t709 (ji88)).f0) then (none) else (lw_WoolTruth.j2 k2 t690 t693 t709 t719 x17_2 (decide (((rd_T41 t709 x17_2).f1) > ((rd_T41 t709 (ji88)).f1))))) else (none)) else (none)) = some r := by first | (rw [hji88] at H; exact H) | (simp only [hji88] at H ⊢; exact H)
              (try rw [hji88] at A83)
              have hji88w : (IntKind.i64.wrap (x17_2 - 1)) = ji88 := (i64_w _).trans hji88
              by_cases c89 : 0 ≤ (ji88)
              ·rw [if_pos c89] at H
               have c89b0 : decide (0 ≤ (ji88)) = true := decide_eq_true c89; clear c89
               by_cases c90 : (ji88) < (t709.length : Int)
               ·rw [if_pos c90] at H
                have c90b0 : decide ((ji88) < (t709.length : Int)) = true := decide_eq_true c90; clear c90
                by_cases c91 : ((rd_T41 t709 x17_2).f0) > ((rd_T41 t709 (ji88)).f0)
                ·rw [if_pos c91] at H
                 exact absurd H (by simp)
                ·rw [if_neg c91] at H
                 have c91b0 : decide (((rd_T41 t709 (ji88)).f0) < ((rd_T41 t709 x17_2).f0)) = false := decide_eq_false c91; clear c91; have H' := Aside0.mk H
                 clear H; try go_wp2
                 have n0_ := Aside0.mk (Kd.R_drew HO_4.out); have n1_ := Aside0.mk (Kd.R_drew HO_5.out); have n2_ := Aside0.mk (Kd.R_drew HO_7.out); have n3_ := Aside0.mk (Kd.R_drew HO_9.out); have n4_ := Aside0.mk (Kd.R_drew HO_690000.out); have n5_ := Aside0.mk (Kd.R_drew HO_690001.out); have n6_ := Aside0.mk (blk_drew BK682.out); have n7_ := Aside0.mk (blk_drew BK689.out); have n8_ := Aside0.mk (blk_drew BK732.out); have n9_ := Aside0.mk (below_drew1 HB.out); clear HO_4 HO_5 HO_7 HO_9 HO_690000 HO_690001 BK682 BK689 BK732 HB; have HO_4 := n0_; have HO_5 := n1_; have HO_7 := n2_; have HO_9 := n3_; have HO_690000 := n4_; have HO_690001 := n5_; have BK682 := n6_; have BK689 := n7_; have BK732 := n8_; have HB := n9_; clear n0_ n1_ n2_ n3_ n4_ n5_ n6_ n7_ n8_ n9_; have p754 : 0 ≤ (x17_2 : Int) := sqD; have q754 : x17_2 < (t690.length : Int) := sqD; obtain ⟨ad754, e754, hx754_0⟩ := Kd.at_int (Kd.R_reads' HO_4.out).2.2 x17_2 p754 q754
                 cases e754
                 replace p754 := eq_true p754; replace q754 := eq_true q754; obtain ⟨Ao93, co93, eo93⟩ := Kd.R_slice HO_7.out
                 (first | subst eo93 | (injection eo93 with f1_ f2_ f3_; have f4_ := f1_.symm; have f5_ := f3_.symm; clear f1_ f2_ f3_; subst f4_; subst f5_))
                 have p755 : 0 ≤ (x17_2 : Int) := sqD; have q755 : x17_2 < (t709.length : Int) := sqD; obtain ⟨ad755, e755, hx755_0, hx755_1⟩ := at_T41 (Kd.R_reads' HO_7.out).2.2 x17_2 p755 q755
                 cases e755
                 replace p755 := eq_true p755; replace q755 := eq_true q755; have p757 : 0 ≤ (x17_2 : Int) := sqD; have q757 : x17_2 < (t709.length : Int) := sqD; obtain ⟨ad757, e757, hx757_0, hx757_1⟩ := at_T41 (Kd.R_reads' HO_7.out).2.2 x17_2 p757 q757; obtain rfl : ad755 = ad757 := (by injection e757); replace p757 := eq_true p757; replace q757 := eq_true q757; have p758 : 0 ≤ (x17_2 : Int) := sqD; have q758 : x17_2 < (t709.length : Int) := sqD; obtain ⟨ad758, e758, hx758_0, hx758_1⟩ := at_T41 (Kd.R_reads' HO_7.out).2.2 x17_2 p758 q758; obtain rfl : ad755 = ad758 := (by injection e758); replace p758 := eq_true p758; replace q758 := eq_true q758; have p759 : 0 ≤ (x17_2 : Int) := sqD; have q759 : x17_2 < (t709.length : Int) := sqD; obtain ⟨ad759, e759, hx759_0, hx759_1⟩ := at_T41 (Kd.R_reads' HO_7.out).2.2 x17_2 p759 q759; obtain rfl : ad755 = ad759 := (by injection e759); replace p759 := eq_true p759; replace q759 := eq_true q759; have p760 : 0 ≤ ((ji88) : Int) := sqD; have q760 : (ji88) < (t709.length : Int) := sqD; obtain ⟨ad760, e760, hx760_0, hx760_1⟩ := at_T41 (Kd.R_reads' HO_7.out).2.2 (ji88) p760 q760; obtain rfl : ad755 = ad760 := (by injection e760); replace p760 := eq_true p760; replace q760 := eq_true q760; have p761 : 0 ≤ (x17_2 : Int) := sqD; have q761 : x17_2 < (t709.length : Int) := sqD; obtain ⟨ad761, e761, hx761_0, hx761_1⟩ := at_T41 (Kd.R_reads' HO_7.out).2.2 x17_2 p761 q761; obtain rfl : ad755 = ad761 := (by injection e761); replace p761 := eq_true p761; replace q761 := eq_true q761; have p762 : 0 ≤ ((ji88) : Int) := sqD; have q762 : (ji88) < (t709.length : Int) := sqD; obtain ⟨ad762, e762, hx762_0, hx762_1⟩ := at_T41 (Kd.R_reads' HO_7.out).2.2 (ji88) p762 q762; obtain rfl : ad755 = ad762 := (by injection e762); replace p762 := eq_true p762; replace q762 := eq_true q762; refine start_ (n := 58) (S := fun w' => w'.cell? (ad754.add (x17_2).toNat) = some (.int .i64 (rd t690 x17_2)) ∧ w'.cell? (ad755.add ((x17_2).toNat * 2)) = some (.int .i64 ((rd_T41 t709 x17_2).f0)) ∧ w'.cell? ⟨(ad755.add ((x17_2).toNat * 2)).block, (ad755.add ((x17_2).toNat * 2)).off + 1, none⟩ = some (.int .i64 ((rd_T41 t709 x17_2).f1)) ∧ w'.cell? (ad755.add ((x17_2).toNat * 2)) = some (.int .i64 ((rd_T41 t709 x17_2).f0)) ∧ w'.cell? ⟨(ad755.add ((x17_2).toNat * 2)).block, (ad755.add ((x17_2).toNat * 2)).off + 1, none⟩ = some (.int .i64 ((rd_T41 t709 x17_2).f1)) ∧ w'.cell? (ad755.add ((x17_2).toNat * 2)) = some (.int .i64 ((rd_T41 t709 x17_2).f0)) ∧ w'.cell? ⟨(ad755.add ((x17_2).toNat * 2)).block, (ad755.add ((x17_2).toNat * 2)).off + 1, none⟩ = some (.int .i64 ((rd_T41 t709 x17_2).f1)) ∧ w'.cell? (ad755.add ((x17_2).toNat * 2)) = some (.int .i64 ((rd_T41 t709 x17_2).f0)) ∧ w'.cell? ⟨(ad755.add ((x17_2).toNat * 2)).block, (ad755.add ((x17_2).toNat * 2)).off + 1, none⟩ = some (.int .i64 ((rd_T41 t709 x17_2).f1)) ∧ w'.cell? (ad755.add (((ji88)).toNat * 2)) = some (.int .i64 ((rd_T41 t709 (ji88)).f0)) ∧ w'.cell? ⟨(ad755.add (((ji88)).toNat * 2)).block, (ad755.add (((ji88)).toNat * 2)).off + 1, none⟩ = some (.int .i64 ((rd_T41 t709 (ji88)).f1)) ∧ w'.cell? (ad755.add ((x17_2).toNat * 2)) = some (.int .i64 ((rd_T41 t709 x17_2).f0)) ∧ w'.cell? ⟨(ad755.add ((x17_2).toNat * 2)).block, (ad755.add ((x17_2).toNat * 2)).off + 1, none⟩ = some (.int .i64 ((rd_T41 t709 x17_2).f1)) ∧ w'.cell? (ad755.add (((ji88)).toNat * 2)) = some (.int .i64 ((rd_T41 t709 (ji88)).f0)) ∧ w'.cell? ⟨(ad755.add (((ji88)).toNat * 2)).block, (ad755.add (((ji88)).toNat * 2)).off + 1, none⟩ = some (.int .i64 ((rd_T41 t709 (ji88)).f1))) (ds := []) (bm 58 0) sqF rfl rfl ⟨hx754_0, hx755_0, hx755_1, hx757_0, hx757_1, hx758_0, hx758_1, hx759_0, hx759_1, hx760_0, hx760_1, hx761_0, hx761_1, hx762_0, hx762_1⟩ (fun hHeld => ?_); refine with_tabW lw_WoolTruth.tab14 lw_WoolTruth.bits14 (fun HT_ HW_ => ?_)
                 generalize wr.drew = w92 at HO_4 HO_5 HO_7 HO_9 HO_690000 HO_690001 BK682 BK689 BK732 HB hx754_0 hx755_0 hx755_1 hx757_0 hx757_1 hx758_0 hx758_1 hx759_0 hx759_1 hx760_0 hx760_1 hx761_0 hx761_1 hx762_0 hx762_1 hHeld ⊢
                 refine pure_ (i := 0) (N := some 117) (v := ?_) (a' := ?_) (bm 58 1) rfl rfl (any_of HT_.out sqF) (fun _ _ _ h => h) (Or.inl ⟨by rfl, ?_⟩) ?_ ?_; rotate_left; intro w'; go_simp; (with_reducible rfl); rotate_left; simp only [Act.put, sqA, i64_w, i32_w]; rfl; refine pure_ (i := 1) (N := some 118) (v := ?_) (a' := ?_) (bm 58 3) rfl rfl (any_of HT_.out sqF) (fun _ _ _ h => h) (Or.inl ⟨by rfl, ?_⟩) ?_ ?_; rotate_left; intro w'; go_simp; (with_reducible rfl); rotate_left; simp only [Act.put, sqA, i64_w, i32_w]; rfl; refine pure_ (i := 2) (N := some 119) (v := ?_) (a' := ?_) (bm 58 7) rfl rfl (any_of HT_.out sqF) (fun _ _ _ h => h) (Or.inl ⟨by rfl, ?_⟩) ?_ ?_; rotate_left; intro w'; go_simp; (with_reducible rfl); rotate_left; simp only [Act.put, sqA, i64_w, i32_w]; rfl; refine pure_ (i := 4) (N := some 121) (v := ?_) (a' := ?_) (bm 58 23) rfl rfl (any_of HT_.out sqF) (fun _ _ _ h => h) (Or.inl ⟨by rfl, ?_⟩) ?_ ?_; rotate_left; intro w'; go_simp; (with_reducible rfl); rotate_left; simp only [Act.put, sqA, i64_w, i32_w]; rfl; refine pure_ (i := 5) (N := some 122) (v := ?_) (a' := ?_) (bm 58 55) rfl rfl (any_of HT_.out sqF) (fun _ _ _ h => h) (Or.inl ⟨by rfl, ?_⟩) ?_ ?_; rotate_left; intro w'; go_simp; (with_reducible rfl); rotate_left; simp only [Act.put, sqA, i64_w, i32_w]; rfl; refine pure_ (i := 6) (N := some 123) (v := ?_) (a' := ?_) (bm 58 119) rfl rfl (any_of HT_.out sqF) (fun _ _ _ h => h) (Or.inl ⟨by rfl, ?_⟩) ?_ ?_; rotate_left; intro w'; go_simp; (with_reducible rfl); rotate_left; simp only [Act.put, sqA, i64_w, i32_w]; rfl; refine take_ (i := 3) (N := some 120) (v := ?_) (a' := ?_) (bm 58 127) rfl rfl (take_ofW HT_.out HW_.out sqF) (fun _ _ _ h => h) (Or.inl ⟨by rfl, ?_⟩) hHeld ?_ ?_; rotate_left; rintro w' ⟨s0, s1, s2, s3, s4, s5, s6, s7, s8, s9, s10, s11, s12, s13, s14⟩; go_simp; (with_reducible rfl); rotate_left; simp only [Act.put, sqA, i64_w, i32_w]; rfl; refine take_ (i := 7) (N := some 124) (v := ?_) (a' := ?_) (bm 58 255) rfl rfl (take_ofW HT_.out HW_.out sqF) (fun _ _ _ h => h) (Or.inl ⟨by rfl, ?_⟩) hHeld ?_ ?_; rotate_left; rintro w' ⟨s0, s1, s2, s3, s4, s5, s6, s7, s8, s9, s10, s11, s12, s13, s14⟩; go_simp; (with_reducible rfl); rotate_left; simp only [Act.put, sqA, i64_w, i32_w]; rfl
                 refine one_ (i := 8) (N := some 125) (bm 58 511) rfl rfl (one_of HT_.out sqF) (by decide) (fun K hK => ?_); refine goes_ Tryd.func49 sqF rfl #[.int .i64 (rd t690 x17_2), .agg #[.int .i64 ((rd_T41 t709 x17_2).f0), .int .i64 ((rd_T41 t709 x17_2).f1)]] (by rfl) rfl rfl sqM ?_
                 with_reducible refine (lw_in.calls (rd t690 x17_2) ((rd_T41 t709 x17_2).f0) ((rd_T41 t709 x17_2).f1) true _ A83.out).mono ?_
                 rintro e w94 ⟨rfl, hb⟩; have HS0_ := (hb.cell (World.block_lt_of_cell? _ _ (hHeld.1))).trans (hHeld.1); have HS1_ := (hb.cell (World.block_lt_of_cell? _ _ (hHeld.2.1))).trans (hHeld.2.1); have HS2_ := (hb.cell (World.block_lt_of_cell? _ _ (hHeld.2.2.1))).trans (hHeld.2.2.1); have HS3_ := (hb.cell (World.block_lt_of_cell? _ _ (hHeld.2.2.2.1))).trans (hHeld.2.2.2.1); have HS4_ := (hb.cell (World.block_lt_of_cell? _ _ (hHeld.2.2.2.2.1))).trans (hHeld.2.2.2.2.1); have HS5_ := (hb.cell (World.block_lt_of_cell? _ _ (hHeld.2.2.2.2.2.1))).trans (hHeld.2.2.2.2.2.1); have HS6_ := (hb.cell (World.block_lt_of_cell? _ _ (hHeld.2.2.2.2.2.2.1))).trans (hHeld.2.2.2.2.2.2.1); have HS7_ := (hb.cell (World.block_lt_of_cell? _ _ (hHeld.2.2.2.2.2.2.2.1))).trans (hHeld.2.2.2.2.2.2.2.1); have HS8_ := (hb.cell (World.block_lt_of_cell? _ _ (hHeld.2.2.2.2.2.2.2.2.1))).trans (hHeld.2.2.2.2.2.2.2.2.1); have HS9_ := (hb.cell (World.block_lt_of_cell? _ _ (hHeld.2.2.2.2.2.2.2.2.2.1))).trans (hHeld.2.2.2.2.2.2.2.2.2.1); have HS10_ := (hb.cell (World.block_lt_of_cell? _ _ (hHeld.2.2.2.2.2.2.2.2.2.2.1))).trans (hHeld.2.2.2.2.2.2.2.2.2.2.1); have HS11_ := (hb.cell (World.block_lt_of_cell? _ _ (hHeld.2.2.2.2.2.2.2.2.2.2.2.1))).trans (hHeld.2.2.2.2.2.2.2.2.2.2.2.1); have HS12_ := (hb.cell (World.block_lt_of_cell? _ _ (hHeld.2.2.2.2.2.2.2.2.2.2.2.2.1))).trans (hHeld.2.2.2.2.2.2.2.2.2.2.2.2.1); have HS13_ := (hb.cell (World.block_lt_of_cell? _ _ (hHeld.2.2.2.2.2.2.2.2.2.2.2.2.2.1))).trans (hHeld.2.2.2.2.2.2.2.2.2.2.2.2.2.1); have HS14_ := (hb.cell (World.block_lt_of_cell? _ _ (hHeld.2.2.2.2.2.2.2.2.2.2.2.2.2.2))).trans (hHeld.2.2.2.2.2.2.2.2.2.2.2.2.2.2); refine ⟨_, rfl, ?_⟩; have n0_ := Aside0.mk (Kd.R_below (sqR HO_4) hb); have n1_ := Aside0.mk (Kd.R_below (sqR HO_5) hb); have n2_ := Aside0.mk (Kd.R_below (sqR HO_7) hb); have n3_ := Aside0.mk (Kd.R_below (sqR HO_9) hb); have n4_ := Aside0.mk (Kd.R_below (sqR HO_690000) hb); have n5_ := Aside0.mk (Kd.R_below (sqR HO_690001) hb); have n6_ := Aside0.mk (blk_below (g := gb682) (o := .cells #[.slice A0_0 l0_0.length c0_0, .int .u16 a0_1, .slice A0_2 l0_2.length c0_2, .slice A0_3 l0_3.length c0_3] 69 (0, 0)) (sqK BK682) hb); have n7_ := Aside0.mk (blk_below (g := gb689) (o := .cells #[.slice Ao30 t697.length co30, .slice Ao32 t700.length co32] 25 (0, 0)) (sqK BK689) hb); have n8_ := Aside0.mk (blk_below (g := gb732) (o := .cells #[.int .i64 t729, .int .i64 t730] 41 (0, 0)) (sqK BK732) hb); have n9_ := Aside0.mk (below_step (sqB HB) hb); clear HO_4 HO_5 HO_7 HO_9 HO_690000 HO_690001 BK682 BK689 BK732 HB; have HO_4 := n0_; have HO_5 := n1_; have HO_7 := n2_; have HO_9 := n3_; have HO_690000 := n4_; have HO_690001 := n5_; have BK682 := n6_; have BK689 := n7_; have BK732 := n8_; have HB := n9_; clear n0_ n1_ n2_ n3_ n4_ n5_ n6_ n7_ n8_ n9_; (try clear hb); (try clear hb2); (try clear hk); (try clear hi); refine hK.out _ _ ⟨HS0_, HS1_, HS2_, HS3_, HS4_, HS5_, HS6_, HS7_, HS8_, HS9_, HS10_, HS11_, HS12_, HS13_, HS14_⟩ (fun hHeld => ?_)
                 clear hK K; refine norm_ (a' := ?_) ?_ ?_
                 rotate_left
                 ·show Act.put _ (some 125) _ = _
                  simp only [Act.put, sqA, i64_w, i32_w]; rfl
                 refine pure_ (i := 9) (N := some 126) (v := ?_) (a' := ?_) (bm 58 1023) rfl rfl (any_of HT_.out sqF) (fun _ _ _ h => h) (Or.inl ⟨by rfl, ?_⟩) ?_ ?_; rotate_left; intro w'; go_simp; (with_reducible rfl); rotate_left; simp only [Act.put, sqA, i64_w, i32_w]; rfl; refine pure_ (i := 10) (N := some 127) (v := ?_) (a' := ?_) (bm 58 2047) rfl rfl (any_of HT_.out sqF) (fun _ _ _ h => h) (Or.inl ⟨by rfl, ?_⟩) ?_ ?_; rotate_left; intro w'; go_simp; (with_reducible rfl); rotate_left; simp only [Act.put, sqA, i64_w, i32_w]; rfl; refine pure_ (i := 11) (N := some 128) (v := ?_) (a' := ?_) (bm 58 4095) rfl rfl (any_of HT_.out sqF) (fun _ _ _ h => h) (Or.inl ⟨by rfl, ?_⟩) ?_ ?_; rotate_left; intro w'; go_simp; (with_reducible rfl); rotate_left; simp only [Act.put, sqA, i64_w, i32_w]; rfl; refine pure_ (i := 12) (N := some 129) (v := ?_) (a' := ?_) (bm 58 8191) rfl rfl (any_of HT_.out sqF) (fun _ _ _ h => h) (Or.inl ⟨by rfl, ?_⟩) ?_ ?_; rotate_left; intro w'; go_simp; (with_reducible rfl); rotate_left; simp only [Act.put, sqA, i64_w, i32_w]; rfl; refine pure_ (i := 13) (N := some 130) (v := ?_) (a' := ?_) (bm 58 16383) rfl rfl (any_of HT_.out sqF) (fun _ _ _ h => h) (Or.inl ⟨by rfl, ?_⟩) ?_ ?_; rotate_left; intro w'; go_simp; (with_reducible rfl); rotate_left; simp only [Act.put, sqA, i64_w, i32_w]; rfl; refine pure_ (i := 14) (N := some 131) (v := ?_) (a' := ?_) (bm 58 32767) rfl rfl (any_of HT_.out sqF) (fun _ _ _ h => h) (Or.inl ⟨by rfl, ?_⟩) ?_ ?_; rotate_left; intro w'; go_simp; (with_reducible rfl); rotate_left; simp only [Act.put, sqA, i64_w, i32_w]; rfl; refine take_ (i := 15) (N := some 132) (v := ?_) (a' := ?_) (bm 58 65535) rfl rfl (take_ofW HT_.out HW_.out sqF) (fun _ _ _ h => h) (Or.inl ⟨by rfl, ?_⟩) hHeld ?_ ?_; rotate_left; rintro w' ⟨s0, s1, s2, s3, s4, s5, s6, s7, s8, s9, s10, s11, s12, s13, s14⟩; go_simp; (with_reducible rfl); rotate_left; simp only [Act.put, sqA, i64_w, i32_w]; rfl; refine pure_ (i := 16) (N := some 133) (v := ?_) (a' := ?_) (bm 58 131071) rfl rfl (any_of HT_.out sqF) (fun _ _ _ h => h) (Or.inl ⟨by rfl, ?_⟩) ?_ ?_; rotate_left; intro w'; go_simp; (with_reducible rfl); rotate_left; simp only [Act.put, sqA, i64_w, i32_w]; rfl; refine pure_ (i := 17) (N := some 134) (v := ?_) (a' := ?_) (bm 58 262143) rfl rfl (any_of HT_.out sqF) (fun _ _ _ h => h) (Or.inl ⟨by rfl, ?_⟩) ?_ ?_; rotate_left; intro w'; go_simp; (with_reducible rfl); rotate_left; simp only [Act.put, sqA, i64_w, i32_w]; rfl; refine pure_ (i := 18) (N := some 135) (v := ?_) (a' := ?_) (bm 58 524287) rfl rfl (any_of HT_.out sqF) (fun _ _ _ h => h) (Or.inl ⟨by rfl, ?_⟩) ?_ ?_; rotate_left; intro w'; go_simp; (with_reducible rfl); rotate_left; simp only [Act.put, sqA, i64_w, i32_w]; rfl; refine pure_ (i := 19) (N := some 136) (v := ?_) (a' := ?_) (bm 58 1048575) rfl rfl (any_of HT_.out sqF) (fun _ _ _ h => h) (Or.inl ⟨by rfl, ?_⟩) ?_ ?_; rotate_left; intro w'; go_simp; (with_reducible rfl); rotate_left; simp only [Act.put, sqA, i64_w, i32_w]; rfl; refine pure_ (i := 20) (N := some 137) (v := ?_) (a' := ?_) (bm 58 2097151) rfl rfl (any_of HT_.out sqF) (fun _ _ _ h => h) (Or.inl ⟨by rfl, ?_⟩) ?_ ?_; rotate_left; intro w'; go_simp; (with_reducible rfl); rotate_left; simp only [Act.put, sqA, i64_w, i32_w]; rfl
                 refine pure_ (i := 21) (N := some 138) (v := ?_) (a' := ?_) (bm 58 4194303) rfl rfl (any_of HT_.out sqF) (fun _ _ _ h => h) (Or.inl ⟨by rfl, ?_⟩) ?_ ?_; rotate_left; intro w'; go_simp; (with_reducible rfl); rotate_left; simp only [Act.put, sqA, i64_w, i32_w]; rfl; refine pure_ (i := 22) (N := some 139) (v := ?_) (a' := ?_) (bm 58 8388607) rfl rfl (any_of HT_.out sqF) (fun _ _ _ h => h) (Or.inl ⟨by rfl, ?_⟩) ?_ ?_; rotate_left; intro w'; go_simp; (with_reducible rfl); rotate_left; simp only [Act.put, sqA, i64_w, i32_w]; rfl; refine take_ (i := 23) (N := some 140) (v := ?_) (a' := ?_) (bm 58 16777215) rfl rfl (take_ofW HT_.out HW_.out sqF) (fun _ _ _ h => h) (Or.inl ⟨by rfl, ?_⟩) hHeld ?_ ?_; rotate_left; rintro w' ⟨s0, s1, s2, s3, s4, s5, s6, s7, s8, s9, s10, s11, s12, s13, s14⟩; go_simp; (with_reducible rfl); rotate_left; simp only [Act.put, sqA, i64_w, i32_w]; rfl; refine pure_ (i := 24) (N := some 141) (v := ?_) (a' := ?_) (bm 58 33554431) rfl rfl (any_of HT_.out sqF) (fun _ _ _ h => h) (Or.inl ⟨by rfl, ?_⟩) ?_ ?_; rotate_left; intro w'; go_simp; (with_reducible rfl); rotate_left; simp only [Act.put, sqA, i64_w, i32_w]; rfl; refine pure_ (i := 25) (N := some 142) (v := ?_) (a' := ?_) (bm 58 67108863) rfl rfl (any_of HT_.out sqF) (fun _ _ _ h => h) (Or.inl ⟨by rfl, ?_⟩) ?_ ?_; rotate_left; intro w'; go_simp; (with_reducible rfl); rotate_left; simp only [Act.put, sqA, i64_w, i32_w]; rfl; refine pure_ (i := 26) (N := some 143) (v := ?_) (a' := ?_) (bm 58 134217727) rfl rfl (any_of HT_.out sqF) (fun _ _ _ h => h) (Or.inl ⟨by rfl, ?_⟩) ?_ ?_; rotate_left; intro w'; go_simp; (with_reducible rfl); rotate_left; simp only [Act.put, sqA, i64_w, i32_w]; rfl; refine pure_ (i := 27) (N := some 144) (v := ?_) (a' := ?_) (bm 58 268435455) rfl rfl (any_of HT_.out sqF) (fun _ _ _ h => h) (Or.inl ⟨by rfl, ?_⟩) ?_ ?_; rotate_left; intro w'; go_simp; (with_reducible rfl); rotate_left; simp only [Act.put, sqA, i64_w, i32_w]; rfl; refine pure_ (i := 28) (N := some 145) (v := ?_) (a' := ?_) (bm 58 536870911) rfl rfl (any_of HT_.out sqF) (fun _ _ _ h => h) (Or.inl ⟨by rfl, ?_⟩) ?_ ?_; rotate_left; intro w'; go_simp; (with_reducible rfl); rotate_left; simp only [Act.put, sqA, i64_w, i32_w]; rfl; refine pure_ (i := 29) (N := some 146) (v := ?_) (a' := ?_) (bm 58 1073741823) rfl rfl (any_of HT_.out sqF) (fun _ _ _ h => h) (Or.inl ⟨by rfl, ?_⟩) ?_ ?_; rotate_left; intro w'; go_simp; (with_reducible rfl); rotate_left; simp only [Act.put, sqA, i64_w, i32_w]; rfl; refine pure_ (i := 30) (N := some 147) (v := ?_) (a' := ?_) (bm 58 2147483647) rfl rfl (any_of HT_.out sqF) (fun _ _ _ h => h) (Or.inl ⟨by rfl, ?_⟩) ?_ ?_; rotate_left; intro w'; go_simp; (with_reducible rfl); rotate_left; simp only [Act.put, sqA, i64_w, i32_w]; rfl; refine pure_ (i := 31) (N := some 148) (v := ?_) (a' := ?_) (bm 58 4294967295) rfl rfl (any_of HT_.out sqF) (fun _ _ _ h => h) (Or.inl ⟨by rfl, ?_⟩) ?_ ?_; rotate_left; intro w'; go_simp; (with_reducible rfl); rotate_left; simp only [Act.put, sqA, i64_w, i32_w]; rfl
                 refine pure_ (i := 32) (N := some 149) (v := ?_) (a' := ?_) (bm 58 8589934591) rfl rfl (any_of HT_.out sqF) (fun _ _ _ h => h) (Or.inl ⟨by rfl, ?_⟩) ?_ ?_; rotate_left; intro w'; go_simp; (with_reducible rfl); rotate_left; simp only [Act.put, sqA, i64_w, i32_w]; rfl; refine pure_ (i := 33) (N := some 150) (v := ?_) (a' := ?_) (bm 58 17179869183) rfl rfl (any_of HT_.out sqF) (fun _ _ _ h => h) (Or.inl ⟨by rfl, ?_⟩) ?_ ?_; rotate_left; intro w'; go_simp; (with_reducible rfl); rotate_left; simp only [Act.put, sqA, i64_w, i32_w]; rfl; refine pure_ (i := 35) (N := some 152) (v := ?_) (a' := ?_) (bm 58 51539607551) rfl rfl (any_of HT_.out sqF) (fun _ _ _ h => h) (Or.inl ⟨by rfl, ?_⟩) ?_ ?_; rotate_left; intro w'; go_simp; (with_reducible rfl); rotate_left; simp only [Act.put, sqA, i64_w, i32_w]; rfl; refine pure_ (i := 36) (N := some 153) (v := ?_) (a' := ?_) (bm 58 120259084287) rfl rfl (any_of HT_.out sqF) (fun _ _ _ h => h) (Or.inl ⟨by rfl, ?_⟩) ?_ ?_; rotate_left; intro w'; go_simp; (with_reducible rfl); rotate_left; simp only [Act.put, sqA, i64_w, i32_w]; rfl; refine pure_ (i := 37) (N := some 154) (v := ?_) (a' := ?_) (bm 58 257698037759) rfl rfl (any_of HT_.out sqF) (fun _ _ _ h => h) (Or.inl ⟨by rfl, ?_⟩) ?_ ?_; rotate_left; intro w'; go_simp; (with_reducible rfl); rotate_left; simp only [Act.put, sqA, i64_w, i32_w]; rfl; refine pure_ (i := 38) (N := some 155) (v := ?_) (a' := ?_) (bm 58 532575944703) rfl rfl (any_of HT_.out sqF) (fun _ _ _ h => h) (Or.inl ⟨by rfl, ?_⟩) ?_ ?_; rotate_left; intro w'; go_simp; (with_reducible rfl); rotate_left; simp only [Act.put, sqA, i64_w, i32_w]; rfl; refine pure_ (i := 39) (N := some 156) (v := ?_) (a' := ?_) (bm 58 1082331758591) rfl rfl (any_of HT_.out sqF) (fun _ _ _ h => h) (Or.inl ⟨by rfl, ?_⟩) ?_ ?_; rotate_left; intro w'; go_simp; (with_reducible rfl); rotate_left; simp only [Act.put, sqA, i64_w, i32_w]; rfl; refine take_ (i := 34) (N := some 151) (v := ?_) (a' := ?_) (bm 58 1099511627775) rfl rfl (take_ofW HT_.out HW_.out sqF) (fun _ _ _ h => h) (Or.inl ⟨by rfl, ?_⟩) hHeld ?_ ?_; rotate_left; rintro w' ⟨s0, s1, s2, s3, s4, s5, s6, s7, s8, s9, s10, s11, s12, s13, s14⟩; go_simp; (with_reducible rfl); rotate_left; simp only [Act.put, sqA, i64_w, i32_w]; rfl; refine take_ (i := 40) (N := some 157) (v := ?_) (a' := ?_) (bm 58 2199023255551) rfl rfl (take_ofW HT_.out HW_.out sqF) (fun _ _ _ h => h) (Or.inl ⟨by rfl, ?_⟩) hHeld ?_ ?_; rotate_left; rintro w' ⟨s0, s1, s2, s3, s4, s5, s6, s7, s8, s9, s10, s11, s12, s13, s14⟩; go_simp; (with_reducible rfl); rotate_left; simp only [Act.put, sqA, i64_w, i32_w]; rfl; refine pure_ (i := 41) (N := some 158) (v := ?_) (a' := ?_) (bm 58 4398046511103) rfl rfl (any_of HT_.out sqF) (fun _ _ _ h => h) (Or.inl ⟨by rfl, ?_⟩) ?_ ?_; rotate_left; intro w'; go_simp; (with_reducible rfl); rotate_left; simp only [Act.put, sqA, i64_w, i32_w]; rfl; refine pure_ (i := 42) (N := some 159) (v := ?_) (a' := ?_) (bm 58 8796093022207) rfl rfl (any_of HT_.out sqF) (fun _ _ _ h => h) (Or.inl ⟨by rfl, ?_⟩) ?_ ?_; rotate_left; intro w'; go_simp; (with_reducible rfl); rotate_left; simp only [Act.put, sqA, i64_w, i32_w]; rfl
                 refine pure_ (i := 43) (N := some 160) (v := ?_) (a' := ?_) (bm 58 17592186044415) rfl rfl (any_of HT_.out sqF) (fun _ _ _ h => h) (Or.inl ⟨by rfl, ?_⟩) ?_ ?_; rotate_left; intro w'; go_simp; (with_reducible rfl); rotate_left; simp only [Act.put, sqA, i64_w, i32_w]; rfl; refine pure_ (i := 44) (N := some 161) (v := ?_) (a' := ?_) (bm 58 35184372088831) rfl rfl (any_of HT_.out sqF) (fun _ _ _ h => h) (Or.inl ⟨by rfl, ?_⟩) ?_ ?_; rotate_left; intro w'; go_simp; (with_reducible rfl); rotate_left; simp only [Act.put, sqA, i64_w, i32_w]; rfl; refine pure_ (i := 45) (N := some 162) (v := ?_) (a' := ?_) (bm 58 70368744177663) rfl rfl (any_of HT_.out sqF) (fun _ _ _ h => h) (Or.inl ⟨by rfl, ?_⟩) ?_ ?_; rotate_left; intro w'; go_simp; (with_reducible rfl); rotate_left; simp only [Act.put, sqA, i64_w, i32_w]; rfl; refine pure_ (i := 46) (N := some 163) (v := ?_) (a' := ?_) (bm 58 140737488355327) rfl rfl (any_of HT_.out sqF) (fun _ _ _ h => h) (Or.inl ⟨by rfl, ?_⟩) ?_ ?_; rotate_left; intro w'; go_simp; (with_reducible rfl); rotate_left; simp only [Act.put, sqA, i64_w, i32_w]; rfl; refine pure_ (i := 48) (N := some 165) (v := ?_) (a' := ?_) (bm 58 422212465065983) rfl rfl (any_of HT_.out sqF) (fun _ _ _ h => h) (Or.inl ⟨by rfl, ?_⟩) ?_ ?_; rotate_left; intro w'; go_simp; (with_reducible rfl); rotate_left; simp only [Act.put, sqA, i64_w, i32_w]; rfl; refine pure_ (i := 49) (N := some 166) (v := ?_) (a' := ?_) (bm 58 985162418487295) rfl rfl (any_of HT_.out sqF) (fun _ _ _ h => h) (Or.inl ⟨by rfl, ?_⟩) ?_ ?_; rotate_left; intro w'; go_simp; (with_reducible rfl); rotate_left; simp only [Act.put, sqA, i64_w, i32_w]; rfl; refine pure_ (i := 50) (N := some 167) (v := ?_) (a' := ?_) (bm 58 2111062325329919) rfl rfl (any_of HT_.out sqF) (fun _ _ _ h => h) (Or.inl ⟨by rfl, ?_⟩) ?_ ?_; rotate_left; intro w'; go_simp; (with_reducible rfl); rotate_left; simp only [Act.put, sqA, i64_w, i32_w]; rfl; refine pure_ (i := 51) (N := some 168) (v := ?_) (a' := ?_) (bm 58 4362862139015167) rfl rfl (any_of HT_.out sqF) (fun _ _ _ h => h) (Or.inl ⟨by rfl, ?_⟩) ?_ ?_; rotate_left; intro w'; go_simp; (with_reducible rfl); rotate_left; simp only [Act.put, sqA, i64_w, i32_w]; rfl; refine pure_ (i := 52) (N := some 169) (v := ?_) (a' := ?_) (bm 58 8866461766385663) rfl rfl (any_of HT_.out sqF) (fun _ _ _ h => h) (Or.inl ⟨by rfl, ?_⟩) ?_ ?_; rotate_left; intro w'; go_simp; (with_reducible rfl); rotate_left; simp only [Act.put, sqA, i64_w, i32_w]; rfl; refine take_ (i := 47) (N := some 164) (v := ?_) (a' := ?_) (bm 58 9007199254740991) rfl rfl (take_ofW HT_.out HW_.out sqF) (fun _ _ _ h => h) (Or.inl ⟨by rfl, ?_⟩) hHeld ?_ ?_; rotate_left; rintro w' ⟨s0, s1, s2, s3, s4, s5, s6, s7, s8, s9, s10, s11, s12, s13, s14⟩; go_simp; (with_reducible rfl); rotate_left; simp only [Act.put, sqA, i64_w, i32_w]; rfl; refine take_ (i := 53) (N := some 170) (v := ?_) (a' := ?_) (bm 58 18014398509481983) rfl rfl (take_ofW HT_.out HW_.out sqF) (fun _ _ _ h => h) (Or.inl ⟨by rfl, ?_⟩) hHeld ?_ ?_; rotate_left; rintro w' ⟨s0, s1, s2, s3, s4, s5, s6, s7, s8, s9, s10, s11, s12, s13, s14⟩; go_simp; (with_reducible rfl); rotate_left; simp only [Act.put, sqA, i64_w, i32_w]; rfl
                 refine pure_ (i := 54) (N := some 171) (v := ?_) (a' := ?_) (bm 58 36028797018963967) rfl rfl (any_of HT_.out sqF) (fun _ _ _ h => h) (Or.inl ⟨by rfl, ?_⟩) ?_ ?_; rotate_left; intro w'; go_simp; (with_reducible rfl); rotate_left; simp only [Act.put, sqA, i64_w, i32_w]; rfl; refine pure_ (i := 55) (N := some 172) (v := ?_) (a' := ?_) (bm 58 72057594037927935) rfl rfl (any_of HT_.out sqF) (fun _ _ _ h => h) (Or.inl ⟨by rfl, ?_⟩) ?_ ?_; rotate_left; intro w'; go_simp; (with_reducible rfl); rotate_left; simp only [Act.put, sqA, i64_w, i32_w]; rfl; refine pure_ (i := 56) (N := some 173) (v := ?_) (a' := ?_) (bm 58 144115188075855871) rfl rfl (any_of HT_.out sqF) (fun _ _ _ h => h) (Or.inl ⟨by rfl, ?_⟩) ?_ ?_; rotate_left; intro w'; go_simp; (with_reducible rfl); rotate_left; simp only [Act.put, sqA, i64_w, i32_w]; rfl; refine pure_ (i := 57) (N := some 174) (v := ?_) (a' := ?_) (bm 58 288230376151711743) rfl rfl (any_of HT_.out sqF) (fun _ _ _ h => h) (Or.inl ⟨by rfl, ?_⟩) ?_ ?_; rotate_left; intro w'; go_simp; (with_reducible rfl); rotate_left; simp only [Act.put, sqA, i64_w, i32_w]; rfl
                 refine done_ (done_of HT_.out sqF) ?_
                 try go_wp2
                 go_meet
                 case rel => exact ⟨_, (decide (((rd_T41 t709 x17_2).f1) > ((rd_T41 t709 (ji88)).f1))), (by first | rfl | (simp; done) | (simp only [← hji88] <;> (first | rfl | simp)) | (simp [*]; done)), H', ⟨by have := HJ14.out; have := HK2.out; first | omega | exact Nat.le_refl _⟩, ⟨sqR HO_4⟩, ⟨sqR HO_5⟩, ⟨sqR HO_7⟩, ⟨sqR HO_9⟩, ⟨sqR HO_690000⟩, ⟨sqR HO_690001⟩, ⟨sqK BK682⟩, ⟨sqK BK689⟩, ⟨sqK BK732⟩, ⟨sqB HB⟩⟩
               ·rw [if_neg c90] at H
                exact absurd H (by simp)
              ·rw [if_neg c89] at H
               exact absurd H (by simp)
             ·rw [if_neg c87] at H
              have c87b0 : decide (0 < x17_2) = false := decide_eq_false c87; clear c87; have H' := Aside0.mk H
              clear H; try go_wp2
              have n0_ := Aside0.mk (Kd.R_drew HO_4.out); have n1_ := Aside0.mk (Kd.R_drew HO_5.out); have n2_ := Aside0.mk (Kd.R_drew HO_7.out); have n3_ := Aside0.mk (Kd.R_drew HO_9.out); have n4_ := Aside0.mk (Kd.R_drew HO_690000.out); have n5_ := Aside0.mk (Kd.R_drew HO_690001.out); have n6_ := Aside0.mk (blk_drew BK682.out); have n7_ := Aside0.mk (blk_drew BK689.out); have n8_ := Aside0.mk (blk_drew BK732.out); have n9_ := Aside0.mk (below_drew1 HB.out); clear HO_4 HO_5 HO_7 HO_9 HO_690000 HO_690001 BK682 BK689 BK732 HB; have HO_4 := n0_; have HO_5 := n1_; have HO_7 := n2_; have HO_9 := n3_; have HO_690000 := n4_; have HO_690001 := n5_; have BK682 := n6_; have BK689 := n7_; have BK732 := n8_; have HB := n9_; clear n0_ n1_ n2_ n3_ n4_ n5_ n6_ n7_ n8_ n9_; have p754 : 0 ≤ (x17_2 : Int) := sqD; have q754 : x17_2 < (t690.length : Int) := sqD; obtain ⟨ad754, e754, hx754_0⟩ := Kd.at_int (Kd.R_reads' HO_4.out).2.2 x17_2 p754 q754
              cases e754
              replace p754 := eq_true p754; replace q754 := eq_true q754; obtain ⟨Ao96, co96, eo96⟩ := Kd.R_slice HO_7.out
              (first | subst eo96 | (injection eo96 with f1_ f2_ f3_; have f4_ := f1_.symm; have f5_ := f3_.symm; clear f1_ f2_ f3_; subst f4_; subst f5_))
              have p755 : 0 ≤ (x17_2 : Int) := sqD; have q755 : x17_2 < (t709.length : Int) := sqD; obtain ⟨ad755, e755, hx755_0, hx755_1⟩ := at_T41 (Kd.R_reads' HO_7.out).2.2 x17_2 p755 q755
              cases e755
              replace p755 := eq_true p755; replace q755 := eq_true q755; have p757 : 0 ≤ (x17_2 : Int) := sqD; have q757 : x17_2 < (t709.length : Int) := sqD; obtain ⟨ad757, e757, hx757_0, hx757_1⟩ := at_T41 (Kd.R_reads' HO_7.out).2.2 x17_2 p757 q757; obtain rfl : ad755 = ad757 := (by injection e757); replace p757 := eq_true p757; replace q757 := eq_true q757; have p758 : 0 ≤ (x17_2 : Int) := sqD; have q758 : x17_2 < (t709.length : Int) := sqD; obtain ⟨ad758, e758, hx758_0, hx758_1⟩ := at_T41 (Kd.R_reads' HO_7.out).2.2 x17_2 p758 q758; obtain rfl : ad755 = ad758 := (by injection e758); replace p758 := eq_true p758; replace q758 := eq_true q758; refine start_ (n := 58) (S := fun w' => w'.cell? (ad754.add (x17_2).toNat) = some (.int .i64 (rd t690 x17_2)) ∧ w'.cell? (ad755.add ((x17_2).toNat * 2)) = some (.int .i64 ((rd_T41 t709 x17_2).f0)) ∧ w'.cell? ⟨(ad755.add ((x17_2).toNat * 2)).block, (ad755.add ((x17_2).toNat * 2)).off + 1, none⟩ = some (.int .i64 ((rd_T41 t709 x17_2).f1)) ∧ w'.cell? (ad755.add ((x17_2).toNat * 2)) = some (.int .i64 ((rd_T41 t709 x17_2).f0)) ∧ w'.cell? ⟨(ad755.add ((x17_2).toNat * 2)).block, (ad755.add ((x17_2).toNat * 2)).off + 1, none⟩ = some (.int .i64 ((rd_T41 t709 x17_2).f1)) ∧ w'.cell? (ad755.add ((x17_2).toNat * 2)) = some (.int .i64 ((rd_T41 t709 x17_2).f0)) ∧ w'.cell? ⟨(ad755.add ((x17_2).toNat * 2)).block, (ad755.add ((x17_2).toNat * 2)).off + 1, none⟩ = some (.int .i64 ((rd_T41 t709 x17_2).f1))) (ds := []) (bm 58 0) sqF rfl rfl ⟨hx754_0, hx755_0, hx755_1, hx757_0, hx757_1, hx758_0, hx758_1⟩ (fun hHeld => ?_); refine with_tabW lw_WoolTruth.tab14 lw_WoolTruth.bits14 (fun HT_ HW_ => ?_)
              generalize wr.drew = w95 at HO_4 HO_5 HO_7 HO_9 HO_690000 HO_690001 BK682 BK689 BK732 HB hx754_0 hx755_0 hx755_1 hx757_0 hx757_1 hx758_0 hx758_1 hHeld ⊢
              refine pure_ (i := 0) (N := some 117) (v := ?_) (a' := ?_) (bm 58 1) rfl rfl (any_of HT_.out sqF) (fun _ _ _ h => h) (Or.inl ⟨by rfl, ?_⟩) ?_ ?_; rotate_left; intro w'; go_simp; (with_reducible rfl); rotate_left; simp only [Act.put, sqA, i64_w, i32_w]; rfl; refine pure_ (i := 1) (N := some 118) (v := ?_) (a' := ?_) (bm 58 3) rfl rfl (any_of HT_.out sqF) (fun _ _ _ h => h) (Or.inl ⟨by rfl, ?_⟩) ?_ ?_; rotate_left; intro w'; go_simp; (with_reducible rfl); rotate_left; simp only [Act.put, sqA, i64_w, i32_w]; rfl; refine pure_ (i := 2) (N := some 119) (v := ?_) (a' := ?_) (bm 58 7) rfl rfl (any_of HT_.out sqF) (fun _ _ _ h => h) (Or.inl ⟨by rfl, ?_⟩) ?_ ?_; rotate_left; intro w'; go_simp; (with_reducible rfl); rotate_left; simp only [Act.put, sqA, i64_w, i32_w]; rfl; refine pure_ (i := 4) (N := some 121) (v := ?_) (a' := ?_) (bm 58 23) rfl rfl (any_of HT_.out sqF) (fun _ _ _ h => h) (Or.inl ⟨by rfl, ?_⟩) ?_ ?_; rotate_left; intro w'; go_simp; (with_reducible rfl); rotate_left; simp only [Act.put, sqA, i64_w, i32_w]; rfl; refine pure_ (i := 5) (N := some 122) (v := ?_) (a' := ?_) (bm 58 55) rfl rfl (any_of HT_.out sqF) (fun _ _ _ h => h) (Or.inl ⟨by rfl, ?_⟩) ?_ ?_; rotate_left; intro w'; go_simp; (with_reducible rfl); rotate_left; simp only [Act.put, sqA, i64_w, i32_w]; rfl; refine pure_ (i := 6) (N := some 123) (v := ?_) (a' := ?_) (bm 58 119) rfl rfl (any_of HT_.out sqF) (fun _ _ _ h => h) (Or.inl ⟨by rfl, ?_⟩) ?_ ?_; rotate_left; intro w'; go_simp; (with_reducible rfl); rotate_left; simp only [Act.put, sqA, i64_w, i32_w]; rfl; refine take_ (i := 3) (N := some 120) (v := ?_) (a' := ?_) (bm 58 127) rfl rfl (take_ofW HT_.out HW_.out sqF) (fun _ _ _ h => h) (Or.inl ⟨by rfl, ?_⟩) hHeld ?_ ?_; rotate_left; rintro w' ⟨s0, s1, s2, s3, s4, s5, s6⟩; go_simp; (with_reducible rfl); rotate_left; simp only [Act.put, sqA, i64_w, i32_w]; rfl; refine take_ (i := 7) (N := some 124) (v := ?_) (a' := ?_) (bm 58 255) rfl rfl (take_ofW HT_.out HW_.out sqF) (fun _ _ _ h => h) (Or.inl ⟨by rfl, ?_⟩) hHeld ?_ ?_; rotate_left; rintro w' ⟨s0, s1, s2, s3, s4, s5, s6⟩; go_simp; (with_reducible rfl); rotate_left; simp only [Act.put, sqA, i64_w, i32_w]; rfl
              refine one_ (i := 8) (N := some 125) (bm 58 511) rfl rfl (one_of HT_.out sqF) (by decide) (fun K hK => ?_); refine goes_ Tryd.func49 sqF rfl #[.int .i64 (rd t690 x17_2), .agg #[.int .i64 ((rd_T41 t709 x17_2).f0), .int .i64 ((rd_T41 t709 x17_2).f1)]] (by rfl) rfl rfl sqM ?_
              with_reducible refine (lw_in.calls (rd t690 x17_2) ((rd_T41 t709 x17_2).f0) ((rd_T41 t709 x17_2).f1) true _ A83.out).mono ?_
              rintro e w97 ⟨rfl, hb⟩; have HS0_ := (hb.cell (World.block_lt_of_cell? _ _ (hHeld.1))).trans (hHeld.1); have HS1_ := (hb.cell (World.block_lt_of_cell? _ _ (hHeld.2.1))).trans (hHeld.2.1); have HS2_ := (hb.cell (World.block_lt_of_cell? _ _ (hHeld.2.2.1))).trans (hHeld.2.2.1); have HS3_ := (hb.cell (World.block_lt_of_cell? _ _ (hHeld.2.2.2.1))).trans (hHeld.2.2.2.1); have HS4_ := (hb.cell (World.block_lt_of_cell? _ _ (hHeld.2.2.2.2.1))).trans (hHeld.2.2.2.2.1); have HS5_ := (hb.cell (World.block_lt_of_cell? _ _ (hHeld.2.2.2.2.2.1))).trans (hHeld.2.2.2.2.2.1); have HS6_ := (hb.cell (World.block_lt_of_cell? _ _ (hHeld.2.2.2.2.2.2))).trans (hHeld.2.2.2.2.2.2); refine ⟨_, rfl, ?_⟩; have n0_ := Aside0.mk (Kd.R_below (sqR HO_4) hb); have n1_ := Aside0.mk (Kd.R_below (sqR HO_5) hb); have n2_ := Aside0.mk (Kd.R_below (sqR HO_7) hb); have n3_ := Aside0.mk (Kd.R_below (sqR HO_9) hb); have n4_ := Aside0.mk (Kd.R_below (sqR HO_690000) hb); have n5_ := Aside0.mk (Kd.R_below (sqR HO_690001) hb); have n6_ := Aside0.mk (blk_below (g := gb682) (o := .cells #[.slice A0_0 l0_0.length c0_0, .int .u16 a0_1, .slice A0_2 l0_2.length c0_2, .slice A0_3 l0_3.length c0_3] 69 (0, 0)) (sqK BK682) hb); have n7_ := Aside0.mk (blk_below (g := gb689) (o := .cells #[.slice Ao30 t697.length co30, .slice Ao32 t700.length co32] 25 (0, 0)) (sqK BK689) hb); have n8_ := Aside0.mk (blk_below (g := gb732) (o := .cells #[.int .i64 t729, .int .i64 t730] 41 (0, 0)) (sqK BK732) hb); have n9_ := Aside0.mk (below_step (sqB HB) hb); clear HO_4 HO_5 HO_7 HO_9 HO_690000 HO_690001 BK682 BK689 BK732 HB; have HO_4 := n0_; have HO_5 := n1_; have HO_7 := n2_; have HO_9 := n3_; have HO_690000 := n4_; have HO_690001 := n5_; have BK682 := n6_; have BK689 := n7_; have BK732 := n8_; have HB := n9_; clear n0_ n1_ n2_ n3_ n4_ n5_ n6_ n7_ n8_ n9_; (try clear hb); (try clear hb2); (try clear hk); (try clear hi); refine hK.out _ _ ⟨HS0_, HS1_, HS2_, HS3_, HS4_, HS5_, HS6_⟩ (fun hHeld => ?_); clear hK K; refine norm_ (a' := ?_) ?_ ?_
              rotate_left
              ·show Act.put _ (some 125) _ = _
               simp only [Act.put, sqA, i64_w, i32_w]; rfl
              refine pure_ (i := 9) (N := some 126) (v := ?_) (a' := ?_) (bm 58 1023) rfl rfl (any_of HT_.out sqF) (fun _ _ _ h => h) (Or.inl ⟨by rfl, ?_⟩) ?_ ?_; rotate_left; intro w'; go_simp; (with_reducible rfl); rotate_left; simp only [Act.put, sqA, i64_w, i32_w]; rfl; refine pure_ (i := 10) (N := some 127) (v := ?_) (a' := ?_) (bm 58 2047) rfl rfl (any_of HT_.out sqF) (fun _ _ _ h => h) (Or.inl ⟨by rfl, ?_⟩) ?_ ?_; rotate_left; intro w'; go_simp; (with_reducible rfl); rotate_left; simp only [Act.put, sqA, i64_w, i32_w]; rfl; refine pure_ (i := 11) (N := some 128) (v := ?_) (a' := ?_) (bm 58 4095) rfl rfl (any_of HT_.out sqF) (fun _ _ _ h => h) (Or.inl ⟨by rfl, ?_⟩) ?_ ?_; rotate_left; intro w'; go_simp; (with_reducible rfl); rotate_left; simp only [Act.put, sqA, i64_w, i32_w]; rfl; refine pure_ (i := 12) (N := some 129) (v := ?_) (a' := ?_) (bm 58 8191) rfl rfl (any_of HT_.out sqF) (fun _ _ _ h => h) (Or.inl ⟨by rfl, ?_⟩) ?_ ?_; rotate_left; intro w'; go_simp; (with_reducible rfl); rotate_left; simp only [Act.put, sqA, i64_w, i32_w]; rfl; refine pure_ (i := 13) (N := some 130) (v := ?_) (a' := ?_) (bm 58 16383) rfl rfl (any_of HT_.out sqF) (fun _ _ _ h => h) (Or.inl ⟨by rfl, ?_⟩) ?_ ?_; rotate_left; intro w'; go_simp; (with_reducible rfl); rotate_left; simp only [Act.put, sqA, i64_w, i32_w]; rfl; refine pure_ (i := 14) (N := some 131) (v := ?_) (a' := ?_) (bm 58 32767) rfl rfl (any_of HT_.out sqF) (fun _ _ _ h => h) (Or.inl ⟨by rfl, ?_⟩) ?_ ?_; rotate_left; intro w'; go_simp; (with_reducible rfl); rotate_left; simp only [Act.put, sqA, i64_w, i32_w]; rfl; refine take_ (i := 15) (N := some 132) (v := ?_) (a' := ?_) (bm 58 65535) rfl rfl (take_ofW HT_.out HW_.out sqF) (fun _ _ _ h => h) (Or.inl ⟨by rfl, ?_⟩) hHeld ?_ ?_; rotate_left; rintro w' ⟨s0, s1, s2, s3, s4, s5, s6⟩; go_simp; (with_reducible rfl); rotate_left; simp only [Act.put, sqA, i64_w, i32_w]; rfl; refine pure_ (i := 16) (N := some 133) (v := ?_) (a' := ?_) (bm 58 131071) rfl rfl (any_of HT_.out sqF) (fun _ _ _ h => h) (Or.inl ⟨by rfl, ?_⟩) ?_ ?_; rotate_left; intro w'; go_simp; (with_reducible rfl); rotate_left; simp only [Act.put, sqA, i64_w, i32_w]; rfl; refine pure_ (i := 17) (N := some 134) (v := ?_) (a' := ?_) (bm 58 262143) rfl rfl (any_of HT_.out sqF) (fun _ _ _ h => h) (Or.inl ⟨by rfl, ?_⟩) ?_ ?_; rotate_left; intro w'; go_simp; (with_reducible rfl); rotate_left; simp only [Act.put, sqA, i64_w, i32_w]; rfl; refine pure_ (i := 18) (N := some 135) (v := ?_) (a' := ?_) (bm 58 524287) rfl rfl (any_of HT_.out sqF) (fun _ _ _ h => h) (Or.inl ⟨by rfl, ?_⟩) ?_ ?_; rotate_left; intro w'; go_simp; (with_reducible rfl); rotate_left; simp only [Act.put, sqA, i64_w, i32_w]; rfl; refine pure_ (i := 19) (N := some 136) (v := ?_) (a' := ?_) (bm 58 1048575) rfl rfl (any_of HT_.out sqF) (fun _ _ _ h => h) (Or.inl ⟨by rfl, ?_⟩) ?_ ?_; rotate_left; intro w'; go_simp; (with_reducible rfl); rotate_left; simp only [Act.put, sqA, i64_w, i32_w]; rfl; refine pure_ (i := 20) (N := some 137) (v := ?_) (a' := ?_) (bm 58 2097151) rfl rfl (any_of HT_.out sqF) (fun _ _ _ h => h) (Or.inl ⟨by rfl, ?_⟩) ?_ ?_; rotate_left; intro w'; go_simp; (with_reducible rfl); rotate_left; simp only [Act.put, sqA, i64_w, i32_w]; rfl
              refine pure_ (i := 21) (N := some 138) (v := ?_) (a' := ?_) (bm 58 4194303) rfl rfl (any_of HT_.out sqF) (fun _ _ _ h => h) (Or.inl ⟨by rfl, ?_⟩) ?_ ?_; rotate_left; intro w'; go_simp; (with_reducible rfl); rotate_left; simp only [Act.put, sqA, i64_w, i32_w]; rfl; refine pure_ (i := 22) (N := some 139) (v := ?_) (a' := ?_) (bm 58 8388607) rfl rfl (any_of HT_.out sqF) (fun _ _ _ h => h) (Or.inl ⟨by rfl, ?_⟩) ?_ ?_; rotate_left; intro w'; go_simp; (with_reducible rfl); rotate_left; simp only [Act.put, sqA, i64_w, i32_w]; rfl; refine take_ (i := 23) (N := some 140) (v := ?_) (a' := ?_) (bm 58 16777215) rfl rfl (take_ofW HT_.out HW_.out sqF) (fun _ _ _ h => h) (Or.inl ⟨by rfl, ?_⟩) hHeld ?_ ?_; rotate_left; rintro w' ⟨s0, s1, s2, s3, s4, s5, s6⟩; go_simp; (with_reducible rfl); rotate_left; simp only [Act.put, sqA, i64_w, i32_w]; rfl; refine pure_ (i := 24) (N := some 141) (v := ?_) (a' := ?_) (bm 58 33554431) rfl rfl (any_of HT_.out sqF) (fun _ _ _ h => h) (Or.inl ⟨by rfl, ?_⟩) ?_ ?_; rotate_left; intro w'; go_simp; (with_reducible rfl); rotate_left; simp only [Act.put, sqA, i64_w, i32_w]; rfl; refine pure_ (i := 25) (N := some 142) (v := ?_) (a' := ?_) (bm 58 67108863) rfl rfl (any_of HT_.out sqF) (fun _ _ _ h => h) (Or.inl ⟨by rfl, ?_⟩) ?_ ?_; rotate_left; intro w'; go_simp; (with_reducible rfl); rotate_left; simp only [Act.put, sqA, i64_w, i32_w]; rfl; refine pure_ (i := 26) (N := some 143) (v := ?_) (a' := ?_) (bm 58 134217727) rfl rfl (any_of HT_.out sqF) (fun _ _ _ h => h) (Or.inl ⟨by rfl, ?_⟩) ?_ ?_; rotate_left; intro w'; go_simp; (with_reducible rfl); rotate_left; simp only [Act.put, sqA, i64_w, i32_w]; rfl; refine pure_ (i := 27) (N := some 144) (v := ?_) (a' := ?_) (bm 58 268435455) rfl rfl (any_of HT_.out sqF) (fun _ _ _ h => h) (Or.inl ⟨by rfl, ?_⟩) ?_ ?_; rotate_left; intro w'; go_simp; (with_reducible rfl); rotate_left; simp only [Act.put, sqA, i64_w, i32_w]; rfl; refine pure_ (i := 28) (N := some 145) (v := ?_) (a' := ?_) (bm 58 536870911) rfl rfl (any_of HT_.out sqF) (fun _ _ _ h => h) (Or.inl ⟨by rfl, ?_⟩) ?_ ?_; rotate_left; intro w'; go_simp; (with_reducible rfl); rotate_left; simp only [Act.put, sqA, i64_w, i32_w]; rfl; refine pure_ (i := 29) (N := some 146) (v := ?_) (a' := ?_) (bm 58 1073741823) rfl rfl (any_of HT_.out sqF) (fun _ _ _ h => h) (Or.inl ⟨by rfl, ?_⟩) ?_ ?_; rotate_left; intro w'; go_simp; (with_reducible rfl); rotate_left; simp only [Act.put, sqA, i64_w, i32_w]; rfl
              refine pure_ (i := 30) (N := some 147) (v := undef) (a' := ?_) (bm 58 2147483647) rfl rfl (any_of HT_.out sqF) (fun _ _ _ h => h) (Or.inr ⟨by rfl, rfl⟩) ?_ ?_
              rotate_left
              ·simp only [Act.put, sqA, i64_w, i32_w]; rfl
              refine pure_ (i := 31) (N := some 148) (v := undef) (a' := ?_) (bm 58 4294967295) rfl rfl (any_of HT_.out sqF) (fun _ _ _ h => h) (Or.inr ⟨by rfl, rfl⟩) ?_ ?_
              rotate_left
              ·simp only [Act.put, sqA, i64_w, i32_w]; rfl
              refine pure_ (i := 32) (N := some 149) (v := undef) (a' := ?_) (bm 58 8589934591) rfl rfl (any_of HT_.out sqF) (fun _ _ _ h => h) (Or.inr ⟨by rfl, rfl⟩) ?_ ?_
              rotate_left
              ·simp only [Act.put, sqA, i64_w, i32_w]; rfl
              refine pure_ (i := 33) (N := some 150) (v := undef) (a' := ?_) (bm 58 17179869183) rfl rfl (any_of HT_.out sqF) (fun _ _ _ h => h) (Or.inr ⟨by rfl, rfl⟩) ?_ ?_
              rotate_left
              ·simp only [Act.put, sqA, i64_w, i32_w]; rfl
              refine pure_ (i := 34) (N := some 151) (v := undef) (a' := ?_) (bm 58 34359738367) rfl rfl (any_of HT_.out sqF) (fun _ _ _ h => h) (Or.inr ⟨by rfl, rfl⟩) ?_ ?_
              rotate_left
              ·simp only [Act.put, sqA, i64_w, i32_w]; rfl
              refine pure_ (i := 35) (N := some 152) (v := undef) (a' := ?_) (bm 58 68719476735) rfl rfl (any_of HT_.out sqF) (fun _ _ _ h => h) (Or.inr ⟨by rfl, rfl⟩) ?_ ?_
              rotate_left
              ·simp only [Act.put, sqA, i64_w, i32_w]; rfl
              refine pure_ (i := 36) (N := some 153) (v := undef) (a' := ?_) (bm 58 137438953471) rfl rfl (any_of HT_.out sqF) (fun _ _ _ h => h) (Or.inr ⟨by rfl, rfl⟩) ?_ ?_
              rotate_left
              ·simp only [Act.put, sqA, i64_w, i32_w]; rfl
              refine pure_ (i := 37) (N := some 154) (v := undef) (a' := ?_) (bm 58 274877906943) rfl rfl (any_of HT_.out sqF) (fun _ _ _ h => h) (Or.inr ⟨by rfl, rfl⟩) ?_ ?_
              rotate_left
              ·simp only [Act.put, sqA, i64_w, i32_w]; rfl
              refine pure_ (i := 38) (N := some 155) (v := undef) (a' := ?_) (bm 58 549755813887) rfl rfl (any_of HT_.out sqF) (fun _ _ _ h => h) (Or.inr ⟨by rfl, rfl⟩) ?_ ?_
              rotate_left
              ·simp only [Act.put, sqA, i64_w, i32_w]; rfl
              refine pure_ (i := 39) (N := some 156) (v := undef) (a' := ?_) (bm 58 1099511627775) rfl rfl (any_of HT_.out sqF) (fun _ _ _ h => h) (Or.inr ⟨by rfl, rfl⟩) ?_ ?_
              rotate_left
              ·simp only [Act.put, sqA, i64_w, i32_w]; rfl
              refine pure_ (i := 40) (N := some 157) (v := undef) (a' := ?_) (bm 58 2199023255551) rfl rfl (any_of HT_.out sqF) (fun _ _ _ h => h) (Or.inr ⟨by rfl, rfl⟩) ?_ ?_
              rotate_left
              ·simp only [Act.put, sqA, i64_w, i32_w]; rfl
              refine pure_ (i := 41) (N := some 158) (v := undef) (a' := ?_) (bm 58 4398046511103) rfl rfl (any_of HT_.out sqF) (fun _ _ _ h => h) (Or.inr ⟨by rfl, rfl⟩) ?_ ?_
              rotate_left
              ·simp only [Act.put, sqA, i64_w, i32_w]; rfl
              refine pure_ (i := 42) (N := some 159) (v := undef) (a' := ?_) (bm 58 8796093022207) rfl rfl (any_of HT_.out sqF) (fun _ _ _ h => h) (Or.inr ⟨by rfl, rfl⟩) ?_ ?_
              rotate_left
              ·simp only [Act.put, sqA, i64_w, i32_w]; rfl
              refine pure_ (i := 43) (N := some 160) (v := undef) (a' := ?_) (bm 58 17592186044415) rfl rfl (any_of HT_.out sqF) (fun _ _ _ h => h) (Or.inr ⟨by rfl, rfl⟩) ?_ ?_
              rotate_left
              ·simp only [Act.put, sqA, i64_w, i32_w]; rfl
              refine pure_ (i := 44) (N := some 161) (v := undef) (a' := ?_) (bm 58 35184372088831) rfl rfl (any_of HT_.out sqF) (fun _ _ _ h => h) (Or.inr ⟨by rfl, rfl⟩) ?_ ?_
              rotate_left
              ·simp only [Act.put, sqA, i64_w, i32_w]; rfl
              refine pure_ (i := 45) (N := some 162) (v := undef) (a' := ?_) (bm 58 70368744177663) rfl rfl (any_of HT_.out sqF) (fun _ _ _ h => h) (Or.inr ⟨by rfl, rfl⟩) ?_ ?_
              rotate_left
              ·simp only [Act.put, sqA, i64_w, i32_w]; rfl
              refine pure_ (i := 46) (N := some 163) (v := undef) (a' := ?_) (bm 58 140737488355327) rfl rfl (any_of HT_.out sqF) (fun _ _ _ h => h) (Or.inr ⟨by rfl, rfl⟩) ?_ ?_
              rotate_left
              ·simp only [Act.put, sqA, i64_w, i32_w]; rfl
              refine pure_ (i := 47) (N := some 164) (v := undef) (a' := ?_) (bm 58 281474976710655) rfl rfl (any_of HT_.out sqF) (fun _ _ _ h => h) (Or.inr ⟨by rfl, rfl⟩) ?_ ?_
              rotate_left
              ·simp only [Act.put, sqA, i64_w, i32_w]; rfl
              refine pure_ (i := 48) (N := some 165) (v := undef) (a' := ?_) (bm 58 562949953421311) rfl rfl (any_of HT_.out sqF) (fun _ _ _ h => h) (Or.inr ⟨by rfl, rfl⟩) ?_ ?_
              rotate_left
              ·simp only [Act.put, sqA, i64_w, i32_w]; rfl
              refine pure_ (i := 49) (N := some 166) (v := undef) (a' := ?_) (bm 58 1125899906842623) rfl rfl (any_of HT_.out sqF) (fun _ _ _ h => h) (Or.inr ⟨by rfl, rfl⟩) ?_ ?_
              rotate_left
              ·simp only [Act.put, sqA, i64_w, i32_w]; rfl
              refine pure_ (i := 50) (N := some 167) (v := undef) (a' := ?_) (bm 58 2251799813685247) rfl rfl (any_of HT_.out sqF) (fun _ _ _ h => h) (Or.inr ⟨by rfl, rfl⟩) ?_ ?_
              rotate_left
              ·simp only [Act.put, sqA, i64_w, i32_w]; rfl
              refine pure_ (i := 51) (N := some 168) (v := undef) (a' := ?_) (bm 58 4503599627370495) rfl rfl (any_of HT_.out sqF) (fun _ _ _ h => h) (Or.inr ⟨by rfl, rfl⟩) ?_ ?_
              rotate_left
              ·simp only [Act.put, sqA, i64_w, i32_w]; rfl
              refine pure_ (i := 52) (N := some 169) (v := undef) (a' := ?_) (bm 58 9007199254740991) rfl rfl (any_of HT_.out sqF) (fun _ _ _ h => h) (Or.inr ⟨by rfl, rfl⟩) ?_ ?_
              rotate_left
              ·simp only [Act.put, sqA, i64_w, i32_w]; rfl
              refine pure_ (i := 53) (N := some 170) (v := undef) (a' := ?_) (bm 58 18014398509481983) rfl rfl (any_of HT_.out sqF) (fun _ _ _ h => h) (Or.inr ⟨by rfl, rfl⟩) ?_ ?_
              rotate_left
              ·simp only [Act.put, sqA, i64_w, i32_w]; rfl
              refine pure_ (i := 54) (N := some 171) (v := undef) (a' := ?_) (bm 58 36028797018963967) rfl rfl (any_of HT_.out sqF) (fun _ _ _ h => h) (Or.inr ⟨by rfl, rfl⟩) ?_ ?_
              rotate_left
              ·simp only [Act.put, sqA, i64_w, i32_w]; rfl
              refine pure_ (i := 55) (N := some 172) (v := undef) (a' := ?_) (bm 58 72057594037927935) rfl rfl (any_of HT_.out sqF) (fun _ _ _ h => h) (Or.inr ⟨by rfl, rfl⟩) ?_ ?_
              rotate_left
              ·simp only [Act.put, sqA, i64_w, i32_w]; rfl
              refine pure_ (i := 56) (N := some 173) (v := ?_) (a' := ?_) (bm 58 144115188075855871) rfl rfl (any_of HT_.out sqF) (fun _ _ _ h => h) (Or.inl ⟨by rfl, ?_⟩) ?_ ?_; rotate_left; intro w'; go_simp; (with_reducible rfl); rotate_left; simp only [Act.put, sqA, i64_w, i32_w]; rfl; refine pure_ (i := 57) (N := some 174) (v := ?_) (a' := ?_) (bm 58 288230376151711743) rfl rfl (any_of HT_.out sqF) (fun _ _ _ h => h) (Or.inl ⟨by rfl, ?_⟩) ?_ ?_; rotate_left; intro w'; go_simp; (with_reducible rfl); rotate_left; simp only [Act.put, sqA, i64_w, i32_w]; rfl
              refine done_ (done_of HT_.out sqF) ?_
              try go_wp2
              go_meet
              case rel => exact ⟨_, (false), sqE, H', ⟨by have := HJ14.out; have := HK2.out; first | omega | exact Nat.le_refl _⟩, ⟨sqR HO_4⟩, ⟨sqR HO_5⟩, ⟨sqR HO_7⟩, ⟨sqR HO_9⟩, ⟨sqR HO_690000⟩, ⟨sqR HO_690001⟩, ⟨sqK BK682⟩, ⟨sqK BK689⟩, ⟨sqK BK732⟩, ⟨sqB HB⟩⟩
          ·replace c84 := Bool.eq_false_iff.mpr c84
           subst c84; rw [if_neg Bool.false_ne_true] at H; exact absurd H (by simp)
         ·rw [if_neg c82] at H
          exact absurd H (by simp)
        ·rw [if_neg c81] at H
         exact absurd H (by simp)
       case rest =>
        clear HC80; obtain ⟨kq, x174_79, rfl, HA, HJ79, HO_4, HO_5, HO_7, HO_9, HO_690000, HO_690001, BK682, BK689, BK732, HB⟩ := hcut
        cases kq with
        | zero => exact absurd HA.out (by simp [lw_WoolTruth.j2])
        | succ kj79 =>
         have H := HA.out; clear HA; simp only [lw_WoolTruth.j2] at H
         by_cases c98 : x174_79 = true
         ·subst c98
          rw [if_pos rfl] at H; exact absurd H (by simp)
         ·replace c98 := Bool.eq_false_iff.mpr c98
          subst c98; rw [if_neg Bool.false_ne_true] at H
          by_cases c99 : x17_2 < (t693.length : Int)
          ·rw [if_pos c99] at H
           have c99b0 : decide (x17_2 < (t693.length : Int)) = true := decide_eq_true c99; clear c99
           by_cases c100 : 0 ≤ x17_2
           ·rw [if_pos c100] at H
            have c100b0 : decide (0 ≤ x17_2) = true := decide_eq_true c100; clear c100
            by_cases c101 : x17_2 < (t719.length : Int)
            ·rw [if_pos c101] at H
             have c101b0 : decide (x17_2 < (t719.length : Int)) = true := decide_eq_true c101; clear c101; obtain ⟨t765, A1020, H⟩ := Option.bind_eq_some_iff.mp H; have A102 := Aside0.mk A1020; clear A1020
             by_cases c103 : t765 = true
             ·subst c103
              rw [if_pos rfl] at H; have H' := Aside0.mk H
              clear H; try go_wp2
              have n0_ := Aside0.mk (Kd.R_drew HO_4.out); have n1_ := Aside0.mk (Kd.R_drew HO_5.out); have n2_ := Aside0.mk (Kd.R_drew HO_7.out); have n3_ := Aside0.mk (Kd.R_drew HO_9.out); have n4_ := Aside0.mk (Kd.R_drew HO_690000.out); have n5_ := Aside0.mk (Kd.R_drew HO_690001.out); have n6_ := Aside0.mk (blk_drew BK682.out); have n7_ := Aside0.mk (blk_drew BK689.out); have n8_ := Aside0.mk (blk_drew BK732.out); have n9_ := Aside0.mk (below_drew1 HB.out); clear HO_4 HO_5 HO_7 HO_9 HO_690000 HO_690001 BK682 BK689 BK732 HB; have HO_4 := n0_; have HO_5 := n1_; have HO_7 := n2_; have HO_9 := n3_; have HO_690000 := n4_; have HO_690001 := n5_; have BK682 := n6_; have BK689 := n7_; have BK732 := n8_; have HB := n9_; clear n0_ n1_ n2_ n3_ n4_ n5_ n6_ n7_ n8_ n9_; obtain ⟨Ao105, co105, eo105⟩ := Kd.R_slice HO_5.out
              (first | subst eo105 | (injection eo105 with f1_ f2_ f3_; have f4_ := f1_.symm; have f5_ := f3_.symm; clear f1_ f2_ f3_; subst f4_; subst f5_))
              have p763 : 0 ≤ (x17_2 : Int) := sqD; have q763 : x17_2 < (t693.length : Int) := sqD; obtain ⟨ad763, e763, hx763_0⟩ := Kd.at_int (Kd.R_reads' HO_5.out).2.2 x17_2 p763 q763
              cases e763
              replace p763 := eq_true p763; replace q763 := eq_true q763; obtain ⟨Ao106, co106, eo106⟩ := Kd.R_slice HO_9.out
              (first | subst eo106 | (injection eo106 with f1_ f2_ f3_; have f4_ := f1_.symm; have f5_ := f3_.symm; clear f1_ f2_ f3_; subst f4_; subst f5_))
              have p764 : 0 ≤ (x17_2 : Int) := sqD; have q764 : x17_2 < (t719.length : Int) := sqD; obtain ⟨ad764, e764, hx764_0, hx764_1⟩ := at_T41 (Kd.R_reads' HO_9.out).2.2 x17_2 p764 q764
              cases e764
              replace p764 := eq_true p764; replace q764 := eq_true q764; refine start_ (n := 16) (S := fun w' => w'.cell? (ad763.add (x17_2).toNat) = some (.int .i64 (rd t693 x17_2)) ∧ w'.cell? (ad764.add ((x17_2).toNat * 2)) = some (.int .i64 ((rd_T41 t719 x17_2).f0)) ∧ w'.cell? ⟨(ad764.add ((x17_2).toNat * 2)).block, (ad764.add ((x17_2).toNat * 2)).off + 1, none⟩ = some (.int .i64 ((rd_T41 t719 x17_2).f1))) (ds := []) (bm 16 0) sqF rfl rfl ⟨hx763_0, hx764_0, hx764_1⟩ (fun hHeld => ?_); refine with_tabW lw_WoolTruth.tab16 lw_WoolTruth.bits16 (fun HT_ HW_ => ?_)
              generalize wc.drew = w104 at HO_4 HO_5 HO_7 HO_9 HO_690000 HO_690001 BK682 BK689 BK732 HB hx763_0 hx764_0 hx764_1 hHeld ⊢
              refine pure_ (i := 0) (N := some 175) (v := ?_) (a' := ?_) (bm 16 1) rfl rfl (any_of HT_.out sqF) (fun _ _ _ h => h) (Or.inl ⟨by rfl, ?_⟩) ?_ ?_; rotate_left; intro w'; go_simp; (with_reducible rfl); rotate_left; simp only [Act.put, sqA, i64_w, i32_w]; rfl; refine pure_ (i := 1) (N := some 176) (v := ?_) (a' := ?_) (bm 16 3) rfl rfl (any_of HT_.out sqF) (fun _ _ _ h => h) (Or.inl ⟨by rfl, ?_⟩) ?_ ?_; rotate_left; intro w'; go_simp; (with_reducible rfl); rotate_left; simp only [Act.put, sqA, i64_w, i32_w]; rfl; refine pure_ (i := 2) (N := some 177) (v := ?_) (a' := ?_) (bm 16 7) rfl rfl (any_of HT_.out sqF) (fun _ _ _ h => h) (Or.inl ⟨by rfl, ?_⟩) ?_ ?_; rotate_left; intro w'; go_simp; (with_reducible rfl); rotate_left; simp only [Act.put, sqA, i64_w, i32_w]; rfl; refine pure_ (i := 3) (N := some 178) (v := ?_) (a' := ?_) (bm 16 15) rfl rfl (any_of HT_.out sqF) (fun _ _ _ h => h) (Or.inl ⟨by rfl, ?_⟩) ?_ ?_; rotate_left; intro w'; go_simp; (with_reducible rfl); rotate_left; simp only [Act.put, sqA, i64_w, i32_w]; rfl; refine pure_ (i := 4) (N := some 179) (v := ?_) (a' := ?_) (bm 16 31) rfl rfl (any_of HT_.out sqF) (fun _ _ _ h => h) (Or.inl ⟨by rfl, ?_⟩) ?_ ?_; rotate_left; intro w'; go_simp; (with_reducible rfl); rotate_left; simp only [Act.put, sqA, i64_w, i32_w]; rfl; refine pure_ (i := 5) (N := some 180) (v := ?_) (a' := ?_) (bm 16 63) rfl rfl (any_of HT_.out sqF) (fun _ _ _ h => h) (Or.inl ⟨by rfl, ?_⟩) ?_ ?_; rotate_left; intro w'; go_simp; (with_reducible rfl); rotate_left; simp only [Act.put, sqA, i64_w, i32_w]; rfl; refine pure_ (i := 6) (N := some 181) (v := ?_) (a' := ?_) (bm 16 127) rfl rfl (any_of HT_.out sqF) (fun _ _ _ h => h) (Or.inl ⟨by rfl, ?_⟩) ?_ ?_; rotate_left; intro w'; go_simp; (with_reducible rfl); rotate_left; simp only [Act.put, sqA, i64_w, i32_w]; rfl; refine pure_ (i := 7) (N := some 182) (v := ?_) (a' := ?_) (bm 16 255) rfl rfl (any_of HT_.out sqF) (fun _ _ _ h => h) (Or.inl ⟨by rfl, ?_⟩) ?_ ?_; rotate_left; intro w'; go_simp; (with_reducible rfl); rotate_left; simp only [Act.put, sqA, i64_w, i32_w]; rfl; refine pure_ (i := 9) (N := some 184) (v := ?_) (a' := ?_) (bm 16 767) rfl rfl (any_of HT_.out sqF) (fun _ _ _ h => h) (Or.inl ⟨by rfl, ?_⟩) ?_ ?_; rotate_left; intro w'; go_simp; (with_reducible rfl); rotate_left; simp only [Act.put, sqA, i64_w, i32_w]; rfl; refine pure_ (i := 10) (N := some 185) (v := ?_) (a' := ?_) (bm 16 1791) rfl rfl (any_of HT_.out sqF) (fun _ _ _ h => h) (Or.inl ⟨by rfl, ?_⟩) ?_ ?_; rotate_left; intro w'; go_simp; (with_reducible rfl); rotate_left; simp only [Act.put, sqA, i64_w, i32_w]; rfl; refine pure_ (i := 11) (N := some 186) (v := ?_) (a' := ?_) (bm 16 3839) rfl rfl (any_of HT_.out sqF) (fun _ _ _ h => h) (Or.inl ⟨by rfl, ?_⟩) ?_ ?_; rotate_left; intro w'; go_simp; (with_reducible rfl); rotate_left; simp only [Act.put, sqA, i64_w, i32_w]; rfl; refine take_ (i := 8) (N := some 183) (v := ?_) (a' := ?_) (bm 16 4095) rfl rfl (take_ofW HT_.out HW_.out sqF) (fun _ _ _ h => h) (Or.inl ⟨by rfl, ?_⟩) hHeld ?_ ?_; rotate_left; rintro w' ⟨s0, s1, s2⟩; go_simp; (with_reducible rfl); rotate_left; simp only [Act.put, sqA, i64_w, i32_w]; rfl
              refine take_ (i := 12) (N := some 187) (v := ?_) (a' := ?_) (bm 16 8191) rfl rfl (take_ofW HT_.out HW_.out sqF) (fun _ _ _ h => h) (Or.inl ⟨by rfl, ?_⟩) hHeld ?_ ?_; rotate_left; rintro w' ⟨s0, s1, s2⟩; go_simp; (with_reducible rfl); rotate_left; simp only [Act.put, sqA, i64_w, i32_w]; rfl
              refine one_ (i := 13) (N := some 188) (bm 16 16383) rfl rfl (one_of HT_.out sqF) (by decide) (fun K hK => ?_); refine goes_ Tryd.func49 sqF rfl #[.int .i64 (rd t693 x17_2), .agg #[.int .i64 ((rd_T41 t719 x17_2).f0), .int .i64 ((rd_T41 t719 x17_2).f1)]] (by rfl) rfl rfl sqM ?_
              with_reducible refine (lw_in.calls (rd t693 x17_2) ((rd_T41 t719 x17_2).f0) ((rd_T41 t719 x17_2).f1) true _ A102.out).mono ?_
              rintro e w107 ⟨rfl, hb⟩; have HS0_ := (hb.cell (World.block_lt_of_cell? _ _ (hHeld.1))).trans (hHeld.1); have HS1_ := (hb.cell (World.block_lt_of_cell? _ _ (hHeld.2.1))).trans (hHeld.2.1); have HS2_ := (hb.cell (World.block_lt_of_cell? _ _ (hHeld.2.2))).trans (hHeld.2.2); refine ⟨_, rfl, ?_⟩; have n0_ := Aside0.mk (Kd.R_below (sqR HO_4) hb); have n1_ := Aside0.mk (Kd.R_below (sqR HO_5) hb); have n2_ := Aside0.mk (Kd.R_below (sqR HO_7) hb); have n3_ := Aside0.mk (Kd.R_below (sqR HO_9) hb); have n4_ := Aside0.mk (Kd.R_below (sqR HO_690000) hb); have n5_ := Aside0.mk (Kd.R_below (sqR HO_690001) hb); have n6_ := Aside0.mk (blk_below (g := gb682) (o := .cells #[.slice A0_0 l0_0.length c0_0, .int .u16 a0_1, .slice A0_2 l0_2.length c0_2, .slice A0_3 l0_3.length c0_3] 69 (0, 0)) (sqK BK682) hb); have n7_ := Aside0.mk (blk_below (g := gb689) (o := .cells #[.slice Ao30 t697.length co30, .slice Ao32 t700.length co32] 25 (0, 0)) (sqK BK689) hb); have n8_ := Aside0.mk (blk_below (g := gb732) (o := .cells #[.int .i64 t729, .int .i64 t730] 41 (0, 0)) (sqK BK732) hb); have n9_ := Aside0.mk (below_step (sqB HB) hb); clear HO_4 HO_5 HO_7 HO_9 HO_690000 HO_690001 BK682 BK689 BK732 HB; have HO_4 := n0_; have HO_5 := n1_; have HO_7 := n2_; have HO_9 := n3_; have HO_690000 := n4_; have HO_690001 := n5_; have BK682 := n6_; have BK689 := n7_; have BK732 := n8_; have HB := n9_; clear n0_ n1_ n2_ n3_ n4_ n5_ n6_ n7_ n8_ n9_; (try clear hb); (try clear hb2); (try clear hk); (try clear hi); refine hK.out _ _ ⟨HS0_, HS1_, HS2_⟩ (fun hHeld => ?_); clear hK K; refine norm_ (a' := ?_) ?_ ?_
              rotate_left
              ·show Act.put _ (some 188) _ = _
               simp only [Act.put, sqA, i64_w, i32_w]; rfl
              refine pure_ (i := 14) (N := some 189) (v := ?_) (a' := ?_) (bm 16 32767) rfl rfl (any_of HT_.out sqF) (fun _ _ _ h => h) (Or.inl ⟨by rfl, ?_⟩) ?_ ?_; rotate_left; intro w'; go_simp; (with_reducible rfl); rotate_left; simp only [Act.put, sqA, i64_w, i32_w]; rfl; refine pure_ (i := 15) (N := some 190) (v := ?_) (a' := ?_) (bm 16 65535) rfl rfl (any_of HT_.out sqF) (fun _ _ _ h => h) (Or.inl ⟨by rfl, ?_⟩) ?_ ?_; rotate_left; intro w'; go_simp; (with_reducible rfl); rotate_left; simp only [Act.put, sqA, i64_w, i32_w]; rfl
              refine done_ (done_of HT_.out sqF) ?_
              try go_wp2
              go_roundg kj79
              case measure => have := HJ14.out; have := HK2.out; have := HJ79.out; omega
              case rel => exact ⟨(wrap64 (x17_2 + 1)), sqE, H', ⟨by have := HJ14.out; have := HK2.out; have := HJ79.out; omega⟩, ⟨sqR HO_4⟩, ⟨sqR HO_5⟩, ⟨sqR HO_7⟩, ⟨sqR HO_9⟩, ⟨sqR HO_690000⟩, ⟨sqR HO_690001⟩, ⟨sqK BK682⟩, ⟨sqK BK689⟩, ⟨sqK BK732⟩, ⟨sqB HB⟩⟩
             ·replace c103 := Bool.eq_false_iff.mpr c103
              subst c103; rw [if_neg Bool.false_ne_true] at H; exact absurd H (by simp)
            ·rw [if_neg c101] at H
             exact absurd H (by simp)
           ·rw [if_neg c100] at H
            exact absurd H (by simp)
          ·rw [if_neg c99] at H
           have c99b0 : decide (x17_2 < (t693.length : Int)) = false := decide_eq_false c99; clear c99; have H' := Aside0.mk H
           clear H; try go_wp2
           have n0_ := Aside0.mk (Kd.R_drew HO_4.out); have n1_ := Aside0.mk (Kd.R_drew HO_5.out); have n2_ := Aside0.mk (Kd.R_drew HO_7.out); have n3_ := Aside0.mk (Kd.R_drew HO_9.out); have n4_ := Aside0.mk (Kd.R_drew HO_690000.out); have n5_ := Aside0.mk (Kd.R_drew HO_690001.out); have n6_ := Aside0.mk (blk_drew BK682.out); have n7_ := Aside0.mk (blk_drew BK689.out); have n8_ := Aside0.mk (blk_drew BK732.out); have n9_ := Aside0.mk (below_drew1 HB.out); clear HO_4 HO_5 HO_7 HO_9 HO_690000 HO_690001 BK682 BK689 BK732 HB; have HO_4 := n0_; have HO_5 := n1_; have HO_7 := n2_; have HO_9 := n3_; have HO_690000 := n4_; have HO_690001 := n5_; have BK682 := n6_; have BK689 := n7_; have BK732 := n8_; have HB := n9_; clear n0_ n1_ n2_ n3_ n4_ n5_ n6_ n7_ n8_ n9_; obtain ⟨Ao109, co109, eo109⟩ := Kd.R_slice HO_5.out
           (first | subst eo109 | (injection eo109 with f1_ f2_ f3_; have f4_ := f1_.symm; have f5_ := f3_.symm; clear f1_ f2_ f3_; subst f4_; subst f5_))
           refine start_ (n := 16) (S := fun w' => True) (ds := []) (bm 16 0) sqF rfl rfl trivial (fun hHeld => ?_); refine with_tabW lw_WoolTruth.tab16 lw_WoolTruth.bits16 (fun HT_ HW_ => ?_)
           generalize wc.drew = w108 at HO_4 HO_5 HO_7 HO_9 HO_690000 HO_690001 BK682 BK689 BK732 HB hHeld ⊢
           refine pure_ (i := 0) (N := some 175) (v := ?_) (a' := ?_) (bm 16 1) rfl rfl (any_of HT_.out sqF) (fun _ _ _ h => h) (Or.inl ⟨by rfl, ?_⟩) ?_ ?_; rotate_left; intro w'; go_simp; (with_reducible rfl); rotate_left; simp only [Act.put, sqA, i64_w, i32_w]; rfl; refine pure_ (i := 1) (N := some 176) (v := ?_) (a' := ?_) (bm 16 3) rfl rfl (any_of HT_.out sqF) (fun _ _ _ h => h) (Or.inl ⟨by rfl, ?_⟩) ?_ ?_; rotate_left; intro w'; go_simp; (with_reducible rfl); rotate_left; simp only [Act.put, sqA, i64_w, i32_w]; rfl; refine pure_ (i := 2) (N := some 177) (v := ?_) (a' := ?_) (bm 16 7) rfl rfl (any_of HT_.out sqF) (fun _ _ _ h => h) (Or.inl ⟨by rfl, ?_⟩) ?_ ?_; rotate_left; intro w'; go_simp; (with_reducible rfl); rotate_left; simp only [Act.put, sqA, i64_w, i32_w]; rfl; refine pure_ (i := 3) (N := some 178) (v := ?_) (a' := ?_) (bm 16 15) rfl rfl (any_of HT_.out sqF) (fun _ _ _ h => h) (Or.inl ⟨by rfl, ?_⟩) ?_ ?_; rotate_left; intro w'; go_simp; (with_reducible rfl); rotate_left; simp only [Act.put, sqA, i64_w, i32_w]; rfl; refine pure_ (i := 4) (N := some 179) (v := ?_) (a' := ?_) (bm 16 31) rfl rfl (any_of HT_.out sqF) (fun _ _ _ h => h) (Or.inl ⟨by rfl, ?_⟩) ?_ ?_; rotate_left; intro w'; go_simp; (with_reducible rfl); rotate_left; simp only [Act.put, sqA, i64_w, i32_w]; rfl
           refine pure_ (i := 5) (N := some 180) (v := undef) (a' := ?_) (bm 16 63) rfl rfl (any_of HT_.out sqF) (fun _ _ _ h => h) (Or.inr ⟨by rfl, rfl⟩) ?_ ?_
           rotate_left
           ·simp only [Act.put, sqA, i64_w, i32_w]; rfl
           refine pure_ (i := 6) (N := some 181) (v := undef) (a' := ?_) (bm 16 127) rfl rfl (any_of HT_.out sqF) (fun _ _ _ h => h) (Or.inr ⟨by rfl, rfl⟩) ?_ ?_
           rotate_left
           ·simp only [Act.put, sqA, i64_w, i32_w]; rfl
           refine pure_ (i := 7) (N := some 182) (v := undef) (a' := ?_) (bm 16 255) rfl rfl (any_of HT_.out sqF) (fun _ _ _ h => h) (Or.inr ⟨by rfl, rfl⟩) ?_ ?_
           rotate_left
           ·simp only [Act.put, sqA, i64_w, i32_w]; rfl
           refine pure_ (i := 8) (N := some 183) (v := undef) (a' := ?_) (bm 16 511) rfl rfl (any_of HT_.out sqF) (fun _ _ _ h => h) (Or.inr ⟨by rfl, rfl⟩) ?_ ?_
           rotate_left
           ·simp only [Act.put, sqA, i64_w, i32_w]; rfl
           refine pure_ (i := 9) (N := some 184) (v := undef) (a' := ?_) (bm 16 1023) rfl rfl (any_of HT_.out sqF) (fun _ _ _ h => h) (Or.inr ⟨by rfl, rfl⟩) ?_ ?_
           rotate_left
           ·simp only [Act.put, sqA, i64_w, i32_w]; rfl
           refine pure_ (i := 10) (N := some 185) (v := undef) (a' := ?_) (bm 16 2047) rfl rfl (any_of HT_.out sqF) (fun _ _ _ h => h) (Or.inr ⟨by rfl, rfl⟩) ?_ ?_
           rotate_left
           ·simp only [Act.put, sqA, i64_w, i32_w]; rfl
           refine pure_ (i := 11) (N := some 186) (v := undef) (a' := ?_) (bm 16 4095) rfl rfl (any_of HT_.out sqF) (fun _ _ _ h => h) (Or.inr ⟨by rfl, rfl⟩) ?_ ?_
           rotate_left
           ·simp only [Act.put, sqA, i64_w, i32_w]; rfl
           refine pure_ (i := 12) (N := some 187) (v := undef) (a' := ?_) (bm 16 8191) rfl rfl (any_of HT_.out sqF) (fun _ _ _ h => h) (Or.inr ⟨by rfl, rfl⟩) ?_ ?_
           rotate_left
           ·simp only [Act.put, sqA, i64_w, i32_w]; rfl
           refine pure_ (i := 13) (N := some 188) (v := undef) (a' := ?_) (bm 16 16383) rfl rfl (any_of HT_.out sqF) (fun _ _ _ h => h) (Or.inr ⟨by rfl, rfl⟩) ?_ ?_
           rotate_left
           ·simp only [Act.put, sqA, i64_w, i32_w]; rfl
           refine pure_ (i := 14) (N := some 189) (v := undef) (a' := ?_) (bm 16 32767) rfl rfl (any_of HT_.out sqF) (fun _ _ _ h => h) (Or.inr ⟨by rfl, rfl⟩) ?_ ?_
           rotate_left
           ·simp only [Act.put, sqA, i64_w, i32_w]; rfl
           refine pure_ (i := 15) (N := some 190) (v := ?_) (a' := ?_) (bm 16 65535) rfl rfl (any_of HT_.out sqF) (fun _ _ _ h => h) (Or.inl ⟨by rfl, ?_⟩) ?_ ?_; rotate_left; intro w'; go_simp; (with_reducible rfl); rotate_left; simp only [Act.put, sqA, i64_w, i32_w]; rfl
           refine done_ (done_of HT_.out sqF) ?_
           try go_wp2
           go_roundg kj79
           case measure => have := HJ14.out; have := HK2.out; have := HJ79.out; omega
           case rel => exact ⟨(wrap64 (x17_2 + 1)), sqE, H', ⟨by have := HJ14.out; have := HK2.out; have := HJ79.out; omega⟩, ⟨sqR HO_4⟩, ⟨sqR HO_5⟩, ⟨sqR HO_7⟩, ⟨sqR HO_9⟩, ⟨sqR HO_690000⟩, ⟨sqR HO_690001⟩, ⟨sqK BK682⟩, ⟨sqK BK689⟩, ⟨sqK BK732⟩, ⟨sqB HB⟩⟩
      ·rw [if_neg c79] at H
       have c79b0 : decide (x17_2 < (t690.length : Int)) = false := decide_eq_false c79; clear c79; obtain ⟨t753, A1100, H⟩ := Option.bind_eq_some_iff.mp H; have A110 := Aside0.mk A1100; clear A1100; obtain rfl := Option.some.inj H
       go_wp2_with (first | ((with_reducible refine gate_callee (f := 17) rfl ?_); refine goesL_ (some 191) rfl rfl Tryd.func17 sqF rfl #[] rfl sqM ?_; (with_reducible refine (lw_known.calls t753 _ ?sideG A110.out).mono ?_); (case sideG => exact (Kd.C_below HGL.out (sqB HB))); rintro e w111 ⟨rfl, hb⟩; refine ⟨_, rfl, ?_⟩; replace HO_4 := Aside0.mk (Kd.R_below (sqR HO_4) hb); replace HO_5 := Aside0.mk (Kd.R_below (sqR HO_5) hb); replace HO_7 := Aside0.mk (Kd.R_below (sqR HO_7) hb); replace HO_9 := Aside0.mk (Kd.R_below (sqR HO_9) hb); replace HO_690000 := Aside0.mk (Kd.R_below (sqR HO_690000) hb); replace HO_690001 := Aside0.mk (Kd.R_below (sqR HO_690001) hb); replace BK682 := sqk BK682 hb; replace BK689 := sqk BK689 hb; replace BK732 := sqk BK732 hb; replace HB := sqb hb HB; (try clear hb); (try clear hb2); (try clear hk); (try clear hi)))
       go_ret
       exact ⟨by first | rfl | (simp [errW_none, errW_some] <;> rfl) | (simp [*, errW_none, errW_some] <;> rfl), sqB HB⟩
end Go.Proofs.YtemingmeidmjkaaDoor.Q
namespace Go.Proofs.YtemingmeidmjkaaDoor.Rw
open Go.RowKit Go.Proofs.YtemingmeidmjkaaDoorW.PrintWords
set_option linter.unusedVariables false
set_option linter.unusedSimpArgs false
theorem add_two (a : Addr) (x y : Nat) : (a.add x).add y = a.add (x + y) := by
 unfold Addr.add
 by_cases h1 : x = 0
 ·subst h1; simp
 ·by_cases h2 : y = 0
  ·subst h2; simp
  ·have h3 : ¬ x + y = 0 := by omega
   simp [h1, h2, Nat.add_assoc]
structure Opens {α : Type} (P : Program) (t : TypeId) (d : Kd α) (good : α → Prop) : Prop where
 size : d.sz = P.cellsOf t
 read : ∀ {H : Type} {enc : TypeId × Value → H} {w : World} {base : Nat} {sp : Nat → Bool} {held : Bool} {fuel : Nat} {cs : List Value} {x : DataW H × List MemPlace}, DataW.trod enc P w base sp held fuel t cs = some x → ∃ y : α, d.K w y cs ∧ good y
theorem Opens.int {P : Program} {t : TypeId} {k : IntKind} (ht : P.underlying t = some (.int k)) (hc : 1 = P.cellsOf t) : Opens P t (Kd.int k) (fun n => (Lit.int k n).wf = true) := ⟨hc, fun h => by
 obtain ⟨n, rfl, rfl, hw⟩ := DataW.trod_int ht h
 exact ⟨n, rfl, hw⟩⟩
theorem Opens.slice {α : Type} {P : Program} {t e : TypeId} {d : Kd α} {good : α → Prop} (ht : P.underlying t = some (.slice e)) (hc : 1 = P.cellsOf t) (h : Opens P e d good) : Opens P t (Kd.slice e d) (fun l => ∀ x ∈ l, good x) := ⟨hc, fun {H enc w base sp held fuel cs x} hx => by
 rcases DataW.trod_slice ht hx with ⟨rfl, _⟩ | ⟨a, len, cap, elems, rest, n, _, rfl, _, hb, hl, hm, hlen, hel, _, _⟩
 ·exact ⟨[], ⟨none, 0, rfl, Nat.le_refl _, Kd.C_nil _ _⟩, fun x hx => by cases hx⟩
 ·have key : ∀ m, m ≤ len → ∃ l : List α, l.length = m ∧ ∀ i z, l[i]? = some z → good z ∧ ∃ c, c.length = d.sz ∧ d.K w z c ∧ ∀ j u, c[j]? = some u → w.cell? (a.add (i * d.sz + j)) = some u := by
   intro m
   induction m with
   | zero => intro _; exact ⟨[], rfl, fun i z hz => by simp at hz⟩
   | succ m ih =>
    intro hle; obtain ⟨l, hll, hl2⟩ := ih (by omega); have h1 := hel m (by omega); rw [List.getElem?_eq_getElem (by omega), Option.bind_eq_some_iff] at h1; obtain ⟨c, hc1, hc2⟩ := h1; obtain ⟨z, hz, hg⟩ := h.read hc2; obtain ⟨_, hcl, hcc⟩ := World.cells?_some hc1; refine ⟨l ++ [z], by simp [hll], fun i z' hz' => ?_⟩
    rcases Nat.lt_or_ge i l.length with hlt | hge
    ·rw [List.getElem?_append_left hlt] at hz'
     exact hl2 i z' hz'
    ·rw [List.getElem?_append_right hge] at hz'
     have e : i = m := by
      rcases Nat.eq_zero_or_pos (i - l.length) with e | e
      ·omega
      ·rw [List.getElem?_eq_none (by simp; omega)] at hz'; cases hz'
     subst e; rw [show i - l.length = 0 by omega] at hz'; simp only [List.getElem?_cons_zero, Option.some.injEq] at hz'; subst hz'; refine ⟨hg, c, by rw [hcl, h.size], hz, fun j u hu => ?_⟩
     have hj : j < P.cellsOf e := by rw [← hcl]; exact (List.getElem?_eq_some_iff.1 hu).1
     have := hcc j hj; rw [hu] at this; rw [h.size, ← this, add_two]
  obtain ⟨l, hll, hl2⟩ := key len (Nat.le_refl _); refine ⟨l, ⟨some a, cap, by rw [hll], by omega, rfl, by unfold maxLen at hm; omega, fun _ => ⟨a, rfl, fun j p hj => ?_⟩⟩, fun x hx => ?_⟩
  ·obtain ⟨_, c, h1, h2, h3⟩ := hl2 j p hj
   exact ⟨c, h1, h2, h3⟩
  ·obtain ⟨i, hi⟩ := List.getElem?_of_mem hx
   exact (hl2 i x hi).1⟩
structure FOpens {α : Type} (P : Program) (fs : List Field) (off : Nat) (d : Kd α) (good : α → Prop) : Prop where
 read : ∀ {H : Type} {enc : TypeId × Value → H} {w : World} {base : Nat} {sp : Nat → Bool} {held : Bool} {fuel : Nat} {cs : List Value},
 (∀ (i : Nat) (f : Field), fs[i]? = some f → ∃ y, DataW.trod enc P w base sp held fuel f.type ((cs.drop f.offset).take (P.cellsOf f.type)) = some y) → cs.length = off + d.sz → ∃ y : α, d.K w y (cs.drop off) ∧ good y
theorem FOpens.one {α : Type} {P : Program} {f : Field} {off : Nat} {d : Kd α} {good : α → Prop} (h : Opens P f.type d good) (ho : f.offset = off) : FOpens P [f] off d good := ⟨fun {H enc w base sp held fuel cs} hf hl => by
 obtain ⟨y, hy⟩ := hf 0 f rfl; rw [ho, ← h.size, List.take_of_length_le (by rw [List.length_drop]; omega)] at hy
 exact h.read hy⟩
theorem FOpens.cons {α β : Type} {P : Program} {f : Field} {fs : List Field} {off : Nat} {d1 : Kd α} {d2 : Kd β} {g1 : α → Prop} {g2 : β → Prop} (h1 : Opens P f.type d1 g1) (ho : f.offset = off) (h2 : FOpens P fs (off + d1.sz) d2 g2) : FOpens P (f :: fs) off (Kd.pair d1 d2) (fun x => g1 x.1 ∧ g2 x.2) := ⟨fun {H enc w base sp held fuel cs} hf hl => by
 have hsz : (Kd.pair d1 d2).sz = d1.sz + d2.sz := rfl; obtain ⟨y1, hy1⟩ := hf 0 f rfl; rw [ho, ← h1.size] at hy1; obtain ⟨x1, hk1, hg1⟩ := h1.read hy1; obtain ⟨x2, hk2, hg2⟩ := h2.read (cs := cs) (fun i g hg => hf (i + 1) g (by simpa using hg)) (by omega); refine ⟨(x1, x2), ⟨_, _, ?_, hk1, hk2⟩, hg1, hg2⟩
 rw [← List.drop_drop, List.take_append_drop]⟩
theorem Opens.struct {α : Type} {P : Program} {t : TypeId} {fs : Array Field} {d : Kd α} {good : α → Prop} (ht : P.underlying t = some (.struct fs)) (hs : d.sz = P.cellsOf t) (h : FOpens P fs.toList 0 d good) : Opens P t d good := ⟨hs, fun {H enc w base sp held fuel cs x} hx => by
 obtain ⟨xs, n, _, _, hcl, hxl, hf⟩ := DataW.trod_struct ht hx
 have := h.read (enc := enc) (w := w) (base := base) (sp := sp) (held := held) (fuel := n) (cs := cs) (fun i f hi => by
  rw [Array.getElem?_toList] at hi; have hlt := (Array.getElem?_eq_some_iff.1 hi).1
  exact ⟨xs[i]'(by omega), by rw [hf i f hi, List.getElem?_eq_getElem]⟩) (by omega)
 simpa using this⟩
def fld (e : TypeId) (off : Nat) : Field := { name := "", type := e, offset := off, embedded := false, tag := "", pkgPath := "", byteOffset := 0 }
theorem Opens.array {α : Type} {P : Program} {t e : TypeId} {n : Nat} {d : Kd α} {good : α → Prop} (c : Nat) (ht : P.underlying t = some (.array n e)) (hs : d.sz = P.cellsOf t) (hc : c = P.cellsOf e) (h : FOpens P ((List.range n).map fun i => fld e (i * c)) 0 d good) : Opens P t d good := ⟨hs, fun {H enc w base sp held fuel cs x} hx => by
 subst hc; obtain ⟨xs, m, _, _, hcl, hxl, hf⟩ := DataW.trod_array ht hx
 have := h.read (enc := enc) (w := w) (base := base) (sp := sp) (held := held) (fuel := m) (cs := cs) (fun i f hi => by
  rw [List.getElem?_map, Option.map_eq_some_iff] at hi; obtain ⟨j, hj, rfl⟩ := hi; have hlt := (List.getElem?_eq_some_iff.1 hj).1; rw [List.length_range] at hlt; rw [List.getElem?_range hlt] at hj
  cases hj
  exact ⟨xs[i]'(by omega), (hf i hlt).trans (List.getElem?_eq_getElem (by omega))⟩) (by omega)
 simpa using this⟩
theorem Opens.iso {α β : Type} {P : Program} {t : TypeId} {d : Kd α} {good : α → Prop} (f : β → α) (g : α → β) (hfg : ∀ x, f (g x) = x) (h : Opens P t d good) : Opens P t (Kd.iso d f) (fun y => good (f y)) := ⟨h.size, fun hx => by
 obtain ⟨y, hk, hg⟩ := h.read hx
 exact ⟨g y, by show d.K _ (f (g y)) _; rw [hfg]; exact hk, by rw [hfg]; exact hg⟩⟩
end Go.Proofs.YtemingmeidmjkaaDoor.Rw
namespace Go.Proofs.YtemingmeidmjkaaDoor.Q
open Go.RowKit Go.Proofs.YtemingmeidmjkaaDoorW.PrintWords Go.Proofs.YtemingmeidmjkaaDoorW.PrintLast Go.Proofs.YtemingmeidmjkaaDoorW.PrintMore
attribute [local go_sem] max2_int min2_int max_two min_two max_three min_three max_four min_four   -- for this text's walks alone
set_option linter.unusedVariables false
set_option linter.unusedSimpArgs false
end Go.Proofs.YtemingmeidmjkaaDoor.Q
namespace Go.Proofs.YtemingmeidmjkaaDoor.Q
open Go.RowKit Go.Proofs.YtemingmeidmjkaaDoorW.PrintWords Go.Proofs.YtemingmeidmjkaaDoorW.PrintLast Go.Proofs.YtemingmeidmjkaaDoorW.PrintMore
attribute [local go_sem] max2_int min2_int max_two min_two max_three min_three max_four min_four   -- for this text's walks alone
set_option linter.unusedVariables false
set_option linter.unusedSimpArgs false
end Go.Proofs.YtemingmeidmjkaaDoor.Q
namespace Go.Proofs.YtemingmeidmjkaaDoor.Q
open Go.RowKit Go.Proofs.YtemingmeidmjkaaDoorW.PrintWords Go.Proofs.YtemingmeidmjkaaDoorW.PrintLast Go.Proofs.YtemingmeidmjkaaDoorW.PrintMore
attribute [local go_sem] max2_int min2_int max_two min_two max_three min_three max_four min_four   -- for this text's walks alone
set_option linter.unusedVariables false
set_option linter.unusedSimpArgs false
end Go.Proofs.YtemingmeidmjkaaDoor.Q
namespace Go.Proofs.YtemingmeidmjkaaDoor.Q
open Go.RowKit Go.Proofs.YtemingmeidmjkaaDoorW.PrintWords Go.Proofs.YtemingmeidmjkaaDoorW.PrintLast Go.Proofs.YtemingmeidmjkaaDoorW.PrintMore
attribute [local go_sem] max2_int min2_int max_two min_two max_three min_three max_four min_four   -- for this text's walks alone
set_option linter.unusedVariables false
set_option linter.unusedSimpArgs false
theorem eqA80 (d : Nat) (w : World) (x0 y0 : Int) (x1 y1 : Int) (x2 y2 : Int) :
  (Op.equalIn (d + 2) 80 (.agg #[.int .i64 x0, .int .i64 x1, .int .i64 x2]) (.agg #[.int .i64 y0, .int .i64 y1, .int .i64 y2])).run Tryd.prog w = .ok (x0 == y0 && (x1 == y1 && (x2 == y2))) w := by
 refine eqA_of Tryd.underlying80 sqF ?_; refine eqf_cons (by rfl) (by go_simp; rfl) (by go_simp; rfl) (by go_simp) ?_; refine eqf_cons (by rfl) (by go_simp; rfl) (by go_simp; rfl) (by go_simp) ?_; exact eqf_last (by rfl) (by go_simp; rfl) (by go_simp; rfl) (by go_simp)
end Go.Proofs.YtemingmeidmjkaaDoor.Q
namespace Go.Proofs.YtemingmeidmjkaaDoor.Q
open Go.RowKit Go.Proofs.YtemingmeidmjkaaDoorW.PrintWords Go.Proofs.YtemingmeidmjkaaDoorW.PrintLast Go.Proofs.YtemingmeidmjkaaDoorW.PrintMore
attribute [local go_sem] max2_int min2_int max_two min_two max_three min_three max_four min_four   -- for this text's walks alone
set_option linter.unusedVariables false
set_option linter.unusedSimpArgs false
attribute [local go_sem high] eqA80
end Go.Proofs.YtemingmeidmjkaaDoor.Q
namespace Go.Proofs.YtemingmeidmjkaaDoor.Q
open Go.RowKit Go.Proofs.YtemingmeidmjkaaDoorW.PrintWords Go.Proofs.YtemingmeidmjkaaDoorW.PrintLast Go.Proofs.YtemingmeidmjkaaDoorW.PrintMore
attribute [local go_sem] max2_int min2_int max_two min_two max_three min_three max_four min_four   -- for this text's walks alone
set_option linter.unusedVariables false
set_option linter.unusedSimpArgs false
end Go.Proofs.YtemingmeidmjkaaDoor.Q
namespace Go.Proofs.YtemingmeidmjkaaDoor.Q
open Go.RowKit Go.Proofs.YtemingmeidmjkaaDoorW.PrintWords
set_option linter.unusedVariables false
set_option linter.unusedSimpArgs false
theorem rdI (l : List Int) (i : Nat) (h : i < l.length) : rd l (i : Int) = l[i] := by simp [rd, h]
theorem rdA (l : List S41) (i : Nat) (h : i < l.length) : rd_T41 l (i : Int) = l[i] := by simp [rd_T41, h]
theorem inB_one (b c a : Int) : inB b c [a] = true ↔ b ≤ a ∧ a ≤ c := by rw [inB_iff]; simp
theorem toSt_get (l : List S41) (i : Nat) (h : i < l.length) : (toSt l)[i]'(by rw [toSt_len]; exact h) = ⟨l[i].f0, l[i].f1⟩ := by simp [toSt]
end Go.Proofs.YtemingmeidmjkaaDoor.Q
namespace Go.Proofs.YtemingmeidmjkaaDoor.Q
open Go.RowKit Go.Proofs.YtemingmeidmjkaaDoorW.PrintWords
set_option linter.unusedVariables false
set_option linter.unusedSimpArgs false
def ub (x : Int) : Prop := 0 ≤ x ∧ x ≤ 255
theorem ub_wf {x : Int} (h : (Lit.int .u8 x).wf = true) : ub x := by
 simp only [Lit.wf, Bool.and_eq_true, decide_eq_true_eq] at h; exact h
theorem tm {x m : Int} (h : 0 ≤ x) : Int.tmod x m = x % m := Int.tmod_eq_emod_of_nonneg h
theorem mn_min (a b : Int) : mn a b = min a b := by unfold mn; omega
theorem mx_max1 (a b : Int) : mx a b = max a b := by unfold mx; omega
theorem rd_app (A : List Int) (x : Int) (j : Nat) (h : j < A.length) : rd (A ++ [x]) (j : Int) = rd A (j : Int) := by
 unfold rd
 rw [Int.toNat_natCast, List.getD_eq_getElem?_getD, List.getD_eq_getElem?_getD, List.getElem?_append_left h]
theorem rd_last (A : List Int) (x : Int) (j : Nat) (h : j = A.length) : rd (A ++ [x]) (j : Int) = x := by
 subst h
 unfold rd
 rw [Int.toNat_natCast, List.getD_eq_getElem?_getD, List.getElem?_append_right (Nat.le_refl _), Nat.sub_self]; rfl
theorem rd_in {l : List Int} {j : Int} (h0 : 0 ≤ j) (h : j < l.length) : rd l j ∈ l := by
 obtain ⟨m, rfl⟩ : ∃ m : Nat, j = (m : Int) := ⟨j.toNat, by omega⟩; rw [rdI l m (by omega)]; exact List.getElem_mem _
theorem roadE_ok {st : List Sp} {wg : List Wg} (h1 : 1 ≤ st.length) (h5 : st.length ≤ 5) (hs : ∀ s ∈ st, stB s) (h8 : wg.length ≤ 8) (hw : ∀ x ∈ wg, (0 ≤ x.p ∧ x.p ≤ st.length) ∧ (0 ≤ x.r ∧ x.r ≤ 400) ∧ (0 ≤ x.o ∧ x.o ≤ 20)) : roadE st wg = 0 := by
 have e1 : inB 1 5 [(st.length : Int)] = true := (inB_one _ _ _).2 (by omega)
 have e2 : st.any stBad = false := by
  rw [List.any_eq_false]; intro s h; obtain ⟨a, b, c⟩ := hs s h
  have e : inB 0 300 [s.lo, s.hi] = true := by rw [inB_iff]; simp; omega
  simp [stBad, e]; omega
 have e3 : wg.any (wgBad st.length) = false := by
  rw [List.any_eq_false]; intro x h; obtain ⟨a, b, c⟩ := hw x h
  simp [wgBad, (inB_one _ _ _).2 a, (inB_one _ _ _).2 b, (inB_one _ _ _).2 c]
 simp [roadE, e1, e2, e3]; omega
theorem road_l0 (l0 : List S76) (a : Int) (b : List Int) (c : List S136) (hb : ∀ x ∈ l0, ub x.f0 ∧ ub x.f1) : ∀ (d i : Nat) (acc : List S41), i + d = 4 → acc.length = i → (∀ s ∈ toSt acc, stB s) → ∃ st : List S41, Ev (fun k => lw_Cart_road.l0 k (i : Int) l0 a b c acc) (st, []) ∧ 1 ≤ st.length ∧ st.length ≤ 4 ∧ ∀ s ∈ toSt st, stB s
 | 0, i, acc, hd, hl, hs => by
  obtain rfl : i = 4 := by omega
  refine ⟨acc, ?_, by omega, by omega, hs⟩; refine Ev.up ?_; simp only [lw_Cart_road.l0, if_neg (show ¬ ((4 : Nat) : Int) = 0 by omega)]
  by_cases h : ((4 : Nat) : Int) < (l0.length : Int)
  ·simp only [if_pos h, decide_eq_false (show ¬ ((4 : Nat) : Int) < 4 by omega)]
   refine Ev.up ?_; simp only [lw_Cart_road.j1, Bool.false_eq_true, if_false]; exact Ev.now _
  ·simp only [if_neg h]
   refine Ev.up ?_; simp only [lw_Cart_road.j1, Bool.false_eq_true, if_false]; exact Ev.now _
 | d + 1, i, acc, hd, hl, hs => by
  by_cases hgo : i = 0 ∨ i < l0.length
  ·obtain ⟨x, hx, hev⟩ : ∃ x : S41, stB ⟨x.f0, x.f1⟩ ∧ ∀ r, Ev (fun k => lw_Cart_road.l0 k ((i + 1 : Nat) : Int) l0 a b c (acc ++ [x])) r → Ev (fun k => lw_Cart_road.j1 k (i : Int) true l0 a b c acc) r := by
    by_cases hi : i < l0.length
    ·have hm : rd_T76 l0 (i : Int) ∈ l0 := by
      have e : rd_T76 l0 (i : Int) = l0[i] := by simp [rd_T76, hi]
      rw [e]; exact List.getElem_mem _
     obtain ⟨⟨h1, h2⟩, h3, h4⟩ := hb _ hm; refine ⟨⟨Int.tmod (wrap64 ((rd_T76 l0 (i : Int)).f0)) 200, wrap64 ((Int.tmod (wrap64 ((rd_T76 l0 (i : Int)).f0)) 200) + (Int.tmod (wrap64 ((rd_T76 l0 (i : Int)).f1)) 100))⟩, ?_, fun r hr => ?_⟩
     ·simp only
      rw [wr (x := (rd_T76 l0 (i : Int)).f0) (by omega), wr (x := (rd_T76 l0 (i : Int)).f1) (by omega), tm h1, tm h3, wr (by omega)]
      unfold stB
      simp only; omega
     ·refine Ev.up ?_
      simp only [lw_Cart_road.j1, if_true, if_pos (show (i : Int) < (l0.length : Int) by omega), if_pos (show (0 : Int) ≤ (i : Int) by omega), lw_span.f, Option.bind_some, if_pos (show acc.length < 8796093022208 by omega), wi i (by omega)]; exact hr
    ·refine ⟨⟨(80 : Int) % 200, ((80 : Int) % 200) + ((30 : Int) % 100)⟩, ⟨by decide, by decide, by decide⟩, fun r hr => ?_⟩
     refine Ev.up ?_; simp only [lw_Cart_road.j1, if_true, if_neg (show ¬ (i : Int) < (l0.length : Int) by omega), lw_span.f, Option.bind_some, if_pos (show acc.length < 8796093022208 by omega), wi i (by omega)]; exact hr
   obtain ⟨st, h1, h2⟩ := road_l0 l0 a b c hb d (i + 1) (acc ++ [x]) (by omega) (by simp [hl]) (by
    intro s h; simp only [toSt, List.map_append, List.map_cons, List.map_nil, List.mem_append, List.mem_singleton] at h
    rcases h with h | h
    ·exact hs s h
    ·rw [h]; exact hx)
   refine ⟨st, ?_, h2⟩; refine Ev.up ?_
   by_cases h0 : i = 0
   ·simp only [lw_Cart_road.l0, if_pos (show (i : Int) = 0 by omega)]
    exact hev _ h1
   ·simp only [lw_Cart_road.l0, if_neg (show ¬ (i : Int) = 0 by omega), if_pos (show (i : Int) < (l0.length : Int) by omega), decide_eq_true (show (i : Int) < 4 by omega)]
    exact hev _ h1
  ·refine ⟨acc, ?_, by omega, by omega, hs⟩
   refine Ev.up ?_; simp only [lw_Cart_road.l0, if_neg (show ¬ (i : Int) = 0 by omega), if_neg (show ¬ (i : Int) < (l0.length : Int) by omega)]; refine Ev.up ?_; simp only [lw_Cart_road.j1, Bool.false_eq_true, if_false]; exact Ev.now _
theorem road_f (l0 : List S76) (a : Int) (b : List Int) (c : List S136) (hb : ∀ x ∈ l0, ub x.f0 ∧ ub x.f1) : ∃ st : List S41, Ev (fun k => lw_Cart_road.f k l0 a b c) (st, []) ∧ 1 ≤ st.length ∧ st.length ≤ 4 ∧ ∀ s ∈ toSt st, stB s :=
 road_l0 l0 a b c hb 4 0 [] (by omega) rfl (fun s h => by cases h)
theorem own_f (st : List S41) (wg : List S80) (h0 : st.length ≤ 1000) (h1 : wg.length ≤ 1000) : lw_own.f st wg = some (st, wg) := by
 unfold lw_own.f
 simp only [Option.bind_some, List.length_nil, List.nil_append]; rw [if_pos (by omega), if_pos (by omega)]
theorem most_f {s : Sp} (h : stB s) {w : Int} (hw : 0 ≤ w ∧ w ≤ 400) : lw_most.f s.lo s.hi w = some (w - loS s w) := by
 obtain ⟨h0, h1, h2⟩ := h; have h3 : 0 ≤ w * s.hi := Int.mul_nonneg hw.1 (by omega); have h4 : w * s.hi ≤ 400 * 300 := Int.mul_le_mul hw.2 h2 (by omega) (by omega)
 unfold lw_most.f loS
 generalize w * s.hi = b at *
 rw [wr (x := b) (by omega), wr (x := b + 999) (by omega), Int.tdiv_eq_ediv_of_nonneg (by omega), wr (by omega)]
 congr 1
 omega
theorem least_f {s : Sp} (h : stB s) {w : Int} (hw : 0 ≤ w ∧ w ≤ 400) : lw_least.f s.lo s.hi w = some (w - hiS s w) := by
 obtain ⟨h0, h1, h2⟩ := h; have h3 : 0 ≤ w * s.lo := Int.mul_nonneg hw.1 (by omega); have h4 : w * s.lo ≤ 400 * 300 := Int.mul_le_mul hw.2 (by omega) (by omega) (by omega)
 unfold lw_least.f hiS
 generalize w * s.lo = b at *
 rw [wr (x := b) (by omega), Int.tdiv_eq_ediv_of_nonneg (by omega), wr (by omega)]
 congr 1
 omega
theorem by_f (l : List Int) (hl : ∀ x ∈ l, ub x) (i : Int) (hi : 0 ≤ i) : ∃ b, lw_by.f l i = some b ∧ ub b := by
 unfold lw_by.f
 by_cases h : (l.length : Int) = 0
 ·rw [if_pos h]
  exact ⟨0, rfl, by decide, by decide⟩
 ·have h1 : 0 ≤ i % (l.length : Int) := Int.emod_nonneg _ h
  have h2 : i % (l.length : Int) < (l.length : Int) := Int.emod_lt_of_pos _ (by omega); have hb := hl _ (rd_in h1 h2); rw [if_neg h, tm hi, if_pos h1, if_pos h2]; refine ⟨_, rfl, ?_⟩; obtain ⟨h3, h4⟩ := hb; rw [wr (by omega)]; exact ⟨h3, h4⟩
structure LvP (st : List Sp) (th : Int) (i : Nat) (g : Int) (A T : List Int) : Prop where
 la : A.length = i + 1
 lt : T.length = i
 bd : ∀ j : Nat, j ≤ i → 0 ≤ rd A (j : Int) ∧ rd A (j : Int) ≤ 400
 step : ∀ j : Nat, j < i → loS (rdS st (j : Int)) (rd A (j : Int)) ≤ rd A (j : Int) - rd T (j : Int) ∧ rd A (j : Int) - rd T (j : Int) ≤ hiS (rdS st (j : Int)) (rd A (j : Int)) ∧ rd A ((j + 1 : Nat) : Int) = rd A (j : Int) - rd T (j : Int) - (if (j : Int) = th then g else 0)
 g0 : (i : Int) ≤ th ∨ th < 0 → g = 0
 gn : 0 ≤ g
theorem LvP.push {st : List Sp} {th : Int} {i : Nat} {g g' : Int} {A T : List Int} (h : LvP st th i g A T) (t v : Int) (h1 : loS (rdS st (i : Int)) (rd A (i : Int)) ≤ rd A (i : Int) - t) (h2 : rd A (i : Int) - t ≤ hiS (rdS st (i : Int)) (rd A (i : Int)))
  (hv : v = rd A (i : Int) - t - (if (i : Int) = th then g' else 0)) (hb : 0 ≤ v ∧ v ≤ 400) (hg : (i : Int) ≠ th → g' = g) (hn : 0 ≤ g') : LvP st th (i + 1) g' (A ++ [v]) (T ++ [t]) where
 la := by simp [h.la]
 lt := by simp [h.lt]
 bd := by
  intro j hj
  by_cases e : j = i + 1
  ·rw [rd_last A v j (by rw [h.la, e])]
   exact hb
  ·rw [rd_app A v j (by rw [h.la]; omega)]
   exact h.bd j (by omega)
 step := by
  intro j hj
  by_cases e : j = i
  ·subst e
   rw [rd_app A v j (by rw [h.la]; omega), rd_last T t j h.lt.symm, rd_last A v (j + 1) (by rw [h.la])]; exact ⟨h1, h2, hv⟩
  ·have := h.step j (by omega)
   rw [rd_app A v j (by rw [h.la]; omega), rd_app T t j (by rw [h.lt]; omega), rd_app A v (j + 1) (by rw [h.la]; omega)]; refine ⟨this.1, this.2.1, ?_⟩; rw [this.2.2]
   by_cases e2 : (j : Int) = th
   ·rw [if_pos e2, if_pos e2, hg (by omega)]
   ·rw [if_neg e2, if_neg e2]
 g0 := by
  intro hc
  by_cases e : (i : Int) = th
  ·omega
  ·rw [hg e]
   exact h.g0 (by omega)
 gn := hn
theorem take_f (lo D b : Int) (hb : ub b) (hD : 0 ≤ D ∧ D ≤ 400) (hlo : 0 ≤ lo ∧ lo ≤ 400) : ∃ t, wrap64 (lo + wrap64 (Int.tdiv (wrap64 (b * wrap64 D)) 255)) = t ∧ lo ≤ t ∧ t ≤ lo + D := by
 obtain ⟨h1, h2⟩ := hb; have h3 : 0 ≤ b * D := Int.mul_nonneg h1 hD.1; have h4 : b * D ≤ 255 * D := Int.mul_le_mul_of_nonneg_right h2 hD.1; rw [wr (x := D) (by omega)]
 generalize b * D = m at *
 rw [wr (x := m) (by omega), Int.tdiv_eq_ediv_of_nonneg h3, wr (x := m / 255) (by omega), wr (by omega)]; exact ⟨_, rfl, by omega, by omega⟩
section
variable (l0 : List S76) (a : Int) (l2 : List Int) (l3 : List S136) (st : List S41) (wg : List S80) (hst : ∀ s ∈ toSt st, stB s) (hb : ∀ x ∈ l2, ub x) (hn : st.length ≤ 1000) (th stolen : Int) (hs : 0 ≤ stolen ∧ stolen ≤ 1000)
theorem lived_l0 (hst : ∀ s ∈ toSt st, stB s) (hb : ∀ x ∈ l2, ub x) (hn : st.length ≤ 1000) (hs : 0 ≤ stolen ∧ stolen ≤ 1000) : ∀ (d i : Nat) (g : Int) (A T : List Int), i + d = st.length → LvP (toSt st) th i g A T →
  ∃ A' T' g', Ev (fun k => lw_Cart_lived.l0 k th stolen A T g (rd A (i : Int)) (i : Int) l0 a l2 l3 st wg) (A', T', g') ∧ LvP (toSt st) th st.length g' A' T' ∧ rd A' 0 = rd A 0
 | 0, i, g, A, T, hd, h => by
  obtain rfl : i = st.length := by omega
  refine ⟨A, T, g, ?_, h, rfl⟩; refine Ev.up ?_; simp only [lw_Cart_lived.l0, if_neg (show ¬ (st.length : Int) < (st.length : Int) by omega)]; exact Ev.now _
 | d + 1, i, g, A, T, hd, h => by
  have hi : i < st.length := by omega
  have hv : stB (rdS (toSt st) (i : Int)) := by
   rw [rdS_nat _ _ (by rw [toSt_len]; exact hi)]; exact hst _ (List.getElem_mem _)
  have er : rdS (toSt st) (i : Int) = ⟨st[i].f0, st[i].f1⟩ := by rw [rdS_nat _ _ (by rw [toSt_len]; exact hi), toSt_get st i hi]
  have hw := h.bd i (Nat.le_refl _); have e1 := least_f hv hw; have e2 := most_f hv hw; obtain ⟨b, e3, hb'⟩ := by_f l2 hb (i : Int) (by omega); have g1 := loS_nn hv hw.1; have g2 := loS_hiS hv hw.1; have g3 := hiS_le hv hw.1; obtain ⟨t, e4, t1, t2⟩ := take_f (rd A (i : Int) - hiS (rdS (toSt st) (i : Int)) (rd A (i : Int))) ((rd A (i : Int) - loS (rdS (toSt st) (i : Int)) (rd A (i : Int))) - (rd A (i : Int) - hiS (rdS (toSt st) (i : Int)) (rd A (i : Int)))) b hb' (by omega) (by omega); have hla := h.la; have hlt := h.lt
  have hA0 : ∀ v, rd (A ++ [v]) 0 = rd A 0 := fun v => rd_app A v 0 (by omega)
  by_cases hth : (i : Int) = th
  ·have p := h.push (g' := min (rd A (i : Int) - t) stolen) t (rd A (i : Int) - t - min (rd A (i : Int) - t) stolen) (by omega) (by omega) (by rw [if_pos hth]) (by omega) (fun e => absurd hth e) (by omega)
   obtain ⟨A', T', g', q1, q2, q3⟩ := lived_l0 hst hb hn hs d (i + 1) _ _ _ (by omega) p; refine ⟨A', T', g', ?_, q2, by rw [q3, hA0]⟩; rw [rd_last A _ (i + 1) (by omega)] at q1; refine Ev.up ?_; rw [er] at e1 e2 e4; simp only at e1 e2; simp only [lw_Cart_lived.l0, if_pos (show (i : Int) < (st.length : Int) by omega), if_pos (show (0 : Int) ≤ (i : Int) by omega), rdA st i hi, e1, e2, e3, Option.bind_some, e4, if_pos hth, if_pos (show A.length < 17592186044416 by omega), if_pos (show T.length < 17592186044416 by omega), mn_min, wr (show -9223372036854775808 ≤ rd A (i : Int) - t ∧ rd A (i : Int) - t ≤ 9223372036854775807 by omega), wr (show -9223372036854775808 ≤ rd A (i : Int) - t - min (rd A (i : Int) - t) stolen ∧ rd A (i : Int) - t - min (rd A (i : Int) - t) stolen ≤ 9223372036854775807 by omega), wi i (by omega)]; exact q1
  ·have p := h.push (g' := g) t (rd A (i : Int) - t) (by omega) (by omega) (by rw [if_neg hth]; omega) (by omega) (fun _ => rfl) h.gn
   obtain ⟨A', T', g', q1, q2, q3⟩ := lived_l0 hst hb hn hs d (i + 1) _ _ _ (by omega) p; refine ⟨A', T', g', ?_, q2, by rw [q3, hA0]⟩; rw [rd_last A _ (i + 1) (by omega)] at q1; refine Ev.up ?_; rw [er] at e1 e2 e4; simp only at e1 e2; simp only [lw_Cart_lived.l0, if_pos (show (i : Int) < (st.length : Int) by omega), if_pos (show (0 : Int) ≤ (i : Int) by omega), rdA st i hi, e1, e2, e3, Option.bind_some, e4, if_neg hth, if_pos (show A.length < 17592186044416 by omega), if_pos (show T.length < 17592186044416 by omega), wr (show -9223372036854775808 ≤ rd A (i : Int) - t ∧ rd A (i : Int) - t ≤ 9223372036854775807 by omega), wi i (by omega)]; exact q1
theorem lived_f (ha : 0 ≤ a ∧ a ≤ 65535) (hst : ∀ s ∈ toSt st, stB s) (hb : ∀ x ∈ l2, ub x) (hn : st.length ≤ 1000) (hs : 0 ≤ stolen ∧ stolen ≤ 1000) :
  ∃ A T g, Ev (fun k => lw_Cart_lived.f k l0 a l2 l3 st wg th stolen) (A, T, g) ∧ LvP (toSt st) th st.length g A T ∧ rd A 0 = a % 401 := by
 have hm : 0 ≤ a % 401 ∧ a % 401 ≤ 400 := by omega
 have p : LvP (toSt st) th 0 0 [a % 401] [] := ⟨rfl, rfl, fun j hj => by
  obtain rfl : j = 0 := by omega
  exact hm, fun j hj => absurd hj (Nat.not_lt_zero _), fun _ => rfl, Int.le_refl _⟩
 obtain ⟨A, T, g, q1, q2, q3⟩ := lived_l0 l0 a l2 l3 st wg th stolen hst hb hn hs st.length 0 0 _ _ (by omega) p; refine ⟨A, T, g, ?_, q2, q3⟩
 unfold lw_Cart_lived.f
 rw [wr (by omega), tm ha.1]; exact q1
end
def wOk (n : Nat) (x : Wg) : Prop := (0 ≤ x.p ∧ x.p ≤ n) ∧ (0 ≤ x.r ∧ x.r ≤ 400) ∧ (0 ≤ x.o ∧ x.o ≤ 7)
def wHit (A : List Int) (x : Wg) : Prop := x.r - x.o ≤ rd A x.p ∧ rd A x.p ≤ x.r + x.o
section
variable (l0 : List S76) (a : Int) (l2 : List Int) (l3 : List S136) (st : List S41) (n : Nat) (A sp : List Int)
theorem weighed_l0 (hl3 : ∀ x ∈ l3, ub x.f0 ∧ ub x.f1 ∧ ub x.f2) (hA : A.length = n + 1) (hn : n ≤ 100) (hb : ∀ j : Nat, j ≤ n → 0 ≤ rd A (j : Int) ∧ rd A (j : Int) ≤ 400) (hsp : ∀ x ∈ sp, ub x) : ∀ (d i : Nat) (ws : List S80), i + d = 6 → ws.length = i → (∀ x ∈ toWg ws, wOk n x ∧ (sp = [] → wHit A x)) →
  ∃ ws', Ev (fun k => lw_Cart_weighed.l0 k A sp (i : Int) l0 a l2 l3 st ws) (st, ws') ∧ ws'.length ≤ 6 ∧ ∀ x ∈ toWg ws', wOk n x ∧ (sp = [] → wHit A x)
 | 0, i, ws, hd, hl, hw => by
  obtain rfl : i = 6 := by omega
  refine ⟨ws, ?_, by omega, hw⟩; refine Ev.up ?_; simp only [lw_Cart_weighed.l0]
  by_cases h : ((6 : Nat) : Int) < (l3.length : Int)
  ·simp only [if_pos h, decide_eq_false (show ¬ ((6 : Nat) : Int) < 6 by omega)]
   refine Ev.up ?_; simp only [lw_Cart_weighed.j1, Bool.false_eq_true, if_false]; exact Ev.now _
  ·simp only [if_neg h]
   refine Ev.up ?_; simp only [lw_Cart_weighed.j1, Bool.false_eq_true, if_false]; exact Ev.now _
 | d + 1, i, ws, hd, hl, hw => by
  by_cases hi : i < l3.length
  ·have hm : rd_T136 l3 (i : Int) ∈ l3 := by
    have e : rd_T136 l3 (i : Int) = l3[i] := by simp [rd_T136, hi]
    rw [e]; exact List.getElem_mem _
   obtain ⟨⟨h1, h2⟩, ⟨h3, h4⟩, h5, h6⟩ := hl3 _ hm
   have next : ∀ x : S80, wOk n ⟨x.f0, x.f1, x.f2⟩ → (sp = [] → wHit A ⟨x.f0, x.f1, x.f2⟩) → ∃ ws', Ev (fun k => lw_Cart_weighed.l0 k A sp ((i + 1 : Nat) : Int) l0 a l2 l3 st (ws ++ [x])) (st, ws') ∧ ws'.length ≤ 6 ∧ ∀ x ∈ toWg ws', wOk n x ∧ (sp = [] → wHit A x) := by
    intro x q1 q2; refine weighed_l0 hl3 hA hn hb hsp d (i + 1) (ws ++ [x]) (by omega) (by simp [hl]) ?_; intro y h; simp only [toWg, List.map_append, List.map_cons, List.map_nil, List.mem_append, List.mem_singleton] at h
    rcases h with h | h
    ·exact hw y h
    ·rw [h]; exact ⟨q1, q2⟩
   generalize hx : rd_T136 l3 (i : Int) = x at *
   have hP : ((x.f0 % (A.length : Int)).toNat : Int) = x.f0 % (A.length : Int) := by
    have := Int.emod_nonneg x.f0 (show (A.length : Int) ≠ 0 by omega); omega
   have hP2 : x.f0 % (A.length : Int) < (A.length : Int) := Int.emod_lt_of_pos _ (by omega); have hv := hb (x.f0 % (A.length : Int)).toNat (by omega); rw [hP] at hv
   have hO : 0 ≤ x.f1 % 8 ∧ x.f1 % 8 ≤ 7 := by omega
   have hM0 : 0 ≤ x.f2 % (2 * (x.f1 % 8) + 1) := Int.emod_nonneg _ (by omega); have hM1 : x.f2 % (2 * (x.f1 % 8) + 1) < 2 * (x.f1 % 8) + 1 := Int.emod_lt_of_pos _ (by omega)
   have hok : ∀ R : Int, wOk n ⟨x.f0 % (A.length : Int), max 0 (min 400 R), x.f1 % 8⟩ := by
    intro R
    unfold wOk
    simp only; omega
   have hhit : wHit A ⟨x.f0 % (A.length : Int), max 0 (min 400 (rd A (x.f0 % (A.length : Int)) + x.f2 % (2 * (x.f1 % 8) + 1) - x.f1 % 8)), x.f1 % 8⟩ := by
    unfold wHit
    simp only; omega
   have enter : ∀ r, Ev (fun k => lw_Cart_weighed.j1 k A sp (i : Int) true l0 a l2 l3 st ws) r → Ev (fun k => lw_Cart_weighed.l0 k A sp (i : Int) l0 a l2 l3 st ws) r := by
    intro r hr; refine Ev.up ?_; simp only [lw_Cart_weighed.l0, if_pos (show (i : Int) < (l3.length : Int) by omega), decide_eq_true (show (i : Int) < 6 by omega)]; exact hr
   generalize hPg : x.f0 % (A.length : Int) = P at *
   generalize hOg : x.f1 % 8 = O at *
   generalize hMg : x.f2 % (2 * O + 1) = M at *
   by_cases c1 : (i : Int) < (sp.length : Int)
   ·have hsi := hsp _ (rd_in (l := sp) (j := (i : Int)) (by omega) c1)
    obtain ⟨s1, s2⟩ := hsi
    have hne : sp ≠ [] := by intro e; rw [e] at c1; simp at c1; omega
    by_cases c2 : rd sp (i : Int) % 4 = 0
    ·obtain ⟨ws', q1, q2⟩ := next ⟨P, max 0 (min 400 (rd A P + M - O + rd sp (i : Int))), O⟩ (hok _) (fun e => absurd e hne)
     refine ⟨ws', enter _ ?_, q2⟩; refine Ev.up ?_; simp only [lw_Cart_weighed.j1, if_true, if_pos (show (0 : Int) ≤ (i : Int) by omega), if_pos (show (i : Int) < (l3.length : Int) by omega), hx, if_neg (show ¬ (A.length : Int) = 0 by omega), wr (x := x.f0) (by omega), wr (x := x.f1) (by omega), wr (x := x.f2) (by omega), tm h1, tm h3, tm h5, hPg, hOg, if_pos (show 0 ≤ P by omega), if_pos (show P < (A.length : Int) by omega), wr (x := 2 * O) (by omega), wr (x := 2 * O + 1) (by omega), hMg, if_neg (show ¬ 2 * O + 1 = 0 by omega), if_pos c1, tm s1, if_pos c2, if_pos (show ws.length < 5864062014805 by omega), mx_max1, mn_min, wr (x := rd sp (i : Int)) (by omega), wr (x := rd A P + M) (by omega), wr (x := rd A P + M - O) (by omega), wr (x := rd A P + M - O + rd sp (i : Int)) (by omega), wi i (by omega)]; exact q1
    ·obtain ⟨ws', q1, q2⟩ := next ⟨P, max 0 (min 400 (rd A P + M - O)), O⟩ (hok _) (fun e => absurd e hne)
     refine ⟨ws', enter _ ?_, q2⟩; refine Ev.up ?_; simp only [lw_Cart_weighed.j1, if_true, if_pos (show (0 : Int) ≤ (i : Int) by omega), if_pos (show (i : Int) < (l3.length : Int) by omega), hx, if_neg (show ¬ (A.length : Int) = 0 by omega), wr (x := x.f0) (by omega), wr (x := x.f1) (by omega), wr (x := x.f2) (by omega), tm h1, tm h3, tm h5, hPg, hOg, if_pos (show 0 ≤ P by omega), if_pos (show P < (A.length : Int) by omega), wr (x := 2 * O) (by omega), wr (x := 2 * O + 1) (by omega), hMg, if_neg (show ¬ 2 * O + 1 = 0 by omega), if_pos c1, tm s1, if_neg c2, if_pos (show ws.length < 5864062014805 by omega), mx_max1, mn_min, wr (x := rd A P + M) (by omega), wr (x := rd A P + M - O) (by omega), wi i (by omega)]; exact q1
   ·obtain ⟨ws', q1, q2⟩ := next ⟨P, max 0 (min 400 (rd A P + M - O)), O⟩ (hok _) (fun _ => hhit)
    refine ⟨ws', enter _ ?_, q2⟩; refine Ev.up ?_; simp only [lw_Cart_weighed.j1, if_true, if_pos (show (0 : Int) ≤ (i : Int) by omega), if_pos (show (i : Int) < (l3.length : Int) by omega), hx, if_neg (show ¬ (A.length : Int) = 0 by omega), wr (x := x.f0) (by omega), wr (x := x.f1) (by omega), wr (x := x.f2) (by omega), tm h1, tm h3, tm h5, hPg, hOg, if_pos (show 0 ≤ P by omega), if_pos (show P < (A.length : Int) by omega), wr (x := 2 * O) (by omega), wr (x := 2 * O + 1) (by omega), hMg, if_neg (show ¬ 2 * O + 1 = 0 by omega), if_neg c1, if_pos (show ws.length < 5864062014805 by omega), mx_max1, mn_min, wr (x := rd A P + M) (by omega), wr (x := rd A P + M - O) (by omega), wi i (by omega)]; exact q1
  ·refine ⟨ws, ?_, by omega, hw⟩
   refine Ev.up ?_; simp only [lw_Cart_weighed.l0, if_neg (show ¬ (i : Int) < (l3.length : Int) by omega)]; refine Ev.up ?_; simp only [lw_Cart_weighed.j1, Bool.false_eq_true, if_false]; exact Ev.now _
theorem weighed_f (hl3 : ∀ x ∈ l3, ub x.f0 ∧ ub x.f1 ∧ ub x.f2) (hst : st.length ≤ 1000) (hA : A.length = n + 1) (hn : n ≤ 100) (hb : ∀ j : Nat, j ≤ n → 0 ≤ rd A (j : Int) ∧ rd A (j : Int) ≤ 400) (hsp : ∀ x ∈ sp, ub x) :
  ∃ ws', Ev (fun k => lw_Cart_weighed.f k l0 a l2 l3 st [] A sp) (st, ws') ∧ ws'.length ≤ 6 ∧ ∀ x ∈ toWg ws', wOk n x ∧ (sp = [] → wHit A x) := by
 obtain ⟨ws', q1, q2⟩ := weighed_l0 l0 a l2 l3 st n A sp hl3 hA hn hb hsp 6 0 [] (by omega) rfl (fun x h => by cases h); refine ⟨ws', ?_, q2⟩
 unfold lw_Cart_weighed.f
 rw [own_f st [] hst (by simp)]; exact q1
end
end Go.Proofs.YtemingmeidmjkaaDoor.Q
namespace Go.Proofs.YtemingmeidmjkaaDoor.Q
open Go.RowKit Go.Proofs.YtemingmeidmjkaaDoorW.PrintWords Go.Proofs.YtemingmeidmjkaaDoorW.PrintLast Go.Proofs.YtemingmeidmjkaaDoorW.PrintMore
attribute [local go_sem] max2_int min2_int max_two min_two max_three min_three max_four min_four   -- for this text's walks alone
set_option linter.unusedVariables false
set_option linter.unusedSimpArgs false
end Go.Proofs.YtemingmeidmjkaaDoor.Q
namespace Go.Proofs.YtemingmeidmjkaaDoor.Q
open Go.RowKit Go.Proofs.YtemingmeidmjkaaDoorW.PrintWords Go.Proofs.YtemingmeidmjkaaDoorW.PrintLast Go.Proofs.YtemingmeidmjkaaDoorW.PrintMore
attribute [local go_sem] max2_int min2_int max_two min_two max_three min_three max_four min_four   -- for this text's walks alone
set_option linter.unusedVariables false
set_option linter.unusedSimpArgs false
end Go.Proofs.YtemingmeidmjkaaDoor.Q
namespace Go.Proofs.YtemingmeidmjkaaDoor.Q
open Go.RowKit Go.Proofs.YtemingmeidmjkaaDoorW.PrintWords
set_option linter.unusedVariables false
set_option linter.unusedSimpArgs false
def fitB (wg : List Wg) (p w : Int) : Bool := wg.all fun x => !decide (x.p = p) || inB (x.r - x.o) (x.r + x.o) [w]
theorem fitB_iff (wg : List Wg) (p w : Int) : fitB wg p w = true ↔ ∀ x ∈ wg, x.p = p → x.r - x.o ≤ w ∧ w ≤ x.r + x.o := by
 unfold fitB
 simp only [List.all_eq_true, Bool.or_eq_true, Bool.not_eq_true', decide_eq_false_iff_not, inB_one]
 exact ⟨fun h x hx hp => (h x hx).resolve_left (fun hn => hn hp), fun h x hx => by
  by_cases e : x.p = p
  ·exact .inr (h x hx e)
  ·exact .inl e⟩
theorem seen_in (p w : Int) : ∀ (wg : List Wg) (s : Sp), inS (wg.foldl (seenStep p) s) w ↔ inS s w ∧ ∀ x ∈ wg, x.p = p → x.r - x.o ≤ w ∧ w ≤ x.r + x.o
 | [], s => by simp
 | x :: wg, s => by
  rw [List.foldl_cons, seen_in p w wg]
  unfold seenStep
  by_cases e : x.p = p
  ·rw [if_pos e, inS_and]
   simp only [List.mem_cons, forall_eq_or_imp, e, true_implies]
   unfold inS
   simp only
   constructor
   ·rintro ⟨⟨h1, h2⟩, h3⟩; exact ⟨h1, h2, h3⟩
   ·rintro ⟨h1, h2, h3⟩; exact ⟨⟨h1, h2⟩, h3⟩
  ·rw [if_neg e]
   simp only [List.mem_cons, forall_eq_or_imp, e, false_implies, true_and]
theorem fit_seen (wg : List Wg) (p w : Int) (h : 0 ≤ w ∧ w ≤ 400) : fitB wg p w = true ↔ inS (seenS wg p) w := by
 rw [fitB_iff, seenS, seen_in]; simp only [inS]; exact ⟨fun h1 => ⟨h, h1⟩, fun h1 => h1.2⟩
def stpB (st : List Sp) (th : Int) (p w v : Nat) : Bool := if (p : Int) = th then decide ((v : Int) < hiS (rdS st p) w) else inB (loS (rdS st p) w) (hiS (rdS st p) w) [(v : Int)]
def fwB (st : List Sp) (wg : List Wg) (th : Int) : Nat → Nat → Bool
 | 0, w => fitB wg 0 w
 | p + 1, v => fitB wg ((p + 1 : Nat) : Int) v && (List.range 401).any fun w => decide (v ≤ w) && fwB st wg th p w && stpB st th p w v
def fuB (st : List Sp) (wg : List Wg) (th : Int) : Nat → Nat → Nat → Bool
 | 0, p, w => fwB st wg th p w
 | d + 1, p, w => fwB st wg th p w && (List.range (w + 1)).any fun v => fuB st wg th d (p + 1) v && stpB st th p w v
section
variable (st : List S41) (wg : List S80) (hok : RdOk (toSt st) (toWg wg)) (hl : wg.length ≤ 1000) (th : Int) (r : List (List Bool))
end
end Go.Proofs.YtemingmeidmjkaaDoor.Q
namespace Go.Proofs.YtemingmeidmjkaaDoor.Q
open Go.RowKit Go.Proofs.YtemingmeidmjkaaDoorW.PrintWords
set_option linter.unusedVariables false
set_option linter.unusedSimpArgs false
def ad : Option Sp → Option Sp → Option Sp
 | some a, some b => some ⟨a.lo + b.lo, a.hi + b.hi⟩
 | none, _ => none
 | some _, none => none
theorem ad_none (o : Option Sp) : ad o none = none := by cases o <;> rfl
theorem ad_comm (o p : Option Sp) : ad o p = ad p o := by
 cases o <;> cases p <;> simp only [ad, Int.add_comm]
theorem ad_mo (o p c : Option Sp) : ad (mo o p) c = mo (ad o c) (ad p c) := by
 cases c with
 | none => simp only [ad_none]; rfl
 | some c =>
  cases o with
  | none => rfl
  | some a =>
   cases p with
   | none => rfl
   | some b =>
    simp only [mo, ad, Option.some.injEq, Sp.mk.injEq]; omega
theorem fo_ad (f : Nat → Option Sp) (c : Option Sp) : ∀ n, ad (fo f n) c = fo (fun j => ad (f j) c) n
 | 0 => by cases c <;> rfl
 | n + 1 => by rw [fo_succ, fo_succ, ad_mo, fo_ad f c n]
theorem fo_da (f : Nat → Option Sp) (c : Option Sp) (n : Nat) : ad c (fo f n) = fo (fun j => ad c (f j)) n := by
 rw [ad_comm, fo_ad]
 exact fo_congr fun j _ => ad_comm _ _
theorem fo_mo (f g : Nat → Option Sp) : ∀ n, fo (fun j => mo (f j) (g j)) n = mo (fo f n) (fo g n)
 | 0 => rfl
 | n + 1 => by
  rw [fo_succ, fo_succ, fo_succ, fo_mo f g n, mo_assoc, mo_assoc]
  congr 1
  rw [← mo_assoc, ← mo_assoc, mo_comm (fo g n)]
theorem fo_swap (F : Nat → Nat → Option Sp) (m : Nat) : ∀ n, fo (fun i => fo (fun j => F i j) m) n = fo (fun j => fo (fun i => F i j) n) m
 | 0 => by
  rw [show (fun j => fo (fun i => F i j) 0) = fun _ => none from rfl, fo_none fun _ _ => rfl]; rfl
 | n + 1 => by
  rw [fo_succ, fo_swap F m n, ← fo_mo]
  exact fo_congr fun j _ => (fo_succ (fun i => F i j) n).symm
theorem fo_add (f : Nat → Option Sp) (n : Nat) : ∀ m, fo f (n + m) = mo (fo f n) (fo (fun j => f (n + j)) m)
 | 0 => (mo_none _).symm
 | m + 1 => by rw [← Nat.add_assoc, fo_succ, fo_add f n m, fo_succ, mo_assoc]
theorem fo_shift (f : Nat → Option Sp) (a m N : Nat) (h : a + m ≤ N) (hn : ∀ j, j < N → (j < a ∨ a + m ≤ j) → f j = none) : fo f N = fo (fun j => f (a + j)) m := by
 obtain ⟨r, rfl⟩ : ∃ r, N = a + m + r := ⟨N - (a + m), by omega⟩; rw [fo_add f (a + m) r, fo_add f a m, fo_none (f := f) (n := a) (fun j hj => hn j (by omega) (.inl hj)), fo_none (n := r) (fun j hj => hn (a + m + j) (by omega) (.inr (by omega))), mo_none]; rfl
theorem fo_seen (wg : List Wg) (p : Int) (f : Int → Option Sp) (hf : ∀ w : Int, ¬ inS (seenS wg p) w → f w = none) : fo (fun w => f (w : Int)) 401 = fo (fun j => f ((seenS wg p).lo + (j : Int))) (spN (seenS wg p)) := by
 obtain ⟨h1, h2⟩ := seenS_ok wg p
 generalize seenS wg p = s at *
 by_cases hs : s.lo > s.hi
 ·have e : spN s = 0 := by unfold spN; omega
  rw [e, fo_none fun j _ => hf _ (by unfold inS; omega)]; rfl
 ·have hb : 0 ≤ s.lo := h1
  obtain ⟨a, ha⟩ : ∃ a : Nat, s.lo = (a : Int) := ⟨s.lo.toNat, by omega⟩; rw [fo_shift (fun w => f (w : Int)) a (spN s) 401 (by unfold spN; omega) (fun j _ hj => hf _ (by unfold inS; unfold spN at hj; omega))]
  refine fo_congr fun j _ => ?_
  rw [ha]
  congr 1
def sh (t : Sp) (w v : Int) : Option Sp → Option Sp
 | none => none
 | some a => some ⟨a.lo + max 0 (loS t w - v), a.hi + (hiS t w - v)⟩
def bwN (st : List Sp) (wg : List Wg) : Nat → Nat → Nat → Option Sp
 | 0, p, w => if fitB wg (p : Int) (w : Int) then some ⟨0, 0⟩ else none
 | d + 1, p, w => if fitB wg (p : Int) (w : Int) then fo (fun v => sh (rdS st (p : Int)) (w : Int) (v : Int) (bwN st wg d (p + 1) v)) (hiS (rdS st (p : Int)) (w : Int) + 1).toNat else none
theorem bwN_fit {st : List Sp} {wg : List Wg} {d p w : Nat} (h : fitB wg (p : Int) (w : Int) = false) : bwN st wg d p w = none := by
 cases d <;> simp [bwN, h]
section
variable {st : List Sp} {wg : List Wg}
theorem bw_step (hok : RdOk st wg) (i d : Nat) (hi : i + (d + 1) = st.length) :
  fo (fun w => ad (msN st wg i (w : Int)) (bwN st wg (d + 1) i w)) 401 = fo (fun v => ad (msN st wg (i + 1) (v : Int)) (bwN st wg d (i + 1) v)) 401 := by
 have hst := hok.at (i : Int) (by omega) (by omega)
 have hms : ∀ w : Int, ¬ inS (seenS wg (i : Int)) w → msN st wg i w = none := by
  intro w hw
  cases h : msN st wg i w with
  | none => rfl
  | some s => exact absurd (msN_ok hok i (by omega) w s h).1 hw
 -- forwards
 have e1 : fo (fun v => ad (msN st wg (i + 1) (v : Int)) (bwN st wg d (i + 1) v)) 401 = fo (fun v => fo (fun w => ad (con (rdS st (i : Int)) (seenS wg ((i + 1 : Nat) : Int)) (v : Int) (w : Int) (msN st wg i (w : Int))) (bwN st wg d (i + 1) v)) 401) 401 := by
  refine fo_congr fun v hv => ?_
  rw [msN, msStep, ← fo_seen wg (i : Int) (fun w => con (rdS st (i : Int)) (seenS wg ((i + 1 : Nat) : Int)) (v : Int) w (msN st wg i w)) (fun w hw => by rw [hms w hw]; rfl), fo_ad]
 -- backwards
 have e2 : fo (fun w => ad (msN st wg i (w : Int)) (bwN st wg (d + 1) i w)) 401 = fo (fun w => fo (fun v => ad (msN st wg i (w : Int)) (if (v : Int) ≤ hiS (rdS st (i : Int)) (w : Int) then sh (rdS st (i : Int)) (w : Int) (v : Int) (bwN st wg d (i + 1) v) else none)) 401) 401 := by
  refine fo_congr fun w hw => ?_
  cases hm : msN st wg i (w : Int) with
  | none =>
   rw [fo_none (f := fun v => ad none (if (v : Int) ≤ hiS (rdS st (i : Int)) (w : Int) then sh (rdS st (i : Int)) (w : Int) (v : Int) (bwN st wg d (i + 1) v) else none)) (fun j _ => rfl)]; rfl
  | some a =>
   have hin := (msN_ok hok i (by omega) _ _ hm).1; have hfit := (fit_seen wg (i : Int) (w : Int) (by omega)).2 hin; have hle := hiS_le hst (w := (w : Int)) (by omega); have h0 := loS_nn hst (w := (w : Int)) (by omega); have h1 := loS_hiS hst (w := (w : Int)) (by omega)
   have e3 : fo (fun v => if ((v : Nat) : Int) ≤ hiS (rdS st (i : Int)) (w : Int) then sh (rdS st (i : Int)) (w : Int) (v : Int) (bwN st wg d (i + 1) v) else none) 401 = fo (fun v => sh (rdS st (i : Int)) (w : Int) (v : Int) (bwN st wg d (i + 1) v)) (hiS (rdS st (i : Int)) (w : Int) + 1).toNat := by
    rw [fo_shift (fun v => if ((v : Nat) : Int) ≤ hiS (rdS st (i : Int)) (w : Int) then sh (rdS st (i : Int)) (w : Int) (v : Int) (bwN st wg d (i + 1) v) else none) 0 (hiS (rdS st (i : Int)) (w : Int) + 1).toNat 401 (by omega) (fun j _ hj => by rw [if_neg (by omega)])]
    refine fo_congr fun v hv => ?_
    rw [Nat.zero_add, if_pos (by omega)]
   rw [bwN, if_pos hfit, ← fo_da, e3]
 rw [e1, e2, fo_swap]
 refine fo_congr fun v hv => fo_congr fun w hw => ?_
 cases hb : bwN st wg d (i + 1) v with
 | none =>
  rw [ad_none]
  have : (if (v : Int) ≤ hiS (rdS st (i : Int)) (w : Int) then sh (rdS st (i : Int)) (w : Int) (v : Int) none else none) = none := by split <;> rfl
  rw [this, ad_none]
 | some b =>
  have hfit : fitB wg ((i + 1 : Nat) : Int) (v : Int) = true := by
   cases hf : fitB wg ((i + 1 : Nat) : Int) (v : Int)
   ·rw [bwN_fit hf] at hb
    cases hb
   ·rfl
  have hin := (fit_seen wg ((i + 1 : Nat) : Int) (v : Int) (by omega)).1 hfit
  unfold inS at hin
  cases msN st wg i (w : Int) with
  | none => rfl
  | some a =>
   simp only [con]
   by_cases hv2 : (v : Int) ≤ hiS (rdS st (i : Int)) (w : Int)
   ·rw [if_pos hv2, if_pos (by omega)]
    simp only [sh, ad, Option.some.injEq, Sp.mk.injEq]; omega
   ·rw [if_neg hv2, if_neg (by omega)]
    rfl
theorem bw_all (hok : RdOk st wg) : ∀ (d i : Nat), i + d = st.length → fo (fun w => ad (msN st wg i (w : Int)) (bwN st wg d i w)) 401 = msAll st wg
 | 0, i, hi => by
  obtain rfl : i = st.length := by omega
  have hms : ∀ w : Int, ¬ inS (seenS wg (st.length : Int)) w → msN st wg st.length w = none := by
   intro w hw
   cases h : msN st wg st.length w with
   | none => rfl
   | some s => exact absurd (msN_ok hok st.length (by omega) w s h).1 hw
  rw [msAll, ← fo_seen wg (st.length : Int) (fun w => msN st wg st.length w) hms]
  refine fo_congr fun w hw => ?_
  cases hm : msN st wg st.length (w : Int) with
  | none => rfl
  | some a =>
   have hin := (msN_ok hok st.length (by omega) _ _ hm).1; rw [bwN, if_pos ((fit_seen wg (st.length : Int) (w : Int) (by omega)).2 hin)]
   simp [ad]
 | d + 1, i, hi => by
  rw [bw_step hok i d hi]; exact bw_all hok d (i + 1) (by omega)
theorem bw_eq (hok : RdOk st wg) : fo (fun w => bwN st wg st.length 0 w) 401 = msAll st wg := by
 rw [← bw_all hok st.length 0 (by omega)]
 refine fo_congr fun w hw => ?_
 cases hf : fitB wg 0 (w : Int)
 ·rw [bwN_fit (p := 0) hf, ad_none]
 ·have hin := (fit_seen wg 0 (w : Int) (by omega)).1 hf
  have : msN st wg 0 (w : Int) = some ⟨0, 0⟩ := by
   unfold inS at hin
   simp only [msN]; rw [if_pos (by unfold spN; omega)]
  rw [this]
  cases bwN st wg st.length 0 w with
  | none => rfl
  | some b => simp [ad]
theorem fo_lo {B : Int} {f : Nat → Option Sp} : ∀ {n : Nat}, (∀ j, j < n → ∀ s, f j = some s → s.lo ≤ B) → ∀ s, fo f n = some s → s.lo ≤ B
 | 0, _, s, h => by cases h
 | n + 1, hf, s, h => by
  rw [fo_succ] at h; have ih := fo_lo (fun j hj => hf j (show j < n + 1 by omega)) (n := n)
  cases h1 : fo f n with
  | none =>
   rw [h1] at h; exact hf n (by omega) s h
  | some a =>
   have ha := ih a h1; rw [h1] at h
   cases h2 : f n with
   | none =>
    rw [h2] at h; rw [← Option.some.inj h]; exact ha
   | some b =>
    rw [h2] at h; rw [← Option.some.inj h]; simp only; omega
theorem bwN_ok (hok : RdOk st wg) : ∀ (d p w : Nat), p + d = st.length → w ≤ 400 → ∀ s, bwN st wg d p w = some s → bdS 0 (400 * (d : Int)) s ∧ s.lo ≤ (w : Int)
 | 0, p, w, hp, hw, s, h => by
  simp only [bwN] at h
  split at h
  ·rw [← Option.some.inj h]
   simp [bdS]
  ·cases h
 | d + 1, p, w, hp, hw, s, h => by
  have hst := hok.at (p : Int) (by omega) (by omega); have g1 := loS_nn hst (w := (w : Int)) (by omega); have g2 := loS_hiS hst (w := (w : Int)) (by omega); have g3 := hiS_le hst (w := (w : Int)) (by omega); simp only [bwN] at h
  split at h
  ·have key : ∀ j, j < (hiS (rdS st (p : Int)) (w : Int) + 1).toNat → ∀ s, sh (rdS st (p : Int)) (w : Int) (j : Int) (bwN st wg d (p + 1) j) = some s → bdS 0 (400 * ((d + 1 : Nat) : Int)) s ∧ s.lo ≤ (w : Int) := by
    intro j hj s hs
    cases hb : bwN st wg d (p + 1) j with
    | none => rw [hb] at hs; cases hs
    | some a =>
     have ih := bwN_ok hok d (p + 1) j (by omega) (by omega) a hb; rw [hb] at hs; simp only [sh, Option.some.injEq] at hs; rw [← hs]
     unfold bdS at *
     simp only; omega
   exact ⟨fo_bd (fun j hj s hs => (key j hj s hs).1) s h, fo_lo (fun j hj s hs => (key j hj s hs).2) s h⟩
  ·cases h
end
end Go.Proofs.YtemingmeidmjkaaDoor.Q
namespace Go.Proofs.YtemingmeidmjkaaDoor.Q
open Go.RowKit Go.Proofs.YtemingmeidmjkaaDoorW.PrintWords
set_option linter.unusedVariables false
set_option linter.unusedSimpArgs false
theorem trimLo_in {st after : Sp} (h : stB st) (w : Int) : ∀ (n : Nat) (s : Sp), s.hi - s.lo + 1 ≤ n → (inS (trimLo st after n s) w ↔ inS s w ∧ after.lo ≤ hiS st w)
 | 0, s, hn => by
  unfold trimLo inS
  omega
 | n + 1, s, hn => by
  unfold trimLo
  by_cases h1 : s.lo > s.hi
  ·rw [if_pos h1]
   unfold inS
   omega
  ·rw [if_neg h1]
   by_cases h2 : hiS st s.lo < after.lo
   ·rw [if_pos h2, trimLo_in h w n _ (by simp only; omega)]
    unfold inS
    simp only
    constructor
    ·rintro ⟨h3, h4⟩; exact ⟨by omega, h4⟩
    ·rintro ⟨h3, h4⟩
     refine ⟨⟨?_, h3.2⟩, h4⟩
     by_cases e : w = s.lo
     ·rw [e] at h4; omega
     ·omega
   ·rw [if_neg h2]
    constructor
    ·intro h3
     have := hiS_mono h (w := s.lo) (w' := w) h3.1; exact ⟨h3, by omega⟩
    ·exact fun h3 => h3.1
theorem trimHi_in {st after : Sp} (h : stB st) (w : Int) : ∀ (n : Nat) (s : Sp), s.hi - s.lo + 1 ≤ n → (inS (trimHi st after n s) w ↔ inS s w ∧ loS st w ≤ after.hi)
 | 0, s, hn => by
  unfold trimHi inS
  omega
 | n + 1, s, hn => by
  unfold trimHi
  by_cases h1 : s.lo > s.hi
  ·rw [if_pos h1]
   unfold inS
   omega
  ·rw [if_neg h1]
   by_cases h2 : loS st s.hi > after.hi
   ·rw [if_pos h2, trimHi_in h w n _ (by simp only; omega)]
    unfold inS
    simp only
    constructor
    ·rintro ⟨h3, h4⟩; exact ⟨by omega, h4⟩
    ·rintro ⟨h3, h4⟩
     refine ⟨⟨h3.1, ?_⟩, h4⟩
     by_cases e : w = s.hi
     ·rw [e] at h4; omega
     ·omega
   ·rw [if_neg h2]
    constructor
    ·intro h3
     have := loS_mono h (w := w) (w' := s.hi) h3.2; exact ⟨h3, by omega⟩
    ·exact fun h3 => h3.1
theorem ok_len {s : Sp} (h : okS s) : s.hi - s.lo + 1 ≤ ((402 : Nat) : Int) := by
 unfold okS at h
 omega
theorem back_in {st s after : Sp} (h : stB st) (hs : okS s) (w : Int) : inS (backS st s after) w ↔ inS s w ∧ ∃ v, inS after v ∧ loS st w ≤ v ∧ v ≤ hiS st w := by
 unfold backS
 by_cases ha : after.lo > after.hi
 ·rw [if_pos ha]
  constructor
  ·intro h1; unfold inS at h1; omega
  ·rintro ⟨_, v, h1, _⟩; unfold inS at h1; omega
 ·rw [if_neg ha, trimHi_in h w 402 _ (ok_len (trimLo_ok _ _ _ _ hs)), trimLo_in h w 402 _ (ok_len hs)]
  constructor
  ·rintro ⟨⟨h1, h2⟩, h3⟩
   have h0 : 0 ≤ w := by unfold okS inS at *; omega
   exact ⟨h1, (meets st after w h h0).2 ⟨by omega, h2, h3⟩⟩
  ·rintro ⟨h1, h2⟩
   have h0 : 0 ≤ w := by unfold okS inS at *; omega
   obtain ⟨_, h3, h4⟩ := (meets st after w h h0).1 h2; exact ⟨⟨h1, h3⟩, h4⟩
theorem on_in {st s : Sp} (h : stB st) (hs : okS s) (v : Int) : inS (onS st s) v ↔ ∃ w, inS s w ∧ loS st w ≤ v ∧ v ≤ hiS st w := by
 by_cases hn : s.lo > s.hi
 ·constructor
  ·intro h1
   unfold onS at h1
   rw [if_pos hn] at h1
   unfold inS at h1
   omega
  ·rintro ⟨w, h1, _⟩
   unfold inS at h1
   omega
 ·exact onS_mem h s (by unfold okS at hs; omega) v
theorem goL_rd : ∀ (ts l : List Sp), l.length = ts.length + 1 → (∀ i : Nat, i < ts.length → rdS (goL ts l) (i : Int) = backS (rdS ts (i : Int)) (rdS l (i : Int)) (rdS (goL ts l) ((i + 1 : Nat) : Int))) ∧ rdS (goL ts l) (ts.length : Int) = rdS l (ts.length : Int)
 | [], l, h => ⟨fun i hi => by simp at hi, by cases l <;> rfl⟩
 | t :: ts, [], h => by simp at h
 | t :: ts, s :: l, h => by
  have hl : l.length = ts.length + 1 := by simpa using h
  obtain ⟨h1, h2⟩ := goL_rd ts l hl
  have sh : ∀ (x : Sp) (m : List Sp) (j : Nat), rdS (x :: m) ((j + 1 : Nat) : Int) = rdS m (j : Int) := fun x m j => by
   unfold rdS
   rw [Int.toNat_natCast, Int.toNat_natCast, List.getD_cons_succ]
  refine ⟨fun i hi => ?_, ?_⟩
  ·match i with
   | 0 =>
    rw [goL, sh]
    have e : (goL ts l).headD z_Sp = rdS (goL ts l) ((0 : Nat) : Int) := by
     cases goL ts l <;> rfl
    rw [e]; rfl
   | i + 1 =>
    rw [goL, sh, sh, sh, sh]; exact h1 i (by simpa using hi)
  ·rw [goL, List.length_cons, sh, sh]
   exact h2
section
variable {st : List Sp} {wg : List Wg}
theorem stp_hon {p w v : Nat} : stpB st (-1) p w v = true ↔ loS (rdS st p) w ≤ v ∧ (v : Int) ≤ hiS (rdS st p) w := by
 unfold stpB
 rw [if_neg (by omega), inB_one]
theorem fw_come (hok : RdOk st wg) : ∀ (p : Nat), p ≤ st.length → ∀ w : Nat, w ≤ 400 → (fwB st wg (-1) p w = true ↔ inS (comeAt st wg p) (w : Int))
 | 0, _, w, hw => fit_seen wg 0 (w : Int) (by omega)
 | p + 1, hp, v, hv => by
  have ih := fw_come hok p (by omega); have ho := comeAt_ok hok p (by omega); have hst := hok.at (p : Int) (by omega) (by omega); rw [comeAt, inS_and, on_in hst ho, fwB, Bool.and_eq_true, fit_seen wg _ (v : Int) (by omega), List.any_eq_true]
  constructor
  ·rintro ⟨h1, w, hw, h2⟩
   have hw4 := List.mem_range.1 hw; simp only [Bool.and_eq_true, decide_eq_true_eq] at h2; exact ⟨⟨(w : Int), (ih w (by omega)).1 h2.1.2, stp_hon.1 h2.2⟩, h1⟩
  ·rintro ⟨⟨w, h1, h2, h3⟩, h4⟩
   have hb : 0 ≤ w ∧ w ≤ 400 := by unfold okS inS at *; omega
   have h5 := hiS_le hst (w := w) hb.1; obtain ⟨m, rfl⟩ : ∃ m : Nat, w = (m : Int) := ⟨w.toNat, by omega⟩; refine ⟨h4, m, List.mem_range.2 (by omega), ?_⟩; simp only [Bool.and_eq_true, decide_eq_true_eq]; exact ⟨⟨by omega, (ih m (by omega)).2 h1⟩, stp_hon.2 ⟨h2, h3⟩⟩
theorem comeL_rd' (st : List Sp) (wg : List Wg) (j : Nat) (h : j ≤ st.length) : rdS (comeL st wg) (j : Int) = comeAt st wg j := by
 rw [rdS_nat _ _ (by rw [comeL_len]; omega)]
 simp [comeL]
theorem honL_okS (hok : RdOk st wg) (p : Nat) (hp : p ≤ st.length) : okS (rdS (honL st wg) (p : Int)) := by
 rw [rdS_nat _ _ (by rw [honL_len]; omega)]; exact goL_ok st (comeL st wg) (comeL_ok hok) _ (List.getElem_mem _)
theorem fu_hon (hok : RdOk st wg) : ∀ (d p : Nat), p + d = st.length → ∀ w : Nat, w ≤ 400 → (fuB st wg (-1) d p w = true ↔ inS (rdS (honL st wg) (p : Int)) (w : Int))
 | 0, p, hp, w, hw => by
  obtain rfl : p = st.length := by omega
  have h := (goL_rd st (comeL st wg) (comeL_len st wg)).2; rw [honL, h, comeL_rd' st wg _ (Nat.le_refl _)]; exact fw_come hok _ (Nat.le_refl _) w hw
 | d + 1, p, hp, w, hw => by
  have ih := fu_hon hok d (p + 1) (by omega); have h := (goL_rd st (comeL st wg) (comeL_len st wg)).1 p (by omega); have hst := hok.at (p : Int) (by omega) (by omega); have ho := comeAt_ok hok p (by omega); have ho2 := honL_okS hok (p + 1) (by omega); rw [honL, h, comeL_rd' st wg p (by omega), back_in hst ho, fuB, Bool.and_eq_true, fw_come hok p (by omega) w hw, List.any_eq_true]
  constructor
  ·rintro ⟨h1, v, hv, h2⟩
   have hv4 := List.mem_range.1 hv; simp only [Bool.and_eq_true] at h2; exact ⟨h1, (v : Int), (ih v (by omega)).1 h2.1, stp_hon.1 h2.2⟩
  ·rintro ⟨h1, v, h2, h3, h4⟩
   have h5 := hiS_le hst (w := (w : Int)) (by omega)
   have hv0 : 0 ≤ v := by
    have : inS (rdS (honL st wg) ((p + 1 : Nat) : Int)) v := h2
    unfold okS inS at *
    omega
   obtain ⟨m, rfl⟩ : ∃ m : Nat, v = (m : Int) := ⟨v.toNat, by omega⟩; refine ⟨h1, m, List.mem_range.2 (by omega), ?_⟩; rw [Bool.and_eq_true]; exact ⟨(ih m (by omega)).2 h2, stp_hon.2 ⟨h3, h4⟩⟩
theorem hon_is (hok : RdOk st wg) : honB st wg = true ↔ ∃ w : Nat, w ≤ 400 ∧ fuB st wg (-1) st.length 0 w = true := by
 have hn : honB st wg = true ↔ ∀ p : Nat, p ≤ st.length → ¬ (rdS (honL st wg) (p : Int)).lo > (rdS (honL st wg) (p : Int)).hi := by
  unfold honB
  rw [Bool.not_eq_true', List.any_eq_false]
  constructor
  ·intro h p hp
   have h1 := h (rdS (honL st wg) (p : Int)) (by rw [rdS_nat _ _ (by rw [honL_len]; omega)]; exact List.getElem_mem _)
   simpa [noneB] using h1
  ·intro h s hs
   obtain ⟨i, hi, rfl⟩ := List.getElem_of_mem hs; have h1 := h i (by rw [honL_len] at hi; omega); rw [rdS_nat _ _ hi] at h1
   simpa [noneB] using h1
 rw [hn]
 constructor
 ·intro h
  have h0 := h 0 (by omega); have ho := honL_okS hok 0 (by omega)
  generalize hs : rdS (honL st wg) ((0 : Nat) : Int) = s at *
  have hb : 0 ≤ s.lo ∧ s.lo ≤ s.hi ∧ s.hi ≤ 400 := by unfold okS at ho; omega
  refine ⟨s.lo.toNat, by omega, (fu_hon hok st.length 0 (by omega) _ (by omega)).2 ?_⟩; rw [hs]
  unfold inS
  omega
 ·rintro ⟨w, hw, h⟩
  have key : ∀ (d p : Nat), p + d = st.length → (∃ w : Nat, w ≤ 400 ∧ fuB st wg (-1) d p w = true) → ∀ q : Nat, p ≤ q → q ≤ st.length → ¬ (rdS (honL st wg) (q : Int)).lo > (rdS (honL st wg) (q : Int)).hi := by
   intro d
   induction d with
   | zero =>
    rintro p hp ⟨w, hw, h⟩ q h1 h2
    obtain rfl : q = p := by omega
    have := (fu_hon hok 0 q (by omega) w hw).1 h
    unfold inS at this
    omega
   | succ d ih =>
    rintro p hp ⟨w, hw, h⟩ q h1 h2
    by_cases e : q = p
    ·subst e
     have := (fu_hon hok (d + 1) q (by omega) w hw).1 h
     unfold inS at this
     omega
    ·rw [fuB, Bool.and_eq_true, List.any_eq_true] at h
     obtain ⟨_, v, hv, h3⟩ := h; have hv4 := List.mem_range.1 hv; rw [Bool.and_eq_true] at h3; exact ih (p + 1) (by omega) ⟨v, by omega, h3.1⟩ q (by omega) h2
  exact fun p hp => key st.length 0 (by omega) ⟨w, hw, h⟩ p (by omega) hp
end
end Go.Proofs.YtemingmeidmjkaaDoor.Q
namespace Go.Proofs.YtemingmeidmjkaaDoor.Q
open Go.RowKit Go.Proofs.YtemingmeidmjkaaDoorW.PrintWords
set_option linter.unusedVariables false
set_option linter.unusedSimpArgs false
structure Pth (st : List Sp) (wg : List Wg) (th : Int) (A : Nat → Nat) : Prop where
 le : ∀ p, p ≤ st.length → A p ≤ 400
 fit : ∀ p : Nat, p ≤ st.length → fitB wg (p : Int) (A p : Int) = true
 dn : ∀ p, p < st.length → A (p + 1) ≤ A p
 stp : ∀ p, p < st.length → stpB st th p (A p) (A (p + 1)) = true
section
variable {st : List Sp} {wg : List Wg} {th : Int} {A : Nat → Nat}
theorem Pth.fw (h : Pth st wg th A) : ∀ p, p ≤ st.length → fwB st wg th p (A p) = true
 | 0, _ => h.fit 0 (Nat.zero_le _)
 | p + 1, hp => by
  rw [fwB, Bool.and_eq_true, List.any_eq_true]; refine ⟨h.fit (p + 1) hp, A p, List.mem_range.2 (by have := h.le p (by omega); omega), ?_⟩; simp only [Bool.and_eq_true, decide_eq_true_eq]; exact ⟨⟨h.dn p (by omega), h.fw p (by omega)⟩, h.stp p (by omega)⟩
theorem Pth.fu (h : Pth st wg th A) : ∀ d p, p + d = st.length → fuB st wg th d p (A p) = true
 | 0, p, hd => by rw [fuB]; exact h.fw p (by omega)
 | d + 1, p, hd => by
  rw [fuB, Bool.and_eq_true, List.any_eq_true]; refine ⟨h.fw p (by omega), A (p + 1), List.mem_range.2 (by have := h.dn p (by omega); omega), ?_⟩; rw [Bool.and_eq_true]; exact ⟨h.fu d (p + 1) (by omega), h.stp p (by omega)⟩
theorem LvP.path {g : Int} {B T : List Int} (h : LvP st th st.length g B T) (hst : ∀ s ∈ st, stB s) (hw : ∀ x ∈ wg, wHit B x) (th' : Int) (hth : (g = 0 ∧ th' = -1) ∨ (1 ≤ g ∧ th' = th ∧ 0 ≤ th)) : Pth st wg th' (fun p => (rd B (p : Int)).toNat) := by
 have key : ∀ p : Nat, p < st.length → (rd B ((p + 1 : Nat) : Int) = rd B (p : Int) - rd T (p : Int) - (if (p : Int) = th then g else 0)) ∧ loS (rdS st (p : Int)) (rd B (p : Int)) ≤ rd B (p : Int) - rd T (p : Int) ∧ rd B (p : Int) - rd T (p : Int) ≤ hiS (rdS st (p : Int)) (rd B (p : Int)) ∧ hiS (rdS st (p : Int)) (rd B (p : Int)) ≤ rd B (p : Int) ∧ 0 ≤ rd B (p : Int) ∧ 0 ≤ rd B ((p + 1 : Nat) : Int) := by
  intro p hp
  have hv : stB (rdS st (p : Int)) := by
   rw [rdS_nat _ _ hp]; exact hst _ (List.getElem_mem _)
  have h1 := h.bd p (by omega); have h2 := h.bd (p + 1) (by omega); obtain ⟨h3, h4, h5⟩ := h.step p hp; exact ⟨h5, h3, h4, hiS_le hv h1.1, h1.1, h2.1⟩
 have hgn := h.gn; refine ⟨fun p hp => ?_, fun p hp => ?_, fun p hp => ?_, fun p hp => ?_⟩
 ·have := h.bd p hp
  try simp only
  omega
 ·have hb := h.bd p hp
  rw [fitB_iff]; intro x hx hxp; have h2 := hw x hx
  unfold wHit at h2
  rw [hxp] at h2
  try simp only
  omega
 ·obtain ⟨h1, h2, h3, h4, h5, h6⟩ := key p hp
  try simp only
  by_cases e : (p : Int) = th
  ·rw [if_pos e] at h1; omega
  ·rw [if_neg e] at h1; omega
 ·obtain ⟨h1, h2, h3, h4, h5, h6⟩ := key p hp
  have e1 : (((rd B (p : Int)).toNat : Nat) : Int) = rd B (p : Int) := by omega
  have e2 : (((rd B ((p + 1 : Nat) : Int)).toNat : Nat) : Int) = rd B ((p + 1 : Nat) : Int) := by omega
  unfold stpB
  rcases hth with ⟨hg, ht⟩ | ⟨hg, ht, h0⟩
  ·rw [if_neg (by omega), inB_one, e1, e2]
   rw [hg] at h1; simp only [ite_self] at h1; omega
  ·rw [ht]
   by_cases e : (p : Int) = th
   ·rw [if_pos e] at h1
    rw [if_pos e, decide_eq_true_eq, e1, e2]; omega
   ·rw [if_neg e] at h1
    rw [if_neg e, inB_one, e1, e2]; omega
theorem fo_in {f : Nat → Option Sp} {j : Nat} {a : Sp} (ha : f j = some a) : ∀ {n : Nat}, j < n → ∃ s, fo f n = some s ∧ s.lo ≤ a.lo ∧ a.hi ≤ s.hi
 | 0, h => by omega
 | n + 1, h => by
  rw [fo_succ]
  by_cases e : j = n
  ·subst e
   rw [ha]
   cases fo f j with
   | none => exact ⟨a, rfl, Int.le_refl _, Int.le_refl _⟩
   | some b => exact ⟨_, rfl, by simp only; omega, by simp only; omega⟩
  ·obtain ⟨s, h1, h2, h3⟩ := fo_in ha (n := n) (by omega)
   rw [h1]
   cases f n with
   | none => exact ⟨s, rfl, h2, h3⟩
   | some b => exact ⟨_, rfl, by simp only; omega, by simp only; omega⟩
theorem bwN_succ (d p w : Nat) (hf : fitB wg (p : Int) (w : Int) = true) : bwN st wg (d + 1) p w = fo (fun v => sh (rdS st (p : Int)) (w : Int) (v : Int) (bwN st wg d (p + 1) v)) (hiS (rdS st (p : Int)) (w : Int) + 1).toNat := by
 rw [bwN, if_pos hf]
theorem ms_of {p0 : Nat} {s : Sp} (hok : RdOk st wg) (h4 : p0 ≤ 400) (h : bwN st wg st.length 0 p0 = some s) : ∃ m, msAll st wg = some m ∧ m.lo ≤ s.lo ∧ s.hi ≤ m.hi := by
 rw [← bw_eq hok]; exact fo_in h (by omega)
theorem ms_bd (hok : RdOk st wg) {m : Sp} (h : msAll st wg = some m) : 0 ≤ m.lo ∧ m.lo ≤ 400 ∧ 0 ≤ m.hi := by
 rw [← bw_eq hok] at h
 have key : ∀ j, j < 401 → ∀ s, bwN st wg st.length 0 j = some s → bdS 0 (400 * (st.length : Int)) s ∧ s.lo ≤ 400 := by
  intro j hj s hs; have := bwN_ok hok st.length 0 j (by omega) (by omega) s hs; exact ⟨this.1, by omega⟩
 have h1 := fo_bd (fun j hj s hs => (key j hj s hs).1) m h; have h2 := fo_lo (fun j hj s hs => (key j hj s hs).2) m h
 unfold bdS at h1
 omega
theorem Pth.hon (hok : RdOk st wg) (h : Pth st wg (-1) A) : honB st wg = true := (hon_is hok).2 ⟨A 0, h.le 0 (Nat.zero_le _), h.fu st.length 0 (by omega)⟩
theorem hon_ms (hok : RdOk st wg) (h : honB st wg = true) : ∃ m, msAll st wg = some m ∧ m.lo = 0 := by
 have key : ∀ (d p w : Nat), p + d = st.length → w ≤ 400 → fuB st wg (-1) d p w = true → ∃ s, bwN st wg d p w = some s ∧ s.lo = 0 := by
  intro d
  induction d with
  | zero =>
   intro p w hd hw hf; rw [fuB] at hf
   have hfit : fitB wg (p : Int) (w : Int) = true := by
    cases p with
    | zero => exact hf
    | succ p => rw [fwB, Bool.and_eq_true] at hf; exact hf.1
   exact ⟨⟨0, 0⟩, by rw [bwN, if_pos hfit], rfl⟩
  | succ d ih =>
   intro p w hd hw hf; have hv := hok.at (p : Int) (by omega) (by omega); rw [fuB, Bool.and_eq_true, List.any_eq_true] at hf; obtain ⟨hf, v, hv2, h2⟩ := hf; rw [Bool.and_eq_true] at h2; have hvw := List.mem_range.1 hv2; obtain ⟨b, hb, hb0⟩ := ih (p + 1) v (by omega) (by omega) h2.1; have hs := stp_hon.1 h2.2
   have hfit : fitB wg (p : Int) (w : Int) = true := by
    cases p with
    | zero => exact hf
    | succ p => rw [fwB, Bool.and_eq_true] at hf; exact hf.1
   obtain ⟨s, e1, e2, e3⟩ := fo_in (f := fun v => sh (rdS st (p : Int)) (w : Int) (v : Int) (bwN st wg d (p + 1) v)) (j := v) (a := ⟨b.lo + max 0 (loS (rdS st (p : Int)) (w : Int) - (v : Int)), b.hi + (hiS (rdS st (p : Int)) (w : Int) - (v : Int))⟩) (by simp only [hb, sh]) (n := (hiS (rdS st (p : Int)) (w : Int) + 1).toNat) (by omega)
   have e0 : bwN st wg (d + 1) p w = some s := by rw [bwN_succ d p _ hfit]; exact e1
   have hbd := (bwN_ok hok (d + 1) p w hd hw s e0).1
   unfold bdS at hbd
   simp only at e2; exact ⟨s, e0, by omega⟩
 obtain ⟨w, hw, hf⟩ := (hon_is hok).1 h; obtain ⟨s, e1, e2⟩ := key st.length 0 w (by omega) hw hf; obtain ⟨m, m1, m2, m3⟩ := ms_of hok hw e1; have := ms_bd hok m1; exact ⟨m, m1, by omega⟩
theorem fu_fw' : ∀ (d p w : Nat), fuB st wg th d p w = true → fwB st wg th p w = true
 | 0, p, w, h => by rw [fuB] at h; exact h
 | d + 1, p, w, h => by rw [fuB, Bool.and_eq_true] at h; exact h.1
theorem hon_in (hok : RdOk st wg) (h : Pth st wg (-1) A) (p : Nat) (hp : p ≤ st.length) : inS (rdS (honL st wg) (p : Int)) (A p : Int) :=
 (fu_hon hok (st.length - p) p (by omega) (A p) (h.le p hp)).1 (h.fu _ p (by omega))
theorem hon_full (hok : RdOk st wg) (h : Pth st wg (-1) A) (p : Nat) (hp : p ≤ st.length) : 0 ≤ (rdS (honL st wg) (p : Int)).lo ∧ (rdS (honL st wg) (p : Int)).lo ≤ (rdS (honL st wg) (p : Int)).hi ∧ (rdS (honL st wg) (p : Int)).hi ≤ 400 := by
 have h1 := hon_in hok h p hp; have h2 := honL_okS hok p hp
 unfold inS at h1
 unfold okS at h2
 omega
theorem hon_down (hok : RdOk st wg) (h : Pth st wg (-1) A) (p : Nat) (hp : p < st.length) : (rdS (honL st wg) ((p + 1 : Nat) : Int)).lo ≤ (rdS (honL st wg) (p : Int)).lo ∧ (rdS (honL st wg) ((p + 1 : Nat) : Int)).hi ≤ (rdS (honL st wg) (p : Int)).hi := by
 have f0 := hon_full hok h p (by omega); have f1 := hon_full hok h (p + 1) (by omega); have i0 := fu_hon hok (st.length - p) p (by omega); have i1 := fu_hon hok (st.length - (p + 1)) (p + 1) (by omega); rw [show st.length - p = (st.length - (p + 1)) + 1 by omega] at i0
 constructor
 ·obtain ⟨a, ha⟩ : ∃ a : Nat, (rdS (honL st wg) (p : Int)).lo = (a : Int) := ⟨_, (Int.toNat_of_nonneg f0.1).symm⟩
  have h1 := (i0 a (by omega)).2 (by unfold inS; omega); rw [fuB, Bool.and_eq_true, List.any_eq_true] at h1; obtain ⟨_, v, hv, h2⟩ := h1; have := List.mem_range.1 hv; rw [Bool.and_eq_true] at h2; have h3 := (i1 v (by omega)).1 h2.1
  unfold inS at h3
  omega
 ·obtain ⟨b, hb⟩ : ∃ b : Nat, (rdS (honL st wg) ((p + 1 : Nat) : Int)).hi = (b : Int) := ⟨_, (Int.toNat_of_nonneg (by omega)).symm⟩
  have h1 := (i1 b (by omega)).2 (by unfold inS; omega); have hfw := fu_fw' _ _ _ h1; rw [fwB, Bool.and_eq_true, List.any_eq_true] at hfw; obtain ⟨_, w, hw, h2⟩ := hfw; have := List.mem_range.1 hw; simp only [Bool.and_eq_true, decide_eq_true_eq] at h2
  have h3 : fuB st wg (-1) ((st.length - (p + 1)) + 1) p w = true := by
   rw [fuB, Bool.and_eq_true, List.any_eq_true]; refine ⟨h2.1.2, b, List.mem_range.2 (by omega), ?_⟩; rw [Bool.and_eq_true]; exact ⟨h1, h2.2⟩
  have h4 := (i0 w (by omega)).1 h3
  unfold inS at h4
  omega
end
end Go.Proofs.YtemingmeidmjkaaDoor.Q
namespace Go.Proofs.YtemingmeidmjkaaDoor.Q
open Go.RowKit Go.Proofs.YtemingmeidmjkaaDoorW.PrintWords
set_option linter.unusedVariables false
set_option linter.unusedSimpArgs false
theorem in_f' {a l h : Int} (h1 : l ≤ a ∧ a ≤ h) : lw_in.f a l h = some true := by
 unfold lw_in.f
 rw [if_pos (by omega), decide_eq_true h1.2]
theorem flkN_in (t s s2 : Sp) (j : Nat) (v : Int) (h1 : loS t (s.lo + (j : Int)) ≤ v ∧ v ≤ hiS t (s.lo + (j : Int))) (h2 : inS s2 v) : ∀ n, j < n → (flkN t s s2 n).lo ≤ s.lo + (j : Int) - v ∧ s.lo + (j : Int) - v ≤ (flkN t s s2 n).hi
 | 0, h => by omega
 | n + 1, h => by
  rw [flkN_succ]
  unfold flkStep andS
  simp only
  unfold inS at h2
  by_cases e : j = n
  ·subst e
   omega
  ·have := flkN_in t s s2 j v h1 h2 n (by omega)
   omega
structure CtOk (st : List S41) (ws : List S80) : Prop where
 sts : ∀ s ∈ toSt st, stB s
 n1 : 1 ≤ st.length
 n4 : st.length ≤ 4
 w6 : ws.length ≤ 6
 wgs : ∀ x ∈ toWg ws, wOk st.length x
theorem CtOk.rd {st : List S41} {ws : List S80} (h : CtOk st ws) : RdOk (toSt st) (toWg ws) :=
 ⟨h.sts, fun x hx => by have := h.wgs x hx; unfold wOk at this; exact ⟨this.2.1, by omega⟩, by have := h.n4; rw [toSt_len]; omega⟩
theorem CtOk.e {st : List S41} {ws : List S80} (h : CtOk st ws) : roadE (toSt st) (toWg ws) = 0 := by
 have h1 := h.n1; have h2 := h.n4; have h3 := h.w6
 refine roadE_ok (by rw [toSt_len]; omega) (by rw [toSt_len]; omega) h.sts (by rw [toWg_len]; omega) fun x hx => ?_
 have := h.wgs x hx
 unfold wOk at this
 rw [toSt_len]; omega
theorem flocks_rd (st : List Sp) (wg : List Wg) (he : ohE st wg = 0) (i : Nat) (hi : i < st.length) : rdS (flocksL st wg) (i : Int) = flk (rdS st i) (rdS (honL st wg) i) (rdS (honL st wg) ((i + 1 : Nat) : Int)) := by
 unfold flocksL
 rw [if_pos he, rdS_nat _ _ (by simp [hi])]
 simp
theorem Tr_l0 (A T : List Int) (L F : List S41) (n : Nat) (hn : n ≤ 1000) (hA : A.length = n + 1) (hT : T.length = n) (hL : L.length = n + 1) (hF : F.length = n)
  (h1 : ∀ p : Nat, p ≤ n → (rd_T41 L (p : Int)).f0 ≤ rd A (p : Int) ∧ rd A (p : Int) ≤ (rd_T41 L (p : Int)).f1 ∧ 0 ≤ (rd_T41 L (p : Int)).f0 ∧ (rd_T41 L (p : Int)).f1 ≤ 400)
  (h2 : ∀ p : Nat, p < n → (rd_T41 L ((p + 1 : Nat) : Int)).f0 ≤ (rd_T41 L (p : Int)).f0 ∧ (rd_T41 L ((p + 1 : Nat) : Int)).f1 ≤ (rd_T41 L (p : Int)).f1)
  (h3 : ∀ p : Nat, p < n → (rd_T41 F (p : Int)).f0 ≤ rd T (p : Int) ∧ rd T (p : Int) ≤ (rd_T41 F (p : Int)).f1) : ∀ (d i : Nat), i + d = n + 1 → Ev (fun k => lw_WoolTruth.l0 k A T L F (i : Int)) true
 | 0, i, hd => by
  refine Ev.up ?_; simp only [lw_WoolTruth.l0, if_neg (show ¬ (i : Int) < (A.length : Int) by omega), lw_known.f, Option.bind_some]; exact Ev.now _
 | d + 1, i, hd => by
  have ih := Tr_l0 A T L F n hn hA hT hL hF h1 h2 h3 d (i + 1) (by omega); obtain ⟨a1, a2, a3, a4⟩ := h1 i (by omega)
  have hj : Ev (fun k => lw_WoolTruth.j2 k A T L F (i : Int) false) true := by
   refine Ev.up ?_; simp only [lw_WoolTruth.j2, Bool.false_eq_true, if_false]
   by_cases c : (i : Int) < (T.length : Int)
   ·obtain ⟨b1, b2⟩ := h3 i (by omega)
    simp only [if_pos c, if_pos (show (0 : Int) ≤ (i : Int) by omega), if_pos (show (i : Int) < (F.length : Int) by omega), in_f' ⟨b1, b2⟩, Option.bind_some, if_true, wi i (by omega)]; exact ih
   ·simp only [if_neg c, wi i (by omega)]
    exact ih
  refine Ev.up ?_; simp only [lw_WoolTruth.l0, if_pos (show (i : Int) < (A.length : Int) by omega), if_pos (show (0 : Int) ≤ (i : Int) by omega), if_pos (show (i : Int) < (L.length : Int) by omega), in_f' ⟨a1, a2⟩, Option.bind_some, if_true, if_neg (show ¬ (rd_T41 L (i : Int)).f0 < 0 by omega), if_neg (show ¬ (rd_T41 L (i : Int)).f1 > 400 by omega)]
  by_cases c : (i : Int) > 0
  ·obtain ⟨j, rfl⟩ : ∃ j, i = j + 1 := ⟨i - 1, by omega⟩
   obtain ⟨c1, c2⟩ := h2 j (by omega)
   have ew : wrap64 (((j + 1 : Nat) : Int) - 1) = (j : Int) := by rw [wr (by omega)]; omega
   simp only [if_pos c, ew, if_pos (show (0 : Int) ≤ (j : Int) by omega), if_pos (show (j : Int) < (L.length : Int) by omega), if_neg (show ¬ (rd_T41 L ((j + 1 : Nat) : Int)).f0 > (rd_T41 L (j : Int)).f0 by omega), decide_eq_false (show ¬ (rd_T41 L ((j + 1 : Nat) : Int)).f1 > (rd_T41 L (j : Int)).f1 by omega)]; exact hj
  ·simp only [if_neg c]
   exact hj
theorem WoolTruth_ev (l0 : List S76) (a : Int) (l2 : List Int) (l3 : List S136) (h0 : ∀ x ∈ l0, ub x.f0 ∧ ub x.f1) (ha : 0 ≤ a ∧ a ≤ 65535) (h2 : ∀ x ∈ l2, ub x) (h3 : ∀ x ∈ l3, ub x.f0 ∧ ub x.f1 ∧ ub x.f2) : Ev (fun k => lw_WoolTruth.f k l0 a l2 l3) true := by
 obtain ⟨st, hr, hn1, hn4, hst⟩ := road_f l0 a l2 l3 h0; obtain ⟨A, T, g, q1, q2, q3⟩ := lived_f l0 a l2 l3 st [] (-1) 0 ha hst h2 (by omega) (by omega); have hla := q2.la; have hlt := q2.lt; obtain ⟨ws, u1, u2, u3⟩ := weighed_f l0 a l2 l3 st st.length A [] h3 (by omega) hla (by omega) q2.bd (fun x h => by cases h); have hc : CtOk st ws := ⟨hst, hn1, hn4, u2, fun x hx => (u3 x hx).1⟩; have hok := hc.rd; have hg : g = 0 := q2.g0 (by omega); have hE := hc.e
 have hp : Pth (toSt st) (toWg ws) (-1) (fun p => (rd A (p : Int)).toNat) := by
  have q2' : LvP (toSt st) (-1) (toSt st).length g A T := by rw [toSt_len]; exact q2
  exact q2'.path hst (fun x hx => (u3 x hx).2 rfl) (-1) (.inl ⟨hg, rfl⟩)
 have hh := hp.hon hok
 have e1 : ohE (toSt st) (toWg ws) = 0 := by rw [ohE, if_pos hE, hh]; rfl
 have e2 : owE (toSt st) (toWg ws) = 6 := by rw [owE, if_pos hE, hh]; rfl
 have e3 : owL (toSt st) (toWg ws) = [] := by rw [owL, e2, if_neg (by omega)]
 have e4 : wrE (toSt st) (toWg ws) = 6 := by rw [wrE, if_pos hE, hh]; rfl
 have e5 : wrR (toSt st) (toWg ws) = [] := by rw [wrR, e4, if_neg (by omega)]
 have e6 : ohL (toSt st) (toWg ws) = honL (toSt st) (toWg ws) := by rw [ohL, if_pos e1]
 obtain ⟨m, m1, m2⟩ := hon_ms hok hh; obtain ⟨m3, m4, m5⟩ := ms_bd hok m1
 have e7 : msE (toSt st) (toWg ws) = 0 := by rw [msE, if_pos hE, m1]; rfl
 have e8 : msS (toSt st) (toWg ws) = m := by
  rw [msS, if_pos e7, m1]
  show (⟨min 400 m.lo, max 0 m.hi⟩ : Sp) = m
  rw [show min 400 m.lo = m.lo by omega, show max 0 m.hi = m.hi by omega]
 have hhl := honL_len (toSt st) (toWg ws); rw [toSt_len] at hhl
 have hfl : (flocksL (toSt st) (toWg ws)).length = st.length := by rw [flocksL, if_pos e1]; simp [toSt_len]
 unfold lw_WoolTruth.f
 refine Ev.bind hr ?_; refine Ev.bind q1 ?_; refine Ev.bind u1 ?_; simp only [own_f st ws (by omega) (by omega), Option.bind_some, wool_Weights.f, wool_Flocks.f, wool_Missing.f, wool_Where.f, wool_Wrong.f, e1, e2, e3, e4, e5, e6, e7, e8, m2, if_true, List.length_nil]; simp only [ofSp_len, hhl, hfl, hla, hlt, if_true, wr (x := ((0 : Nat) : Int) + ((0 : Nat) : Int)) (by omega), if_pos (show ((0 : Nat) : Int) + ((0 : Nat) : Int) = 0 by omega), decide_eq_false (show ¬ m.hi < 0 by omega)]; refine Ev.up ?_; simp only [lw_WoolTruth.j0, Bool.false_eq_true, if_false]
 have hrd : ∀ p : Nat, p ≤ st.length → rd_T41 (ofSp (honL (toSt st) (toWg ws))) (p : Int) = ⟨(rdS (honL (toSt st) (toWg ws)) (p : Int)).lo, (rdS (honL (toSt st) (toWg ws)) (p : Int)).hi⟩ := fun p hp => rdSt _ _ (by omega) (by omega)
 have hrf : ∀ p : Nat, p < st.length → rd_T41 (ofSp (flocksL (toSt st) (toWg ws))) (p : Int) = ⟨(rdS (flocksL (toSt st) (toWg ws)) (p : Int)).lo, (rdS (flocksL (toSt st) (toWg ws)) (p : Int)).hi⟩ := fun p hp => rdSt _ _ (by omega) (by omega)
 refine Tr_l0 A T _ _ st.length (by omega) hla hlt (by rw [ofSp_len, hhl]) (by rw [ofSp_len, hfl]) (fun p hp' => ?_) (fun p hp' => ?_) (fun p hp' => ?_) (st.length + 1) 0 (by omega)
 ·have f1 := hon_in hok hp p (by rw [toSt_len]; exact hp')
  have f2 := hon_full hok hp p (by rw [toSt_len]; exact hp'); have f3 := q2.bd p hp'; rw [hrd p hp']
  unfold inS at f1
  simp only; omega
 ·have f1 := hon_down hok hp p (by rw [toSt_len]; exact hp')
  rw [hrd p (by omega), hrd (p + 1) (by omega)]; exact f1
 ·obtain ⟨f1, f2, f3⟩ := q2.step p hp'
  have f4 := hon_in hok hp p (by rw [toSt_len]; omega); have f5 := hon_in hok hp (p + 1) (by rw [toSt_len]; omega); have f6 := q2.bd p (by omega); have f7 := q2.bd (p + 1) (by omega); have f8 := hon_full hok hp p (by rw [toSt_len]; omega); rw [if_neg (by omega)] at f3
  have k1 : (((rd A (p : Int)).toNat : Nat) : Int) = rd A (p : Int) := by omega
  have k2 : (((rd A ((p + 1 : Nat) : Int)).toNat : Nat) : Int) = rd A ((p + 1 : Nat) : Int) := by omega
  rw [k1] at f4; rw [k2] at f5
  unfold inS at f4
  rw [hrf p hp', flocks_rd _ _ e1 p (by rw [toSt_len]; exact hp')]
  have key := flkN_in (rdS (toSt st) p) (rdS (honL (toSt st) (toWg ws)) p) (rdS (honL (toSt st) (toWg ws)) ((p + 1 : Nat) : Int)) (rd A (p : Int) - (rdS (honL (toSt st) (toWg ws)) p).lo).toNat (rd A ((p + 1 : Nat) : Int)) (by
   rw [show (rdS (honL (toSt st) (toWg ws)) p).lo + (((rd A (p : Int) - (rdS (honL (toSt st) (toWg ws)) p).lo).toNat : Nat) : Int) = rd A (p : Int) by omega]
   omega) f5 ((rdS (honL (toSt st) (toWg ws)) p).hi + 1 - (rdS (honL (toSt st) (toWg ws)) p).lo).toNat (by omega)
  rw [show (rdS (honL (toSt st) (toWg ws)) p).lo + (((rd A (p : Int) - (rdS (honL (toSt st) (toWg ws)) p).lo).toNat : Nat) : Int) = rd A (p : Int) by omega] at key
  unfold flk
  simp only; omega
theorem u16_wf {x : Int} (h : (Lit.int .u16 x).wf = true) : 0 ≤ x ∧ x ≤ 65535 := by
 simp only [Lit.wf, Bool.and_eq_true, decide_eq_true_eq] at h; exact h
theorem WoolTruth_pure (l0_0 : List (S76)) (a0_1 : Int) (l0_2 : List Int) (l0_3 : List (S136)) (w0 : (∀ x_ ∈ l0_0, ((Lit.int .u8 x_.f0).wf = true) ∧ ((Lit.int .u8 x_.f1).wf = true)) ∧ (((Lit.int .u16 a0_1).wf = true) ∧ ((∀ x_ ∈ l0_2, (Lit.int .u8 x_).wf = true) ∧ (∀ x_ ∈ l0_3, ((Lit.int .u8 x_.f0).wf = true) ∧ (((Lit.int .u8 x_.f1).wf = true) ∧ ((Lit.int .u8 x_.f2).wf = true)))))) : ∃ k, lw_WoolTruth.f k l0_0 a0_1 l0_2 l0_3 = some true :=
 (WoolTruth_ev l0_0 a0_1 l0_2 l0_3 (fun x h => ⟨ub_wf (w0.1 x h).1, ub_wf (w0.1 x h).2⟩) (u16_wf w0.2.1) (fun x h => ub_wf (w0.2.2.1 x h)) (fun x h => ⟨ub_wf (w0.2.2.2 x h).1, ub_wf (w0.2.2.2 x h).2.1, ub_wf (w0.2.2.2 x h).2.2⟩)).rounds
end Go.Proofs.YtemingmeidmjkaaDoor.Q
namespace Go.Proofs.YtemingmeidmjkaaDoor
open Go.RowKit Go.ChangeShapes Go.Shelf Go.Proofs.YtemingmeidmjkaaDoorW.PrintWords
set_option linter.unusedVariables false
set_option maxRecDepth 100000
theorem glNamed : Tryd.prog.globalNamed "walkmill/wool.all" = some 0 := by kernel_rfl
theorem glType : (Tryd.prog.globals[0]?).map (·.type) = some 100 := by kernel_rfl
theorem cells3 : Tryd.prog.cellsOf 3 = 1 := by kernel_rfl
theorem cellsSome : Tryd.prog.cellsOf 100 = 2 := by kernel_rfl
theorem gl_of_laid {W : World} (h : laidMetH Tryd.prog [("walkmill/wool.all", Rows.laid_walkmill_wool_all)] W) : GL W := by
 have h' : laidMet Tryd.prog [("walkmill/wool.all", Rows.laid_walkmill_wool_all)] W := h; clear h; have h := h'; obtain ⟨ps, ⟨g, t, cs, fuel, p, q, e1, e2, e3, e4, _, _⟩, _⟩ := h; obtain rfl := Option.some.inj (glNamed.symm.trans e1); obtain rfl := Option.some.inj (glType.symm.trans e2); obtain ⟨xs, n, _, hx, hl, hlen, hf⟩ := DataW.trod_struct Tryd.underlying100 e4
 have hcell := fun i => World.var?_cell glNamed e3 i
 have hl2 : cs.toList.length = 2 := by rw [hl]; exact cellsSome
 match xs, hlen with
 | [y0, y1], _ =>
  have f0 := hf 0 _ rfl; have f1 := hf 1 _ rfl; simp only [List.getElem?_cons_zero, List.getElem?_cons_succ] at f0 f1; obtain ⟨a, ha, rfl, _⟩ := DataW.trod_int Tryd.underlying3 f0; obtain ⟨b, hb, rfl, _⟩ := DataW.trod_int Tryd.underlying3 f1; simp only [List.map_cons, List.map_nil, Rows.laid_walkmill_wool_all, Prod.mk.injEq, DataW.agg.injEq, List.cons.injEq, DataW.lit.injEq, Lit.int.injEq, true_and, and_true] at hx; obtain ⟨⟨rfl, rfl⟩, _⟩ := hx
  have hcs : cs = #[.int .i64 0, .int .i64 400] := by
   apply Array.toList_inj.1
   match hc : cs.toList, hl2 with
   | [u, v], _ =>
    rw [hc] at ha hb
    simp [cells3] at ha hb
    rw [ha, hb]
  refine ⟨rfl, by decide, fun _ => ⟨_, rfl, fun j x hj => ?_⟩⟩
  match j, hj with
  | 0, hj =>
   simp only [List.getElem?_cons_zero, Option.some.injEq] at hj; subst hj; refine ⟨[.int .i64 0, .int .i64 400], rfl, kSp_mk _ ⟨0, 400⟩, fun i u hi => ?_⟩; have h9 := hcell i; rw [hcs] at h9; rw [add_plain]; simp only [Nat.zero_mul, Nat.zero_add] at *; rw [h9]
   simpa using hi
def lay0 (w : World) : World := { w with heap := w.heap.modify 0 fun o => match o with
  | .cells _ t frozen => .cells #[.int .i64 0, .int .i64 400] t frozen
  | o => o }
theorem lay0_met (os : Os) (args : Array Value) : laidMetH Tryd.prog [("walkmill/wool.all", Rows.laid_walkmill_wool_all)] ((lay0 (World.holding Tryd.prog os ⟨#[], #[], []⟩)).forCall (fun _ _ => 0) ⟨#[], args, []⟩).memory := by
 show laidMet Tryd.prog [("walkmill/wool.all", Rows.laid_walkmill_wool_all)] _
 exact laidMet_of_run' 8 sqF sqF
end Go.Proofs.YtemingmeidmjkaaDoor
