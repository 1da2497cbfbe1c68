/- Functions printed by the kit's printer over these walks, and the plain law. No condition. -/
import Derived.Test.YtemingmeidmjkaaDoorX0
import Derived.Test.YtemingmeidmjkaaDoorX2
import Derived.Test.YtemingmeidmjkaaDoorGWoolThief0
import Derived.Test.YtemingmeidmjkaaDoorGWoolThief1
import Derived.WalkKit
import Derived.ProofKit
import Derived.OpenShut
import Derived.ShutString
import Derived.ChangeOld
import Derived.Below
import Derived.SizedLaws
import Derived.ChangeArms
import Derived.WideShapes
import Derived.Carry
import Derived.Test.YtemingmeidmjkaaDoorX3
import Derived.Test.YtemingmeidmjkaaDoorX1
import Derived.Test.YtemingmeidmjkaaDoorRows
import Derived.LaidLaws
import Derived.LaidHandle
import Derived.Handed
import Derived.ChangeSame
set_option linter.unusedVariables false
set_option linter.unusedSimpArgs false
namespace Go.Proofs.YtemingmeidmjkaaDoor.Q
open Go.RowKit Go.Proofs.YtemingmeidmjkaaDoorW.PrintWords Go.Proofs.YtemingmeidmjkaaDoorW.PrintLast Go.Proofs.YtemingmeidmjkaaDoorW.PrintMore
attribute [local go_sem] max2_int min2_int max_two min_two max_three min_three max_four min_four   -- for this text's walks alone
set_option linter.unusedVariables false
set_option linter.unusedSimpArgs false
attribute [local go_sem high] eqA41
mutual
def lw_WoolThief.j0 : Nat → Int → Int → List Int → Int → Bool → List (S41) → List (S80) → Int → Int → Option (Bool)
 | 0, _, _, _, _, _, _, _, _, _ => none
 | k + 1, x6, x9, x10, x11, x110, x776000, x776001, x809000, x809001 => if x110 = true then (none) else (if x9 = 0 then (if x11 = 6 then ((lw_known.f).bind fun t820 => (some t820)) else (none)) else (if x11 = 0 then ((lw_has.f k x10 x6).bind fun t821 => (lw_WoolThief.j1 k x6 x9 x10 x11 (!t821) x776000 x776001 x809000 x809001)) else (lw_WoolThief.j1 k x6 x9 x10 x11 false x776000 x776001 x809000 x809001)))
def lw_WoolThief.j1 : Nat → Int → Int → List Int → Int → Bool → List (S41) → List (S80) → Int → Int → Option (Bool)
 | 0, _, _, _, _, _, _, _, _, _ => none
 | k + 1, x6, x9, x10, x11, x125, x776000, x776001, x809000, x809001 => if x125 = true then (none) else (lw_WoolThief.l0 k x6 x9 x10 x11 0 x776000 x776001 x809000 x809001)
def lw_WoolThief.l0 : Nat → Int → Int → List Int → Int → Int → List (S41) → List (S80) → Int → Int → Option (Bool)
 | 0, _, _, _, _, _, _, _, _, _ => none
 | k + 1, x6, x9, x10, x11, x16, x776000, x776001, x809000, x809001 => if x16 < (x776000.length : Int) then ((lw_own.f x776000 x776001).bind fun bt823 => ((wool_Amount.f bt823.1 bt823.2 x16).bind fun bt829 => (if bt829.2.2 = 0 then (if x16 = x6 then ((lw_in.f x9 bt829.1 bt829.2.1).bind fun t833 => (if t833 = true then (if x11 = 0 then ((lw_has.f k x10 x16).bind fun t834 => (lw_WoolThief.j3 k x6 x9 x10 x11 x16 bt829.2.2 (t834 != (bt829.2.2 == 0)) x776000 x776001 x809000 x809001 bt829.1 bt829.2.1)) else (lw_WoolThief.j3 k x6 x9 x10 x11 x16 bt829.2.2 false x776000 x776001 x809000 x809001 bt829.1 bt829.2.1)) else (none))) else (if x11 = 0 then ((lw_has.f k x10 x16).bind fun t835 => (lw_WoolThief.j3 k x6 x9 x10 x11 x16 bt829.2.2 (t835 != (bt829.2.2 == 0)) x776000 x776001 x809000 x809001 bt829.1 bt829.2.1)) else (lw_WoolThief.j3 k x6 x9 x10 x11 x16 bt829.2.2 false x776000 x776001 x809000 x809001 bt829.1 bt829.2.1))) else (if bt829.2.2 = 9 then (if (!(bt829.1 == 0) || (!(bt829.2.1 == 0))) = true then (none) else (if x16 = x6 then (none) else (if x11 = 0 then ((lw_has.f k x10 x16).bind fun t836 => (lw_WoolThief.j3 k x6 x9 x10 x11 x16 bt829.2.2 (t836 != (bt829.2.2 == 0)) x776000 x776001 x809000 x809001 bt829.1 bt829.2.1)) else (lw_WoolThief.j3 k x6 x9 x10 x11 x16 bt829.2.2 false x776000 x776001 x809000 x809001 bt829.1 bt829.2.1)))) else (none))))) else ((lw_known.f).bind fun t822 => (some t822))
def lw_WoolThief.j3 : Nat → Int → Int → List Int → Int → Int → Int → Bool → List (S41) → List (S80) → Int → Int → Int → Int → Option (Bool)
 | 0, _, _, _, _, _, _, _, _, _, _, _, _, _ => none
 | k + 1, x6, x9, x10, x11, x16, x18, x177, x776000, x776001, x809000, x809001, x833000, x833001 => if x177 = true then (none) else (if x18 = 0 then (if x833000 < 1 then (none) else (if x833000 > x833001 then (none) else (if x833000 < x809000 then (none) else (if x833001 > x809001 then (none) else (lw_WoolThief.l0 k x6 x9 x10 x11 (wrap64 (x16 + 1)) x776000 x776001 x809000 x809001))))) else (lw_WoolThief.l0 k x6 x9 x10 x11 (wrap64 (x16 + 1)) x776000 x776001 x809000 x809001))
end
def lw_WoolThief.f (k : Nat) (l0_0 : List (S76)) (a0_1 : Int) (l0_2 : List Int) (l0_3 : List (S136)) (a1_0 : Int) (a1_1 : Int) : Option (Bool) := (lw_Cart_road.f k l0_0 a0_1 l0_2 l0_3).bind fun bt769 => (if (bt769.1.length : Int) = 0 then (none) else ((lw_Cart_lived.f k l0_0 a0_1 l0_2 l0_3 bt769.1 bt769.2 (Int.tmod (wrap64 (a1_0)) (bt769.1.length : Int)) (wrap64 (1 + (wrap64 (a1_1))))).bind fun bt776 => ((lw_Cart_weighed.f k l0_0 a0_1 l0_2 l0_3 bt769.1 bt769.2 bt776.1 ([] : List Int)).bind fun bt783 => ((lw_own.f bt783.1 bt783.2).bind fun bt789 => ((wool_Where.f bt789.1 bt789.2).bind fun bt795 => ((lw_own.f bt783.1 bt783.2).bind fun bt799 => ((wool_Missing.f bt799.1 bt799.2).bind fun bt805 => ((lw_own.f bt783.1 bt783.2).bind fun bt809 => ((wool_Weights.f bt809.1 bt809.2).bind fun bt815 => (if bt805.2.2 = 0 then ((lw_in.f bt776.2.2 bt805.1 bt805.2.1).bind fun t819 => (if t819 = true then (if bt805.1 < 0 then (none) else (if ((bt805.1 == 0) != (bt815.2 == 0)) = true then (none) else (if bt815.2 = 0 then (if ((bt795.2 == 6) != (bt815.2 == 0)) = true then (none) else (if bt795.2 = 0 then (none) else (if bt795.2 = 6 then (lw_WoolThief.j0 k (Int.tmod (wrap64 (a1_0)) (bt769.1.length : Int)) bt776.2.2 bt795.1 bt795.2 ((bt795.1.length : Int) != 0) bt783.1 bt783.2 bt805.1 bt805.2.1) else (none)))) else (if bt815.2 = 9 then (if ((bt795.2 == 6) != (bt815.2 == 0)) = true then (none) else (if bt795.2 = 0 then (lw_WoolThief.j0 k (Int.tmod (wrap64 (a1_0)) (bt769.1.length : Int)) bt776.2.2 bt795.1 bt795.2 false bt783.1 bt783.2 bt805.1 bt805.2.1) else (none))) else (none))))) else (none))) else (none)))))))))))
set_option maxHeartbeats 8000000 in
set_option maxRecDepth 100000 in
theorem lw_WoolThief.calls (k : Nat) (A0_0 : Option Addr) (c0_0 : Nat) (l0_0 : List (S76)) (a0_1 : Int) (A0_2 : Option Addr) (c0_2 : Nat) (l0_2 : List Int) (A0_3 : Option Addr) (c0_3 : Nat) (l0_3 : List (S136)) (a1_0 : Int) (a1_1 : Int) (r : Bool) (w : World) (hG : GL w) (hr0_0 : Kd.C k76 w A0_0 l0_0.length l0_0) (hc0_0 : l0_0.length ≤ c0_0) (hr0_2 : Kd.C (Kd.int .u8) w A0_2 l0_2.length l0_2) (hc0_2 : l0_2.length ≤ c0_2) (hr0_3 : Kd.C k136 w A0_3 l0_3.length l0_3) (hc0_3 : l0_3.length ≤ c0_3) (h : lw_WoolThief.f k l0_0 a0_1 l0_2 l0_3 a1_0 a1_1 = some r) :
  Calls Tryd.prog 11 #[.agg #[.slice A0_0 l0_0.length c0_0, .int .u16 a0_1, .slice A0_2 l0_2.length c0_2, .slice A0_3 l0_3.length c0_3], .agg #[.int .u8 a1_0, .int .u8 a1_1]] w fun e w' => e = .returned (.bool r) ∧ Below w.heap.size w w' := by
 have hu69 := Tryd.underlying69; have hu76 := Tryd.underlying76; have hu25 := Tryd.underlying25; have hu41 := Tryd.underlying41; have HR0_0 := Aside0.mk hr0_0; have HC0_0 := Aside0.mk hc0_0; clear hr0_0 hc0_0; have HR0_2 := Aside0.mk hr0_2; have HC0_2 := Aside0.mk hc0_2; clear hr0_2 hc0_2; have HR0_3 := Aside0.mk hr0_3; have HC0_3 := Aside0.mk hc0_3; clear hr0_3 hc0_3; have HB := Aside0.mk (Below.refl w.heap.size w); have HGL := Aside0.mk hG; clear hG; have H : ((lw_Cart_road.f k l0_0 a0_1 l0_2 l0_3).bind fun bt769 => (if (bt769.1.length : Int) = 0 then (none) else ((lw_Cart_lived.f k l0_0 a0_1 l0_2 l0_3 bt769.1 bt769.2 (Int.tmod (wrap64 (a1_0)) (bt769.1.length : Int)) (wrap64 (1 + (wrap64 (a1_1))))).bind fun bt776 => ((lw_Cart_weighed.f k l0_0 a0_1 l0_2 l0_3 bt769.1 bt769.2 bt776.1 ([] : List Int)).bind fun bt783 => ((lw_own.f bt783.1 bt783.2).bind fun bt789 => ((wool_Where.f bt789.1 bt789.2).bind fun bt795 => ((lw_own.f bt783.1 bt783.2).bind fun bt799 => ((wool_Missing.f bt799.1 bt799.2).bind fun bt805 => ((lw_own.f bt783.1 bt783.2).bind fun bt809 => ((wool_Weights.f bt809.1 bt809.2).bind fun bt815 => (if bt805.2.2 = 0 then ((lw_in.f bt776.2.2 bt805.1 bt805.2.1).bind fun t819 => (if t819 = true then (if bt805.1 < 0 then (none) else (if ((bt805.1 == 0) != (bt815.2 == 0)) = true then (none) else (if bt815.2 = 0 then (if ((bt795.2 == 6) != (bt815.2 == 0)) = true then (none) else (if bt795.2 = 0 then (none) else (if bt795.2 = 6 then (lw_WoolThief.j0 k (Int.tmod (wrap64 (a1_0)) (bt769.1.length : Int)) bt776.2.2 bt795.1 bt795.2 ((bt795.1.length : Int) != 0) bt783.1 bt783.2 bt805.1 bt805.2.1) else (none)))) else (if bt815.2 = 9 then (if ((bt795.2 == 6) != (bt815.2 == 0)) = true then (none) else (if bt795.2 = 0 then (lw_WoolThief.j0 k (Int.tmod (wrap64 (a1_0)) (bt769.1.length : Int)) bt776.2.2 bt795.1 bt795.2 false bt783.1 bt783.2 bt805.1 bt805.2.1) else (none))) else (none))))) else (none))) else (none)))))))))))) = some r := h; clear h; obtain ⟨⟨t769, t772⟩, A30, H⟩ := Option.bind_eq_some_iff.mp H; replace H : (if (t769.length : Int) = 0 then (none) else ((lw_Cart_lived.f k l0_0 a0_1 l0_2 l0_3 t769 t772 (Int.tmod (wrap64 (a1_0)) (t769.length : Int)) (wrap64 (1 + (wrap64 (a1_1))))).bind fun bt776 => ((lw_Cart_weighed.f k l0_0 a0_1 l0_2 l0_3 t769 t772 bt776.1 ([] : List Int)).bind fun bt783 => ((lw_own.f bt783.1 bt783.2).bind fun bt789 => ((wool_Where.f bt789.1 bt789.2).bind fun bt795 => ((lw_own.f bt783.1 bt783.2).bind fun bt799 => ((wool_Missing.f bt799.1 bt799.2).bind fun bt805 => ((lw_own.f bt783.1 bt783.2).bind fun bt809 => ((wool_Weights.f bt809.1 bt809.2).bind fun bt815 => (if bt805.2.2 = 0 then ((lw_in.f bt776.2.2 bt805.1 bt805.2.1).bind fun t819 => (if t819 = true then (if bt805.1 < 0 then (none) else (if ((bt805.1 == 0) != (bt815.2 == 0)) = true then (none) else (if bt815.2 = 0 then (if ((bt795.2 == 6) != (bt815.2 == 0)) = true then (none) else (if bt795.2 = 0 then (none) else (if bt795.2 = 6 then (lw_WoolThief.j0 k (Int.tmod (wrap64 (a1_0)) (t769.length : Int)) bt776.2.2 bt795.1 bt795.2 ((bt795.1.length : Int) != 0) bt783.1 bt783.2 bt805.1 bt805.2.1) else (none)))) else (if bt815.2 = 9 then (if ((bt795.2 == 6) != (bt815.2 == 0)) = true then (none) else (if bt795.2 = 0 then (lw_WoolThief.j0 k (Int.tmod (wrap64 (a1_0)) (t769.length : Int)) bt776.2.2 bt795.1 bt795.2 false bt783.1 bt783.2 bt805.1 bt805.2.1) else (none))) else (none))))) else (none))) else (none))))))))))) = some r := H
 have A3 := Aside0.mk A30; clear A30
 by_cases c4 : (t769.length : Int) = 0
 ·rw [if_pos c4] at H
  exact absurd H (by simp)
 ·rw [if_neg c4] at H
  have c4b0 : ((t769.length : Int) == 0) = false := beq_eq_false_iff_ne.mpr c4; have c4b1 : ((t769.length : Int) != 0) = true := bne_iff_ne.mpr c4
  have c4b2 : ¬ (t769 = []) := fun h_ => c4 (by rw [h_]; rfl)
  obtain ⟨⟨t776, t779, t782⟩, A50, H⟩ := Option.bind_eq_some_iff.mp H; replace H : ((lw_Cart_weighed.f k l0_0 a0_1 l0_2 l0_3 t769 t772 t776 ([] : List Int)).bind fun bt783 => ((lw_own.f bt783.1 bt783.2).bind fun bt789 => ((wool_Where.f bt789.1 bt789.2).bind fun bt795 => ((lw_own.f bt783.1 bt783.2).bind fun bt799 => ((wool_Missing.f bt799.1 bt799.2).bind fun bt805 => ((lw_own.f bt783.1 bt783.2).bind fun bt809 => ((wool_Weights.f bt809.1 bt809.2).bind fun bt815 => (if bt805.2.2 = 0 then ((lw_in.f t782 bt805.1 bt805.2.1).bind fun t819 => (if t819 = true then (if bt805.1 < 0 then (none) else (if ((bt805.1 == 0) != (bt815.2 == 0)) = true then (none) else (if bt815.2 = 0 then (if ((bt795.2 == 6) != (bt815.2 == 0)) = true then (none) else (if bt795.2 = 0 then (none) else (if bt795.2 = 6 then (lw_WoolThief.j0 k (Int.tmod (wrap64 (a1_0)) (t769.length : Int)) t782 bt795.1 bt795.2 ((bt795.1.length : Int) != 0) bt783.1 bt783.2 bt805.1 bt805.2.1) else (none)))) else (if bt815.2 = 9 then (if ((bt795.2 == 6) != (bt815.2 == 0)) = true then (none) else (if bt795.2 = 0 then (lw_WoolThief.j0 k (Int.tmod (wrap64 (a1_0)) (t769.length : Int)) t782 bt795.1 bt795.2 false bt783.1 bt783.2 bt805.1 bt805.2.1) else (none))) else (none))))) else (none))) else (none))))))))) = some r := H; have A5 := Aside0.mk A50; clear A50; obtain ⟨⟨t783, t786⟩, A60, H⟩ := Option.bind_eq_some_iff.mp H; replace H : ((lw_own.f t783 t786).bind fun bt789 => ((wool_Where.f bt789.1 bt789.2).bind fun bt795 => ((lw_own.f t783 t786).bind fun bt799 => ((wool_Missing.f bt799.1 bt799.2).bind fun bt805 => ((lw_own.f t783 t786).bind fun bt809 => ((wool_Weights.f bt809.1 bt809.2).bind fun bt815 => (if bt805.2.2 = 0 then ((lw_in.f t782 bt805.1 bt805.2.1).bind fun t819 => (if t819 = true then (if bt805.1 < 0 then (none) else (if ((bt805.1 == 0) != (bt815.2 == 0)) = true then (none) else (if bt815.2 = 0 then (if ((bt795.2 == 6) != (bt815.2 == 0)) = true then (none) else (if bt795.2 = 0 then (none) else (if bt795.2 = 6 then (lw_WoolThief.j0 k (Int.tmod (wrap64 (a1_0)) (t769.length : Int)) t782 bt795.1 bt795.2 ((bt795.1.length : Int) != 0) t783 t786 bt805.1 bt805.2.1) else (none)))) else (if bt815.2 = 9 then (if ((bt795.2 == 6) != (bt815.2 == 0)) = true then (none) else (if bt795.2 = 0 then (lw_WoolThief.j0 k (Int.tmod (wrap64 (a1_0)) (t769.length : Int)) t782 bt795.1 bt795.2 false t783 t786 bt805.1 bt805.2.1) else (none))) else (none))))) else (none))) else (none)))))))) = some r := H; have A6 := Aside0.mk A60; clear A60; obtain ⟨⟨t789, t792⟩, A70, H⟩ := Option.bind_eq_some_iff.mp H; replace H : ((wool_Where.f t789 t792).bind fun bt795 => ((lw_own.f t783 t786).bind fun bt799 => ((wool_Missing.f bt799.1 bt799.2).bind fun bt805 => ((lw_own.f t783 t786).bind fun bt809 => ((wool_Weights.f bt809.1 bt809.2).bind fun bt815 => (if bt805.2.2 = 0 then ((lw_in.f t782 bt805.1 bt805.2.1).bind fun t819 => (if t819 = true then (if bt805.1 < 0 then (none) else (if ((bt805.1 == 0) != (bt815.2 == 0)) = true then (none) else (if bt815.2 = 0 then (if ((bt795.2 == 6) != (bt815.2 == 0)) = true then (none) else (if bt795.2 = 0 then (none) else (if bt795.2 = 6 then (lw_WoolThief.j0 k (Int.tmod (wrap64 (a1_0)) (t769.length : Int)) t782 bt795.1 bt795.2 ((bt795.1.length : Int) != 0) t783 t786 bt805.1 bt805.2.1) else (none)))) else (if bt815.2 = 9 then (if ((bt795.2 == 6) != (bt815.2 == 0)) = true then (none) else (if bt795.2 = 0 then (lw_WoolThief.j0 k (Int.tmod (wrap64 (a1_0)) (t769.length : Int)) t782 bt795.1 bt795.2 false t783 t786 bt805.1 bt805.2.1) else (none))) else (none))))) else (none))) else (none))))))) = some r := H
  have A7 := Aside0.mk A70; clear A70; obtain ⟨⟨t795, t798⟩, A80, H⟩ := Option.bind_eq_some_iff.mp H; replace H : ((lw_own.f t783 t786).bind fun bt799 => ((wool_Missing.f bt799.1 bt799.2).bind fun bt805 => ((lw_own.f t783 t786).bind fun bt809 => ((wool_Weights.f bt809.1 bt809.2).bind fun bt815 => (if bt805.2.2 = 0 then ((lw_in.f t782 bt805.1 bt805.2.1).bind fun t819 => (if t819 = true then (if bt805.1 < 0 then (none) else (if ((bt805.1 == 0) != (bt815.2 == 0)) = true then (none) else (if bt815.2 = 0 then (if ((t798 == 6) != (bt815.2 == 0)) = true then (none) else (if t798 = 0 then (none) else (if t798 = 6 then (lw_WoolThief.j0 k (Int.tmod (wrap64 (a1_0)) (t769.length : Int)) t782 t795 t798 ((t795.length : Int) != 0) t783 t786 bt805.1 bt805.2.1) else (none)))) else (if bt815.2 = 9 then (if ((t798 == 6) != (bt815.2 == 0)) = true then (none) else (if t798 = 0 then (lw_WoolThief.j0 k (Int.tmod (wrap64 (a1_0)) (t769.length : Int)) t782 t795 t798 false t783 t786 bt805.1 bt805.2.1) else (none))) else (none))))) else (none))) else (none)))))) = some r := H; have A8 := Aside0.mk A80; clear A80; obtain ⟨⟨t799, t802⟩, A90, H⟩ := Option.bind_eq_some_iff.mp H; replace H : ((wool_Missing.f t799 t802).bind fun bt805 => ((lw_own.f t783 t786).bind fun bt809 => ((wool_Weights.f bt809.1 bt809.2).bind fun bt815 => (if bt805.2.2 = 0 then ((lw_in.f t782 bt805.1 bt805.2.1).bind fun t819 => (if t819 = true then (if bt805.1 < 0 then (none) else (if ((bt805.1 == 0) != (bt815.2 == 0)) = true then (none) else (if bt815.2 = 0 then (if ((t798 == 6) != (bt815.2 == 0)) = true then (none) else (if t798 = 0 then (none) else (if t798 = 6 then (lw_WoolThief.j0 k (Int.tmod (wrap64 (a1_0)) (t769.length : Int)) t782 t795 t798 ((t795.length : Int) != 0) t783 t786 bt805.1 bt805.2.1) else (none)))) else (if bt815.2 = 9 then (if ((t798 == 6) != (bt815.2 == 0)) = true then (none) else (if t798 = 0 then (lw_WoolThief.j0 k (Int.tmod (wrap64 (a1_0)) (t769.length : Int)) t782 t795 t798 false t783 t786 bt805.1 bt805.2.1) else (none))) else (none))))) else (none))) else (none))))) = some r := H; have A9 := Aside0.mk A90; clear A90; obtain ⟨⟨t805, t806, t807⟩, A100, H⟩ := Option.bind_eq_some_iff.mp H; replace H : ((lw_own.f t783 t786).bind fun bt809 => ((wool_Weights.f bt809.1 bt809.2).bind fun bt815 => (if t807 = 0 then ((lw_in.f t782 t805 t806).bind fun t819 => (if t819 = true then (if t805 < 0 then (none) else (if ((t805 == 0) != (bt815.2 == 0)) = true then (none) else (if bt815.2 = 0 then (if ((t798 == 6) != (bt815.2 == 0)) = true then (none) else (if t798 = 0 then (none) else (if t798 = 6 then (lw_WoolThief.j0 k (Int.tmod (wrap64 (a1_0)) (t769.length : Int)) t782 t795 t798 ((t795.length : Int) != 0) t783 t786 t805 t806) else (none)))) else (if bt815.2 = 9 then (if ((t798 == 6) != (bt815.2 == 0)) = true then (none) else (if t798 = 0 then (lw_WoolThief.j0 k (Int.tmod (wrap64 (a1_0)) (t769.length : Int)) t782 t795 t798 false t783 t786 t805 t806) else (none))) else (none))))) else (none))) else (none)))) = some r := H
  have A10 := Aside0.mk A100; clear A100; obtain ⟨⟨t809, t812⟩, A110, H⟩ := Option.bind_eq_some_iff.mp H; replace H : ((wool_Weights.f t809 t812).bind fun bt815 => (if t807 = 0 then ((lw_in.f t782 t805 t806).bind fun t819 => (if t819 = true then (if t805 < 0 then (none) else (if ((t805 == 0) != (bt815.2 == 0)) = true then (none) else (if bt815.2 = 0 then (if ((t798 == 6) != (bt815.2 == 0)) = true then (none) else (if t798 = 0 then (none) else (if t798 = 6 then (lw_WoolThief.j0 k (Int.tmod (wrap64 (a1_0)) (t769.length : Int)) t782 t795 t798 ((t795.length : Int) != 0) t783 t786 t805 t806) else (none)))) else (if bt815.2 = 9 then (if ((t798 == 6) != (bt815.2 == 0)) = true then (none) else (if t798 = 0 then (lw_WoolThief.j0 k (Int.tmod (wrap64 (a1_0)) (t769.length : Int)) t782 t795 t798 false t783 t786 t805 t806) else (none))) else (none))))) else (none))) else (none))) = some r := H; have A11 := Aside0.mk A110; clear A110; obtain ⟨⟨t815, t818⟩, A120, H⟩ := Option.bind_eq_some_iff.mp H; replace H : (if t807 = 0 then ((lw_in.f t782 t805 t806).bind fun t819 => (if t819 = true then (if t805 < 0 then (none) else (if ((t805 == 0) != (t818 == 0)) = true then (none) else (if t818 = 0 then (if ((t798 == 6) != (t818 == 0)) = true then (none) else (if t798 = 0 then (none) else (if t798 = 6 then (lw_WoolThief.j0 k (Int.tmod (wrap64 (a1_0)) (t769.length : Int)) t782 t795 t798 ((t795.length : Int) != 0) t783 t786 t805 t806) else (none)))) else (if t818 = 9 then (if ((t798 == 6) != (t818 == 0)) = true then (none) else (if t798 = 0 then (lw_WoolThief.j0 k (Int.tmod (wrap64 (a1_0)) (t769.length : Int)) t782 t795 t798 false t783 t786 t805 t806) else (none))) else (none))))) else (none))) else (none)) = some r := H; have A12 := Aside0.mk A120; clear A120; have HC13 := Aside0.mk H; clear H; go_enter Tryd.func11, Tryd.ntmps11
  go_upto_region 8 with (first | ((with_reducible refine gate_dst (N := 2) rfl ?_); (try (refine gate_guard (by rfl) ?_; dsimp only)); refine box_event ?hg (N := 2) ?hd (cs := #[.slice A0_0 l0_0.length c0_0, .int .u16 a0_1, .slice A0_2 l0_2.length c0_2, .slice A0_3 l0_3.length c0_3]) (t := 69) ?hr ?_; (case hd => rfl); (case hg => rfl); (case hr => first | (go_simp; done) | (go_simp; rfl)); intro gb767 hg w14 hbox hb; have BK767 := Aside0.mk (hbox); have GW767 := Aside0.mk (sqZ hg HB); have GE767 := Aside0.mk (sqZ hg HB); replace HB := sqb hb HB; clear hb hbox hg) | ((with_reducible refine gate_dst (N := 3) rfl ?_); (try (refine gate_guard (by rfl) ?_; dsimp only)); refine box_event ?hg (N := 3) ?hd (cs := #[.int .u8 a1_0, .int .u8 a1_1]) (t := 76) ?hr ?_; (case hd => rfl); (case hg => rfl); (case hr => first | (go_simp; done) | (go_simp; rfl)); intro gb768 hg w15 hbox hb; have BK768 := Aside0.mk (hbox); have GW768 := Aside0.mk (sqZ hg HB); have GE768 := Aside0.mk (sqZ hg HB); replace HB := sqb hb HB; have NB767_768 := Aside0.mk (sqL hg BK767); have NB768_767 := Aside0.mk (sqG hg BK767); replace BK767 := sqk BK767 hb; clear hb hbox hg; have hnb16 := NB767_768.out; have hnc16 := NB768_767.out; have hcz17_0 := sqc0 BK767; have hcz17_1 := sqc1 BK767; have hcz17_2 := sqc2 BK767; have hcz17_3 : w15.cell? ⟨gb767, 3, none⟩ = some (.slice A0_3 l0_3.length c0_3) := (blk_cell BK767.out 3).trans rfl; have hfz17_0 := blk_frozen BK767.out 0; have hfz17_1 := blk_frozen BK767.out 1; have hfz17_2 := blk_frozen BK767.out 2; have hfz17_3 := blk_frozen BK767.out 3) | ((with_reducible refine gate_callee (f := 45) rfl ?_); refine goesL_ (some 20) rfl rfl Tryd.func45 sqF rfl #[.agg #[.slice A0_0 l0_0.length c0_0, .int .u16 a0_1, .slice A0_2 l0_2.length c0_2, .slice A0_3 l0_3.length c0_3]] rfl sqM ?_; (with_reducible refine (lw_Cart_road.calls k _ _ l0_0 a0_1 _ _ l0_2 _ _ l0_3 t769 t772 _ ?side1 ?side2 ?side3 ?side4 ?side5 ?side6 A3.out).mono ?_); (case side1 => exact sqQ HR0_0 HB); (case side2 => exact HC0_0.out); (case side3 => exact sqQ HR0_2 HB); (case side4 => exact HC0_2.out); (case side5 => exact sqQ HR0_3 HB); (case side6 => exact HC0_3.out); rintro e w18 ⟨v770, v773, rfl, ho0, ho1, hb⟩; refine ⟨_, rfl, ?_⟩; have HO771 := Aside0.mk (Kd.R_lower ho0 (below_size (sqB HB))); have HO774 := Aside0.mk (Kd.R_lower ho1 (below_size (sqB HB))); replace BK767 := sqk BK767 hb; replace BK768 := sqk BK768 hb; replace HB := sqb hb HB; (try clear hb); (try clear hb2); (try clear hk); (try clear hi); (try clear ho0); (try clear ho1)) | ((with_reducible refine gate_dst (N := 5) rfl ?_); (try (refine gate_guard (by rfl) ?_; dsimp only)); refine box_event ?hg (N := 5) ?hd (cs := #[.slice none 0 0, .slice none 0 0]) (t := 25) ?hr ?_; (case hd => rfl); (case hg => rfl); (case hr => first | (go_simp; done) | (go_simp; rfl)); intro gb775 hg w19 hbox hb; replace HO771 := Aside0.mk (Kd.R_below (sqR HO771) hb); replace HO774 := Aside0.mk (Kd.R_below (sqR HO774) hb); have BK775 := Aside0.mk (hbox); have GW775 := Aside0.mk (sqZ hg HB); have GE775 := Aside0.mk (sqZ hg HB); replace HB := sqb hb HB; have NB767_775 := Aside0.mk (sqL hg BK767); have NB775_767 := Aside0.mk (sqG hg BK767); replace BK767 := sqk BK767 hb; have NB768_775 := Aside0.mk (sqL hg BK768); have NB775_768 := Aside0.mk (sqG hg BK768); replace BK768 := sqk BK768 hb; clear hb hbox hg; obtain ⟨Ao20, co20, eo20⟩ := Kd.R_slice HO771.out; subst eo20; have hnb21 := NB775_767.out; have hnc21 := NB767_775.out; have hnb22 := NB775_768.out; have hnc22 := NB768_775.out; have hcz23_0 := sqc0 BK775; have hcz23_1 := sqc1 BK775; have hfz23_0 := blk_frozen BK775.out 0; have hfz23_1 := blk_frozen BK775.out 1; obtain ⟨Ao24, co24, eo24⟩ := Kd.R_slice HO774.out; subst eo24; have hcz25_0 := sqc0 BK768; have hcz25_1 := sqc1 BK768; have hfz25_0 := blk_frozen BK768.out 0; have hfz25_1 := blk_frozen BK768.out 1; have hcz26_0 := sqc0 BK767; have hcz26_1 := sqc1 BK767; have hcz26_2 := sqc2 BK767; have hcz26_3 : w19.cell? ⟨gb767, 3, none⟩ = some (.slice A0_3 l0_3.length c0_3) := (blk_cell BK767.out 3).trans rfl; have hfz26_0 := blk_frozen BK767.out 0; have hfz26_1 := blk_frozen BK767.out 1; have hfz26_2 := blk_frozen BK767.out 2; have hfz26_3 := blk_frozen BK767.out 3) | ((with_reducible refine gate_callee (f := 46) rfl ?_); refine goesL_ (some 36) rfl rfl Tryd.func46 sqF rfl #[.agg #[.slice A0_0 l0_0.length c0_0, .int .u16 a0_1, .slice A0_2 l0_2.length c0_2, .slice A0_3 l0_3.length c0_3], .agg #[.slice Ao20 t769.length co20, .slice Ao24 t772.length co24], .int .i64 (Int.tmod (wrap64 (a1_0)) (t769.length : Int)), .int .i64 (wrap64 (1 + (wrap64 (a1_1))))] rfl sqM ?_; (with_reducible refine (lw_Cart_lived.calls k _ _ l0_0 a0_1 _ _ l0_2 _ _ l0_3 _ _ t769 _ _ t772 (Int.tmod (wrap64 (a1_0)) (t769.length : Int)) (wrap64 (1 + (wrap64 (a1_1)))) t776 t779 t782 _ ?side1 ?side2 ?side3 ?side4 ?side5 ?side6 ?side7 ?side8 ?side9 ?side10 A5.out).mono ?_); (case side1 => exact Kd.C_below HR0_0.out (sqB HB)); (case side2 => exact HC0_0.out); (case side3 => exact Kd.C_below HR0_2.out (sqB HB)); (case side4 => exact HC0_2.out); (case side5 => exact Kd.C_below HR0_3.out (sqB HB)); (case side6 => exact HC0_3.out); (case side7 => refine (Kd.R_reads' (e := 41) (base := w.heap.size) (ok := fun k_ => True) (n := t769.length) (c := co20) ?_).2.2; exact (by (with_reducible repeat (first | apply Kd.R_alloc | apply Kd.R_drewN | apply Kd.R_drew)); exact (Kd.R_mono (Kd.R_far (p := ⟨gb775, 1, none⟩) (Kd.R_far (p := ⟨gb775, 0, none⟩) (Kd.R_types HO771.out BK775.out (by decide)) (fun _ hk => hk.2) (.slice Ao20 t769.length co20)) (fun _ hk => hk.2) (.slice Ao24 t772.length co24)) (fun _ h_ => h_.1)))); (case side8 => exact (Kd.R_reads' HO771.out).2.1); (case side9 => refine (Kd.R_reads' (e := 80) (base := w.heap.size) (ok := fun k_ => True) (n := t772.length) (c := co24) ?_).2.2; exact (by (with_reducible repeat (first | apply Kd.R_alloc | apply Kd.R_drewN | apply Kd.R_drew)); exact (Kd.R_mono (Kd.R_far (p := ⟨gb775, 1, none⟩) (Kd.R_far (p := ⟨gb775, 0, none⟩) (Kd.R_types HO774.out BK775.out (by decide)) (fun _ hk => hk.2) (.slice Ao20 t769.length co20)) (fun _ hk => hk.2) (.slice Ao24 t772.length co24)) (fun _ h_ => h_.1)))); (case side10 => exact (Kd.R_reads' HO774.out).2.1); rintro e w27 ⟨v777, v780, rfl, ho0, ho1, hb⟩; refine ⟨_, rfl, ?_⟩; replace HO771 := Aside0.mk (Kd.R_below (by (with_reducible repeat (first | apply Kd.R_alloc | apply Kd.R_drewN | apply Kd.R_drew)); exact (Kd.R_mono (Kd.R_far (p := ⟨gb775, 1, none⟩) (Kd.R_far (p := ⟨gb775, 0, none⟩) (Kd.R_types HO771.out BK775.out (by decide)) (fun _ hk => hk.2) (.slice Ao20 t769.length co20)) (fun _ hk => hk.2) (.slice Ao24 t772.length co24)) (fun _ h_ => h_.1))) hb); replace HO774 := Aside0.mk (Kd.R_below (by (with_reducible repeat (first | apply Kd.R_alloc | apply Kd.R_drewN | apply Kd.R_drew)); exact (Kd.R_mono (Kd.R_far (p := ⟨gb775, 1, none⟩) (Kd.R_far (p := ⟨gb775, 0, none⟩) (Kd.R_types HO774.out BK775.out (by decide)) (fun _ hk => hk.2) (.slice Ao20 t769.length co20)) (fun _ hk => hk.2) (.slice Ao24 t772.length co24)) (fun _ h_ => h_.1))) hb); have HO778 := Aside0.mk (Kd.R_lower ho0 (below_size (sqB HB))); have HO781 := Aside0.mk (Kd.R_lower ho1 (below_size (sqB HB))); replace BK767 := Aside0.mk (blk_below (g := gb767) (o := .cells #[.slice A0_0 l0_0.length c0_0, .int .u16 a0_1, .slice A0_2 l0_2.length c0_2, .slice A0_3 l0_3.length c0_3] 69 (0, 0)) sqX hb); replace BK768 := Aside0.mk (blk_below (g := gb768) (o := .cells #[.int .u8 a1_0, .int .u8 a1_1] 76 (0, 0)) sqX hb); replace BK775 := Aside0.mk (blk_below (g := gb775) (o := .cells #[.slice Ao20 t769.length co20, .slice Ao24 t772.length co24] 25 (0, 0)) (by (with_reducible repeat (first | refine blk_drewN ?_ _ | refine blk_drew ?_ | refine blk_alloc ?_ _)); refine blk_put (cs := #[.slice Ao20 t769.length co20, .slice none 0 0]) ?_ 1 _ rfl; (with_reducible repeat (first | refine blk_drewN ?_ _ | refine blk_drew ?_ | refine blk_alloc ?_ _)); refine blk_put (cs := #[.slice none 0 0, .slice none 0 0]) ?_ 0 _ rfl; (with_reducible repeat (first | refine blk_drewN ?_ _ | refine blk_drew ?_ | refine blk_alloc ?_ _)); exact BK775.out) hb); replace HB := sqb hb HB; (try clear hb); (try clear hb2); (try clear hk); (try clear hi); (try clear ho0); (try clear ho1); have hcz28_0 := sqc0 BK767; have hcz28_1 := sqc1 BK767; have hcz28_2 := sqc2 BK767; have hcz28_3 : w27.cell? ⟨gb767, 3, none⟩ = some (.slice A0_3 l0_3.length c0_3) := (blk_cell BK767.out 3).trans rfl; have hfz28_0 := blk_frozen BK767.out 0; have hfz28_1 := blk_frozen BK767.out 1; have hfz28_2 := blk_frozen BK767.out 2; have hfz28_3 := blk_frozen BK767.out 3; have hcz29_0 := sqc0 BK775; have hcz29_1 := sqc1 BK775; have hfz29_0 := blk_frozen BK775.out 0; have hfz29_1 := blk_frozen BK775.out 1; obtain ⟨Ao30, co30, eo30⟩ := Kd.R_slice HO778.out; subst eo30) | ((with_reducible refine gate_callee (f := 47) rfl ?_); refine goesL_ (some 43) rfl rfl Tryd.func47 sqF rfl #[.agg #[.slice A0_0 l0_0.length c0_0, .int .u16 a0_1, .slice A0_2 l0_2.length c0_2, .slice A0_3 l0_3.length c0_3], .agg #[.slice Ao20 t769.length co20, .slice Ao24 t772.length co24], .slice Ao30 t776.length co30, .slice none 0 0] rfl sqM ?_; (refine (lw_Cart_weighed.calls k _ _ l0_0 a0_1 _ _ l0_2 _ _ l0_3 _ _ t769 _ _ t772 _ _ t776 _ _ ([] : List Int) t783 t786 _ ?side1 ?side2 ?side3 ?side4 ?side5 ?side6 ?side7 ?side8 ?side9 ?side10 ?side11 ?side12 ?side13 ?side14 A6.out).mono ?_); (case side1 => exact sqQ HR0_0 HB); (case side2 => exact HC0_0.out); (case side3 => exact sqQ HR0_2 HB); (case side4 => exact HC0_2.out); (case side5 => exact sqQ HR0_3 HB); (case side6 => exact HC0_3.out); (case side7 => repeat (first | exact (Kd.R_reads' HO771.out).2.2 | (with_reducible refine Kd.C_alloc ?_ _) | (with_reducible refine Kd.C_drewN ?_ _) | (with_reducible refine Kd.C_drew ?_))); (case side8 => exact (Kd.R_reads' HO771.out).2.1); (case side9 => repeat (first | exact (Kd.R_reads' HO774.out).2.2 | (with_reducible refine Kd.C_alloc ?_ _) | (with_reducible refine Kd.C_drewN ?_ _) | (with_reducible refine Kd.C_drew ?_))); (case side10 => exact (Kd.R_reads' HO774.out).2.1); (case side11 => repeat (first | exact (Kd.R_reads' HO778.out).2.2 | (with_reducible refine Kd.C_alloc ?_ _) | (with_reducible refine Kd.C_drewN ?_ _) | (with_reducible refine Kd.C_drew ?_))); (case side12 => exact (Kd.R_reads' HO778.out).2.1); (case side13 => exact Kd.C_nil _ _); (case side14 => exact Nat.le_refl _); rintro e w31 ⟨v784, v787, rfl, ho0, ho1, hb⟩; refine ⟨_, rfl, ?_⟩; replace HO778 := Aside0.mk (Kd.R_below (sqR HO778) hb); replace HO781 := Aside0.mk (Kd.R_below (sqR HO781) hb); have HO785 := Aside0.mk (Kd.R_lower (Kd.R_new' ho0 (Kd.R_lt (sqR HO771))) (below_size (sqB HB))); replace HO771 := Aside0.mk (Kd.R_elder' (sqR HO771) (Kd.R_base ho0) hb); have HO788 := Aside0.mk (Kd.R_lower (Kd.R_new' ho1 (Kd.R_lt (sqR HO774))) (below_size (sqB HB))); replace HO774 := Aside0.mk (Kd.R_elder' (sqR HO774) (Kd.R_base ho1) hb); replace BK767 := sqk BK767 hb; replace BK768 := sqk BK768 hb; replace BK775 := sqk BK775 hb; replace HB := sqb hb HB; (try clear hb); (try clear hb2); (try clear hk); (try clear hi); (try clear ho0); (try clear ho1); obtain ⟨Ao32, co32, eo32⟩ := Kd.R_slice HO785.out; subst eo32; have hcz33_0 := sqc0 BK775; have hcz33_1 := sqc1 BK775; have hfz33_0 := blk_frozen BK775.out 0; have hfz33_1 := blk_frozen BK775.out 1; obtain ⟨Ao34, co34, eo34⟩ := Kd.R_slice HO788.out; subst eo34) | ((with_reducible refine gate_callee (f := 48) rfl ?_); refine goesL_ (some 46) rfl rfl Tryd.func48 sqF rfl #[.agg #[.slice Ao32 t783.length co32, .slice Ao34 t786.length co34]] rfl sqM ?_; (with_reducible refine (lw_own.calls _ _ t783 _ _ t786 t789 t792 _ ?side1 ?side2 ?side3 ?side4 A7.out).mono ?_); (case side1 => refine (Kd.R_reads' (e := 41) (base := w.heap.size) (ok := fun k_ => (True ∧ some k_ ≠ (.slice Ao20 t769.length co20 : Value).ownBlock)) (n := t783.length) (c := co32) ?_).2.2; exact (by (with_reducible repeat (first | apply Kd.R_alloc | apply Kd.R_drewN | apply Kd.R_drew)); exact (Kd.R_mono (Kd.R_far (p := ⟨gb775, 1, none⟩) (Kd.R_far (p := ⟨gb775, 0, none⟩) (Kd.R_types HO785.out BK775.out (by decide)) (fun _ hk => hk.2) (.slice Ao32 t783.length co32)) (fun _ hk => hk.2) (.slice Ao34 t786.length co34)) (fun _ h_ => h_.1)))); (case side2 => exact (Kd.R_reads' HO785.out).2.1); (case side3 => refine (Kd.R_reads' (e := 80) (base := w.heap.size) (ok := fun k_ => (True ∧ some k_ ≠ (.slice Ao24 t772.length co24 : Value).ownBlock)) (n := t786.length) (c := co34) ?_).2.2; exact (by (with_reducible repeat (first | apply Kd.R_alloc | apply Kd.R_drewN | apply Kd.R_drew)); exact (Kd.R_mono (Kd.R_far (p := ⟨gb775, 1, none⟩) (Kd.R_far (p := ⟨gb775, 0, none⟩) (Kd.R_types HO788.out BK775.out (by decide)) (fun _ hk => hk.2) (.slice Ao32 t783.length co32)) (fun _ hk => hk.2) (.slice Ao34 t786.length co34)) (fun _ h_ => h_.1)))); (case side4 => exact (Kd.R_reads' HO788.out).2.1); rintro e w35 ⟨v790, v793, rfl, ho0, ho1, hb⟩; refine ⟨_, rfl, ?_⟩; replace HO778 := Aside0.mk (Kd.R_below (by (with_reducible repeat (first | apply Kd.R_alloc | apply Kd.R_drewN | apply Kd.R_drew)); exact (Kd.R_mono (Kd.R_far (p := ⟨gb775, 1, none⟩) (Kd.R_far (p := ⟨gb775, 0, none⟩) (Kd.R_types HO778.out BK775.out (by decide)) (fun _ hk => hk.2) (.slice Ao32 t783.length co32)) (fun _ hk => hk.2) (.slice Ao34 t786.length co34)) (fun _ h_ => h_.1))) hb); replace HO781 := Aside0.mk (Kd.R_below (by (with_reducible repeat (first | apply Kd.R_alloc | apply Kd.R_drewN | apply Kd.R_drew)); exact (Kd.R_mono (Kd.R_far (p := ⟨gb775, 1, none⟩) (Kd.R_far (p := ⟨gb775, 0, none⟩) (Kd.R_types HO781.out BK775.out (by decide)) (fun _ hk => hk.2) (.slice Ao32 t783.length co32)) (fun _ hk => hk.2) (.slice Ao34 t786.length co34)) (fun _ h_ => h_.1))) hb); have HO791 := Aside0.mk (Kd.R_lower (Kd.R_new' (Kd.R_new' ho0 (Kd.R_lt (by (with_reducible repeat (first | apply Kd.R_alloc | apply Kd.R_drewN | apply Kd.R_drew)); exact (Kd.R_mono (Kd.R_far (p := ⟨gb775, 1, none⟩) (Kd.R_far (p := ⟨gb775, 0, none⟩) (Kd.R_types HO771.out BK775.out (by decide)) (fun _ hk => hk.2) (.slice Ao32 t783.length co32)) (fun _ hk => hk.2) (.slice Ao34 t786.length co34)) (fun _ h_ => h_.1))))) (Kd.R_lt (by (with_reducible repeat (first | apply Kd.R_alloc | apply Kd.R_drewN | apply Kd.R_drew)); exact (Kd.R_mono (Kd.R_far (p := ⟨gb775, 1, none⟩) (Kd.R_far (p := ⟨gb775, 0, none⟩) (Kd.R_types HO785.out BK775.out (by decide)) (fun _ hk => hk.2) (.slice Ao32 t783.length co32)) (fun _ hk => hk.2) (.slice Ao34 t786.length co34)) (fun _ h_ => h_.1))))) (below_size (sqB HB))); replace HO771 := Aside0.mk (Kd.R_elder' (by (with_reducible repeat (first | apply Kd.R_alloc | apply Kd.R_drewN | apply Kd.R_drew)); exact (Kd.R_mono (Kd.R_far (p := ⟨gb775, 1, none⟩) (Kd.R_far (p := ⟨gb775, 0, none⟩) (Kd.R_types HO771.out BK775.out (by decide)) (fun _ hk => hk.2) (.slice Ao32 t783.length co32)) (fun _ hk => hk.2) (.slice Ao34 t786.length co34)) (fun _ h_ => h_.1))) (Kd.R_base ho0) hb); replace HO785 := Aside0.mk (Kd.R_elder' (by (with_reducible repeat (first | apply Kd.R_alloc | apply Kd.R_drewN | apply Kd.R_drew)); exact (Kd.R_mono (Kd.R_far (p := ⟨gb775, 1, none⟩) (Kd.R_far (p := ⟨gb775, 0, none⟩) (Kd.R_types HO785.out BK775.out (by decide)) (fun _ hk => hk.2) (.slice Ao32 t783.length co32)) (fun _ hk => hk.2) (.slice Ao34 t786.length co34)) (fun _ h_ => h_.1))) (Kd.R_base ho0) hb); have HO794 := Aside0.mk (Kd.R_lower (Kd.R_new' (Kd.R_new' ho1 (Kd.R_lt (by (with_reducible repeat (first | apply Kd.R_alloc | apply Kd.R_drewN | apply Kd.R_drew)); exact (Kd.R_mono (Kd.R_far (p := ⟨gb775, 1, none⟩) (Kd.R_far (p := ⟨gb775, 0, none⟩) (Kd.R_types HO774.out BK775.out (by decide)) (fun _ hk => hk.2) (.slice Ao32 t783.length co32)) (fun _ hk => hk.2) (.slice Ao34 t786.length co34)) (fun _ h_ => h_.1))))) (Kd.R_lt (by (with_reducible repeat (first | apply Kd.R_alloc | apply Kd.R_drewN | apply Kd.R_drew)); exact (Kd.R_mono (Kd.R_far (p := ⟨gb775, 1, none⟩) (Kd.R_far (p := ⟨gb775, 0, none⟩) (Kd.R_types HO788.out BK775.out (by decide)) (fun _ hk => hk.2) (.slice Ao32 t783.length co32)) (fun _ hk => hk.2) (.slice Ao34 t786.length co34)) (fun _ h_ => h_.1))))) (below_size (sqB HB))); replace HO774 := Aside0.mk (Kd.R_elder' (by (with_reducible repeat (first | apply Kd.R_alloc | apply Kd.R_drewN | apply Kd.R_drew)); exact (Kd.R_mono (Kd.R_far (p := ⟨gb775, 1, none⟩) (Kd.R_far (p := ⟨gb775, 0, none⟩) (Kd.R_types HO774.out BK775.out (by decide)) (fun _ hk => hk.2) (.slice Ao32 t783.length co32)) (fun _ hk => hk.2) (.slice Ao34 t786.length co34)) (fun _ h_ => h_.1))) (Kd.R_base ho1) hb); replace HO788 := Aside0.mk (Kd.R_elder' (by (with_reducible repeat (first | apply Kd.R_alloc | apply Kd.R_drewN | apply Kd.R_drew)); exact (Kd.R_mono (Kd.R_far (p := ⟨gb775, 1, none⟩) (Kd.R_far (p := ⟨gb775, 0, none⟩) (Kd.R_types HO788.out BK775.out (by decide)) (fun _ hk => hk.2) (.slice Ao32 t783.length co32)) (fun _ hk => hk.2) (.slice Ao34 t786.length co34)) (fun _ h_ => h_.1))) (Kd.R_base ho1) hb); replace BK767 := Aside0.mk (blk_below (g := gb767) (o := .cells #[.slice A0_0 l0_0.length c0_0, .int .u16 a0_1, .slice A0_2 l0_2.length c0_2, .slice A0_3 l0_3.length c0_3] 69 (0, 0)) sqX hb); replace BK768 := Aside0.mk (blk_below (g := gb768) (o := .cells #[.int .u8 a1_0, .int .u8 a1_1] 76 (0, 0)) sqX hb); replace BK775 := Aside0.mk (blk_below (g := gb775) (o := .cells #[.slice Ao32 t783.length co32, .slice Ao34 t786.length co34] 25 (0, 0)) (by (with_reducible repeat (first | refine blk_drewN ?_ _ | refine blk_drew ?_ | refine blk_alloc ?_ _)); refine blk_put (cs := #[.slice Ao32 t783.length co32, .slice Ao24 t772.length co24]) ?_ 1 _ rfl; (with_reducible repeat (first | refine blk_drewN ?_ _ | refine blk_drew ?_ | refine blk_alloc ?_ _)); refine blk_put (cs := #[.slice Ao20 t769.length co20, .slice Ao24 t772.length co24]) ?_ 0 _ rfl; (with_reducible repeat (first | refine blk_drewN ?_ _ | refine blk_drew ?_ | refine blk_alloc ?_ _)); exact BK775.out) hb); replace HB := sqb hb HB; (try clear hb); (try clear hb2); (try clear hk); (try clear hi); (try clear ho0); (try clear ho1); obtain ⟨Ao36, co36, eo36⟩ := Kd.R_slice HO791.out; subst eo36; obtain ⟨Ao37, co37, eo37⟩ := Kd.R_slice HO794.out; subst eo37) | ((with_reducible refine gate_callee (f := 31) rfl ?_); refine goesL_ (some 47) rfl rfl Tryd.func31 sqF rfl #[.agg #[.slice Ao36 t789.length co36, .slice Ao37 t792.length co37]] rfl sqM ?_; (with_reducible refine (wool_Where.calls _ _ t789 _ _ t792 t795 t798 _ ?sideG ?side1 ?side2 ?side3 ?side4 A8.out).mono ?_); (case sideG => exact (Kd.C_below HGL.out (sqB HB))); (case side1 => repeat (first | exact (Kd.R_reads' HO791.out).2.2 | (with_reducible refine Kd.C_alloc ?_ _) | (with_reducible refine Kd.C_drewN ?_ _) | (with_reducible refine Kd.C_drew ?_))); (case side2 => exact (Kd.R_reads' HO791.out).2.1); (case side3 => repeat (first | exact (Kd.R_reads' HO794.out).2.2 | (with_reducible refine Kd.C_alloc ?_ _) | (with_reducible refine Kd.C_drewN ?_ _) | (with_reducible refine Kd.C_drew ?_))); (case side4 => exact (Kd.R_reads' HO794.out).2.1); rintro e w38 ⟨v796, rfl, ho0, hb⟩; refine ⟨_, rfl, ?_⟩; replace HO771 := Aside0.mk (Kd.R_below (sqR HO771) hb); replace HO774 := Aside0.mk (Kd.R_below (sqR HO774) hb); replace HO785 := Aside0.mk (Kd.R_below (sqR HO785) hb); replace HO788 := Aside0.mk (Kd.R_below (sqR HO788) hb); replace HO791 := Aside0.mk (Kd.R_below (sqR HO791) hb); replace HO794 := Aside0.mk (Kd.R_below (sqR HO794) hb); have HO797 := Aside0.mk (Kd.R_lower (Kd.R_new' (Kd.R_new' ho0 (Kd.R_lt (sqR HO778))) (Kd.R_lt (sqR HO781))) (below_size (sqB HB))); replace HO778 := Aside0.mk (Kd.R_elder' (sqR HO778) (Kd.R_base ho0) hb); replace HO781 := Aside0.mk (Kd.R_elder' (sqR HO781) (Kd.R_base ho0) hb); replace BK767 := sqk BK767 hb; replace BK768 := sqk BK768 hb; replace BK775 := sqk BK775 hb; replace HB := sqb hb HB; (try clear hb); (try clear hb2); (try clear hk); (try clear hi); (try clear ho0); have hcz39_0 := sqc0 BK775; have hcz39_1 := sqc1 BK775; have hfz39_0 := blk_frozen BK775.out 0; have hfz39_1 := blk_frozen BK775.out 1) | ((with_reducible refine gate_callee (f := 48) rfl ?_); refine goesL_ (some 52) rfl rfl Tryd.func48 sqF rfl #[.agg #[.slice Ao32 t783.length co32, .slice Ao34 t786.length co34]] rfl sqM ?_; (with_reducible refine (lw_own.calls _ _ t783 _ _ t786 t799 t802 _ ?side1 ?side2 ?side3 ?side4 A9.out).mono ?_); (case side1 => repeat (first | exact (Kd.R_reads' HO785.out).2.2 | (with_reducible refine Kd.C_alloc ?_ _) | (with_reducible refine Kd.C_drewN ?_ _) | (with_reducible refine Kd.C_drew ?_))); (case side2 => exact (Kd.R_reads' HO785.out).2.1); (case side3 => repeat (first | exact (Kd.R_reads' HO788.out).2.2 | (with_reducible refine Kd.C_alloc ?_ _) | (with_reducible refine Kd.C_drewN ?_ _) | (with_reducible refine Kd.C_drew ?_))); (case side4 => exact (Kd.R_reads' HO788.out).2.1); rintro e w40 ⟨v800, v803, rfl, ho0, ho1, hb⟩; refine ⟨_, rfl, ?_⟩; replace HO778 := Aside0.mk (Kd.R_below (sqR HO778) hb); replace HO781 := Aside0.mk (Kd.R_below (sqR HO781) hb); replace HO797 := Aside0.mk (Kd.R_below (sqR HO797) hb); have HO801 := Aside0.mk (Kd.R_lower (Kd.R_new' (Kd.R_new' (Kd.R_new' ho0 (Kd.R_lt (sqR HO771))) (Kd.R_lt (sqR HO785))) (Kd.R_lt (sqR HO791))) (below_size (sqB HB))); replace HO771 := Aside0.mk (Kd.R_elder' (sqR HO771) (Kd.R_base ho0) hb); replace HO785 := Aside0.mk (Kd.R_elder' (sqR HO785) (Kd.R_base ho0) hb); replace HO791 := Aside0.mk (Kd.R_elder' (sqR HO791) (Kd.R_base ho0) hb); have HO804 := Aside0.mk (Kd.R_lower (Kd.R_new' (Kd.R_new' (Kd.R_new' ho1 (Kd.R_lt (sqR HO774))) (Kd.R_lt (sqR HO788))) (Kd.R_lt (sqR HO794))) (below_size (sqB HB))); replace HO774 := Aside0.mk (Kd.R_elder' (sqR HO774) (Kd.R_base ho1) hb); replace HO788 := Aside0.mk (Kd.R_elder' (sqR HO788) (Kd.R_base ho1) hb); replace HO794 := Aside0.mk (Kd.R_elder' (sqR HO794) (Kd.R_base ho1) hb); replace BK767 := sqk BK767 hb; replace BK768 := sqk BK768 hb; replace BK775 := sqk BK775 hb; replace HB := sqb hb HB; (try clear hb); (try clear hb2); (try clear hk); (try clear hi); (try clear ho0); (try clear ho1); obtain ⟨Ao41, co41, eo41⟩ := Kd.R_slice HO801.out; subst eo41; obtain ⟨Ao42, co42, eo42⟩ := Kd.R_slice HO804.out; subst eo42) | ((with_reducible refine gate_callee (f := 29) rfl ?_); refine goesL_ (some 53) rfl rfl Tryd.func29 sqF rfl #[.agg #[.slice Ao41 t799.length co41, .slice Ao42 t802.length co42]] rfl sqM ?_; (with_reducible refine (wool_Missing.calls _ _ t799 _ _ t802 t805 t806 t807 _ ?sideG ?side1 ?side2 ?side3 ?side4 A10.out).mono ?_); (case sideG => exact (Kd.C_below HGL.out (sqB HB))); (case side1 => repeat (first | exact (Kd.R_reads' HO801.out).2.2 | (with_reducible refine Kd.C_alloc ?_ _) | (with_reducible refine Kd.C_drewN ?_ _) | (with_reducible refine Kd.C_drew ?_))); (case side2 => exact (Kd.R_reads' HO801.out).2.1); (case side3 => repeat (first | exact (Kd.R_reads' HO804.out).2.2 | (with_reducible refine Kd.C_alloc ?_ _) | (with_reducible refine Kd.C_drewN ?_ _) | (with_reducible refine Kd.C_drew ?_))); (case side4 => exact (Kd.R_reads' HO804.out).2.1); rintro e w43 ⟨rfl, hb⟩; refine ⟨_, rfl, ?_⟩; replace HO771 := Aside0.mk (Kd.R_below (sqR HO771) hb); replace HO774 := Aside0.mk (Kd.R_below (sqR HO774) hb); replace HO778 := Aside0.mk (Kd.R_below (sqR HO778) hb); replace HO781 := Aside0.mk (Kd.R_below (sqR HO781) hb); replace HO785 := Aside0.mk (Kd.R_below (sqR HO785) hb); replace HO788 := Aside0.mk (Kd.R_below (sqR HO788) hb); replace HO791 := Aside0.mk (Kd.R_below (sqR HO791) hb); replace HO794 := Aside0.mk (Kd.R_below (sqR HO794) hb); replace HO797 := Aside0.mk (Kd.R_below (sqR HO797) hb); replace HO801 := Aside0.mk (Kd.R_below (sqR HO801) hb); replace HO804 := Aside0.mk (Kd.R_below (sqR HO804) hb); replace BK767 := sqk BK767 hb; replace BK768 := sqk BK768 hb; replace BK775 := sqk BK775 hb; replace HB := sqb hb HB; (try clear hb); (try clear hb2); (try clear hk); (try clear hi)) | ((with_reducible refine gate_dst (N := 12) rfl ?_); (try (refine gate_guard (by rfl) ?_; dsimp only)); refine box_event ?hg (N := 12) ?hd (cs := #[.int .i64 0, .int .i64 0]) (t := 41) ?hr ?_; (case hd => rfl); (case hg => rfl); (case hr => first | (go_simp; done) | (go_simp; rfl)); intro gb808 hg w44 hbox hb; replace HO771 := Aside0.mk (Kd.R_below (Kd.R_elderB (sqR HO771) gb808 (Nat.le_of_eq hg.symm)) hb); replace HO774 := Aside0.mk (Kd.R_below (sqR HO774) hb); replace HO778 := Aside0.mk (Kd.R_below (sqR HO778) hb); replace HO781 := Aside0.mk (Kd.R_below (sqR HO781) hb); replace HO785 := Aside0.mk (Kd.R_below (Kd.R_elderB (sqR HO785) gb808 (Nat.le_of_eq hg.symm)) hb); replace HO788 := Aside0.mk (Kd.R_below (sqR HO788) hb); replace HO791 := Aside0.mk (Kd.R_below (Kd.R_elderB (sqR HO791) gb808 (Nat.le_of_eq hg.symm)) hb); replace HO794 := Aside0.mk (Kd.R_below (sqR HO794) hb); replace HO797 := Aside0.mk (Kd.R_below (sqR HO797) hb); replace HO801 := Aside0.mk (Kd.R_below (Kd.R_elderB (sqR HO801) gb808 (Nat.le_of_eq hg.symm)) hb); replace HO804 := Aside0.mk (Kd.R_below (sqR HO804) hb); have BK808 := Aside0.mk (hbox); have GW808 := Aside0.mk (sqZ hg HB); have GE808 := Aside0.mk (sqZ hg HB); replace HB := sqb hb HB; have NB767_808 := Aside0.mk (sqL hg BK767); have NB808_767 := Aside0.mk (sqG hg BK767); replace BK767 := sqk BK767 hb; have NB768_808 := Aside0.mk (sqL hg BK768); have NB808_768 := Aside0.mk (sqG hg BK768); replace BK768 := sqk BK768 hb; have NB775_808 := Aside0.mk (sqL hg BK775); have NB808_775 := Aside0.mk (sqG hg BK775); replace BK775 := sqk BK775 hb; clear hb hbox hg; have hnb45 := NB808_767.out; have hnc45 := NB767_808.out; have hnb46 := NB808_768.out; have hnc46 := NB768_808.out; have hnb47 := NB808_775.out; have hnc47 := NB775_808.out; have hcz48_0 := sqc0 BK808; have hcz48_1 := sqc1 BK808; have hfz48_0 := blk_frozen BK808.out 0; have hfz48_1 := blk_frozen BK808.out 1; have hcz49_0 := sqc0 BK775; have hcz49_1 := sqc1 BK775; have hfz49_0 := blk_frozen BK775.out 0; have hfz49_1 := blk_frozen BK775.out 1) | ((with_reducible refine gate_callee (f := 48) rfl ?_); refine goesL_ (some 58) rfl rfl Tryd.func48 sqF rfl #[.agg #[.slice Ao32 t783.length co32, .slice Ao34 t786.length co34]] rfl sqM ?_; (with_reducible refine (lw_own.calls _ _ t783 _ _ t786 t809 t812 _ ?side1 ?side2 ?side3 ?side4 A11.out).mono ?_); (case side1 => refine (Kd.R_reads' (e := 41) (base := w.heap.size) (ok := fun k_ => ((((True ∧ some k_ ≠ (.slice Ao20 t769.length co20 : Value).ownBlock) ∧ some k_ ≠ (.slice Ao36 t789.length co36 : Value).ownBlock) ∧ some k_ ≠ (.slice Ao41 t799.length co41 : Value).ownBlock) ∧ k_ ≠ gb808)) (n := t783.length) (c := co32) ?_).2.2; exact (by (with_reducible repeat (first | apply Kd.R_alloc | apply Kd.R_drewN | apply Kd.R_drew)); exact (Kd.R_mono (Kd.R_far (p := ⟨gb808, 1, none⟩) (Kd.R_far (p := ⟨gb808, 0, none⟩) (Kd.R_mono HO785.out (fun k_ hk => (⟨hk, hk.2⟩ : _ ∧ k_ ≠ gb808))) (fun _ hk => hk.2) (.int .i64 t805)) (fun _ hk => hk.2) (.int .i64 t806)) (fun _ h_ => h_.1)))); (case side2 => exact (Kd.R_reads' HO785.out).2.1); (case side3 => refine (Kd.R_reads' (e := 80) (base := w.heap.size) (ok := fun k_ => (((True ∧ some k_ ≠ (.slice Ao24 t772.length co24 : Value).ownBlock) ∧ some k_ ≠ (.slice Ao37 t792.length co37 : Value).ownBlock) ∧ some k_ ≠ (.slice Ao42 t802.length co42 : Value).ownBlock)) (n := t786.length) (c := co34) ?_).2.2; exact (by (with_reducible repeat (first | apply Kd.R_alloc | apply Kd.R_drewN | apply Kd.R_drew)); exact (Kd.R_mono (Kd.R_far (p := ⟨gb808, 1, none⟩) (Kd.R_far (p := ⟨gb808, 0, none⟩) (Kd.R_types HO788.out BK808.out (by decide)) (fun _ hk => hk.2) (.int .i64 t805)) (fun _ hk => hk.2) (.int .i64 t806)) (fun _ h_ => h_.1)))); (case side4 => exact (Kd.R_reads' HO788.out).2.1); rintro e w50 ⟨v810, v813, rfl, ho0, ho1, hb⟩; refine ⟨_, rfl, ?_⟩; replace HO778 := Aside0.mk (Kd.R_below (by (with_reducible repeat (first | apply Kd.R_alloc | apply Kd.R_drewN | apply Kd.R_drew)); exact (Kd.R_mono (Kd.R_far (p := ⟨gb808, 1, none⟩) (Kd.R_far (p := ⟨gb808, 0, none⟩) (Kd.R_types HO778.out BK808.out (by decide)) (fun _ hk => hk.2) (.int .i64 t805)) (fun _ hk => hk.2) (.int .i64 t806)) (fun _ h_ => h_.1))) hb); replace HO781 := Aside0.mk (Kd.R_below (by (with_reducible repeat (first | apply Kd.R_alloc | apply Kd.R_drewN | apply Kd.R_drew)); exact (Kd.R_mono (Kd.R_far (p := ⟨gb808, 1, none⟩) (Kd.R_far (p := ⟨gb808, 0, none⟩) (Kd.R_types HO781.out BK808.out (by decide)) (fun _ hk => hk.2) (.int .i64 t805)) (fun _ hk => hk.2) (.int .i64 t806)) (fun _ h_ => h_.1))) hb); replace HO797 := Aside0.mk (Kd.R_below (by (with_reducible repeat (first | apply Kd.R_alloc | apply Kd.R_drewN | apply Kd.R_drew)); exact (Kd.R_mono (Kd.R_far (p := ⟨gb808, 1, none⟩) (Kd.R_far (p := ⟨gb808, 0, none⟩) (Kd.R_types HO797.out BK808.out (by decide)) (fun _ hk => hk.2) (.int .i64 t805)) (fun _ hk => hk.2) (.int .i64 t806)) (fun _ h_ => h_.1))) hb); have HO811 := Aside0.mk (Kd.R_lower (Kd.R_newB (Kd.R_new' (Kd.R_new' (Kd.R_new' (Kd.R_new' ho0 (Kd.R_lt (by (with_reducible repeat (first | apply Kd.R_alloc | apply Kd.R_drewN | apply Kd.R_drew)); exact (Kd.R_mono (Kd.R_far (p := ⟨gb808, 1, none⟩) (Kd.R_far (p := ⟨gb808, 0, none⟩) (Kd.R_mono HO771.out (fun k_ hk => (⟨hk, hk.2⟩ : _ ∧ k_ ≠ gb808))) (fun _ hk => hk.2) (.int .i64 t805)) (fun _ hk => hk.2) (.int .i64 t806)) (fun _ h_ => h_.1))))) (Kd.R_lt (by (with_reducible repeat (first | apply Kd.R_alloc | apply Kd.R_drewN | apply Kd.R_drew)); exact (Kd.R_mono (Kd.R_far (p := ⟨gb808, 1, none⟩) (Kd.R_far (p := ⟨gb808, 0, none⟩) (Kd.R_mono HO785.out (fun k_ hk => (⟨hk, hk.2⟩ : _ ∧ k_ ≠ gb808))) (fun _ hk => hk.2) (.int .i64 t805)) (fun _ hk => hk.2) (.int .i64 t806)) (fun _ h_ => h_.1))))) (Kd.R_lt (by (with_reducible repeat (first | apply Kd.R_alloc | apply Kd.R_drewN | apply Kd.R_drew)); exact (Kd.R_mono (Kd.R_far (p := ⟨gb808, 1, none⟩) (Kd.R_far (p := ⟨gb808, 0, none⟩) (Kd.R_mono HO791.out (fun k_ hk => (⟨hk, hk.2⟩ : _ ∧ k_ ≠ gb808))) (fun _ hk => hk.2) (.int .i64 t805)) (fun _ hk => hk.2) (.int .i64 t806)) (fun _ h_ => h_.1))))) (Kd.R_lt (by (with_reducible repeat (first | apply Kd.R_alloc | apply Kd.R_drewN | apply Kd.R_drew)); exact (Kd.R_mono (Kd.R_far (p := ⟨gb808, 1, none⟩) (Kd.R_far (p := ⟨gb808, 0, none⟩) (Kd.R_mono HO801.out (fun k_ hk => (⟨hk, hk.2⟩ : _ ∧ k_ ≠ gb808))) (fun _ hk => hk.2) (.int .i64 t805)) (fun _ hk => hk.2) (.int .i64 t806)) (fun _ h_ => h_.1))))) (g := gb808) (o := .cells #[.int .i64 t805, .int .i64 t806] 41 (0, 0)) (by (with_reducible repeat (first | refine blk_drewN ?_ _ | refine blk_drew ?_ | refine blk_alloc ?_ _)); refine blk_put (cs := #[.int .i64 t805, .int .i64 0]) ?_ 1 _ rfl; (with_reducible repeat (first | refine blk_drewN ?_ _ | refine blk_drew ?_ | refine blk_alloc ?_ _)); refine blk_put (cs := #[.int .i64 0, .int .i64 0]) ?_ 0 _ rfl; (with_reducible repeat (first | refine blk_drewN ?_ _ | refine blk_drew ?_ | refine blk_alloc ?_ _)); exact BK808.out)) (below_size (sqB HB))); replace HO771 := Aside0.mk (Kd.R_elder' (by (with_reducible repeat (first | apply Kd.R_alloc | apply Kd.R_drewN | apply Kd.R_drew)); exact (Kd.R_mono (Kd.R_far (p := ⟨gb808, 1, none⟩) (Kd.R_far (p := ⟨gb808, 0, none⟩) (Kd.R_mono HO771.out (fun k_ hk => (⟨hk, hk.2⟩ : _ ∧ k_ ≠ gb808))) (fun _ hk => hk.2) (.int .i64 t805)) (fun _ hk => hk.2) (.int .i64 t806)) (fun _ h_ => h_.1))) (Kd.R_base ho0) hb); replace HO785 := Aside0.mk (Kd.R_elder' (by (with_reducible repeat (first | apply Kd.R_alloc | apply Kd.R_drewN | apply Kd.R_drew)); exact (Kd.R_mono (Kd.R_far (p := ⟨gb808, 1, none⟩) (Kd.R_far (p := ⟨gb808, 0, none⟩) (Kd.R_mono HO785.out (fun k_ hk => (⟨hk, hk.2⟩ : _ ∧ k_ ≠ gb808))) (fun _ hk => hk.2) (.int .i64 t805)) (fun _ hk => hk.2) (.int .i64 t806)) (fun _ h_ => h_.1))) (Kd.R_base ho0) hb); replace HO791 := Aside0.mk (Kd.R_elder' (by (with_reducible repeat (first | apply Kd.R_alloc | apply Kd.R_drewN | apply Kd.R_drew)); exact (Kd.R_mono (Kd.R_far (p := ⟨gb808, 1, none⟩) (Kd.R_far (p := ⟨gb808, 0, none⟩) (Kd.R_mono HO791.out (fun k_ hk => (⟨hk, hk.2⟩ : _ ∧ k_ ≠ gb808))) (fun _ hk => hk.2) (.int .i64 t805)) (fun _ hk => hk.2) (.int .i64 t806)) (fun _ h_ => h_.1))) (Kd.R_base ho0) hb); replace HO801 := Aside0.mk (Kd.R_elder' (by (with_reducible repeat (first | apply Kd.R_alloc | apply Kd.R_drewN | apply Kd.R_drew)); exact (Kd.R_mono (Kd.R_far (p := ⟨gb808, 1, none⟩) (Kd.R_far (p := ⟨gb808, 0, none⟩) (Kd.R_mono HO801.out (fun k_ hk => (⟨hk, hk.2⟩ : _ ∧ k_ ≠ gb808))) (fun _ hk => hk.2) (.int .i64 t805)) (fun _ hk => hk.2) (.int .i64 t806)) (fun _ h_ => h_.1))) (Kd.R_base ho0) hb); have HO814 := Aside0.mk (Kd.R_lower (Kd.R_new' (Kd.R_new' (Kd.R_new' (Kd.R_new' ho1 (Kd.R_lt (by (with_reducible repeat (first | apply Kd.R_alloc | apply Kd.R_drewN | apply Kd.R_drew)); exact (Kd.R_mono (Kd.R_far (p := ⟨gb808, 1, none⟩) (Kd.R_far (p := ⟨gb808, 0, none⟩) (Kd.R_types HO774.out BK808.out (by decide)) (fun _ hk => hk.2) (.int .i64 t805)) (fun _ hk => hk.2) (.int .i64 t806)) (fun _ h_ => h_.1))))) (Kd.R_lt (by (with_reducible repeat (first | apply Kd.R_alloc | apply Kd.R_drewN | apply Kd.R_drew)); exact (Kd.R_mono (Kd.R_far (p := ⟨gb808, 1, none⟩) (Kd.R_far (p := ⟨gb808, 0, none⟩) (Kd.R_types HO788.out BK808.out (by decide)) (fun _ hk => hk.2) (.int .i64 t805)) (fun _ hk => hk.2) (.int .i64 t806)) (fun _ h_ => h_.1))))) (Kd.R_lt (by (with_reducible repeat (first | apply Kd.R_alloc | apply Kd.R_drewN | apply Kd.R_drew)); exact (Kd.R_mono (Kd.R_far (p := ⟨gb808, 1, none⟩) (Kd.R_far (p := ⟨gb808, 0, none⟩) (Kd.R_types HO794.out BK808.out (by decide)) (fun _ hk => hk.2) (.int .i64 t805)) (fun _ hk => hk.2) (.int .i64 t806)) (fun _ h_ => h_.1))))) (Kd.R_lt (by (with_reducible repeat (first | apply Kd.R_alloc | apply Kd.R_drewN | apply Kd.R_drew)); exact (Kd.R_mono (Kd.R_far (p := ⟨gb808, 1, none⟩) (Kd.R_far (p := ⟨gb808, 0, none⟩) (Kd.R_types HO804.out BK808.out (by decide)) (fun _ hk => hk.2) (.int .i64 t805)) (fun _ hk => hk.2) (.int .i64 t806)) (fun _ h_ => h_.1))))) (below_size (sqB HB))); replace HO774 := Aside0.mk (Kd.R_elder' (by (with_reducible repeat (first | apply Kd.R_alloc | apply Kd.R_drewN | apply Kd.R_drew)); exact (Kd.R_mono (Kd.R_far (p := ⟨gb808, 1, none⟩) (Kd.R_far (p := ⟨gb808, 0, none⟩) (Kd.R_types HO774.out BK808.out (by decide)) (fun _ hk => hk.2) (.int .i64 t805)) (fun _ hk => hk.2) (.int .i64 t806)) (fun _ h_ => h_.1))) (Kd.R_base ho1) hb); replace HO788 := Aside0.mk (Kd.R_elder' (by (with_reducible repeat (first | apply Kd.R_alloc | apply Kd.R_drewN | apply Kd.R_drew)); exact (Kd.R_mono (Kd.R_far (p := ⟨gb808, 1, none⟩) (Kd.R_far (p := ⟨gb808, 0, none⟩) (Kd.R_types HO788.out BK808.out (by decide)) (fun _ hk => hk.2) (.int .i64 t805)) (fun _ hk => hk.2) (.int .i64 t806)) (fun _ h_ => h_.1))) (Kd.R_base ho1) hb); replace HO794 := Aside0.mk (Kd.R_elder' (by (with_reducible repeat (first | apply Kd.R_alloc | apply Kd.R_drewN | apply Kd.R_drew)); exact (Kd.R_mono (Kd.R_far (p := ⟨gb808, 1, none⟩) (Kd.R_far (p := ⟨gb808, 0, none⟩) (Kd.R_types HO794.out BK808.out (by decide)) (fun _ hk => hk.2) (.int .i64 t805)) (fun _ hk => hk.2) (.int .i64 t806)) (fun _ h_ => h_.1))) (Kd.R_base ho1) hb); replace HO804 := Aside0.mk (Kd.R_elder' (by (with_reducible repeat (first | apply Kd.R_alloc | apply Kd.R_drewN | apply Kd.R_drew)); exact (Kd.R_mono (Kd.R_far (p := ⟨gb808, 1, none⟩) (Kd.R_far (p := ⟨gb808, 0, none⟩) (Kd.R_types HO804.out BK808.out (by decide)) (fun _ hk => hk.2) (.int .i64 t805)) (fun _ hk => hk.2) (.int .i64 t806)) (fun _ h_ => h_.1))) (Kd.R_base ho1) hb); replace BK767 := Aside0.mk (blk_below (g := gb767) (o := .cells #[.slice A0_0 l0_0.length c0_0, .int .u16 a0_1, .slice A0_2 l0_2.length c0_2, .slice A0_3 l0_3.length c0_3] 69 (0, 0)) sqX hb); replace BK768 := Aside0.mk (blk_below (g := gb768) (o := .cells #[.int .u8 a1_0, .int .u8 a1_1] 76 (0, 0)) sqX hb); replace BK775 := Aside0.mk (blk_below (g := gb775) (o := .cells #[.slice Ao32 t783.length co32, .slice Ao34 t786.length co34] 25 (0, 0)) sqX hb); replace BK808 := Aside0.mk (blk_below (g := gb808) (o := .cells #[.int .i64 t805, .int .i64 t806] 41 (0, 0)) (by (with_reducible repeat (first | refine blk_drewN ?_ _ | refine blk_drew ?_ | refine blk_alloc ?_ _)); refine blk_put (cs := #[.int .i64 t805, .int .i64 0]) ?_ 1 _ rfl; (with_reducible repeat (first | refine blk_drewN ?_ _ | refine blk_drew ?_ | refine blk_alloc ?_ _)); refine blk_put (cs := #[.int .i64 0, .int .i64 0]) ?_ 0 _ rfl; (with_reducible repeat (first | refine blk_drewN ?_ _ | refine blk_drew ?_ | refine blk_alloc ?_ _)); exact BK808.out) hb); replace HB := sqb hb HB; (try clear hb); (try clear hb2); (try clear hk); (try clear hi); (try clear ho0); (try clear ho1); obtain ⟨Ao51, co51, eo51⟩ := Kd.R_slice HO811.out; subst eo51; obtain ⟨Ao52, co52, eo52⟩ := Kd.R_slice HO814.out; subst eo52) | ((with_reducible refine gate_callee (f := 20) rfl ?_); refine goesL_ (some 59) rfl rfl Tryd.func20 sqF rfl #[.agg #[.slice Ao51 t809.length co51, .slice Ao52 t812.length co52]] rfl sqM ?_; (with_reducible refine (wool_Weights.calls _ _ t809 _ _ t812 t815 t818 _ ?sideG ?side1 ?side2 ?side3 ?side4 A12.out).mono ?_); (case sideG => exact (Kd.C_below HGL.out (sqB HB))); (case side1 => repeat (first | exact (Kd.R_reads' HO811.out).2.2 | (with_reducible refine Kd.C_alloc ?_ _) | (with_reducible refine Kd.C_drewN ?_ _) | (with_reducible refine Kd.C_drew ?_))); (case side2 => exact (Kd.R_reads' HO811.out).2.1); (case side3 => repeat (first | exact (Kd.R_reads' HO814.out).2.2 | (with_reducible refine Kd.C_alloc ?_ _) | (with_reducible refine Kd.C_drewN ?_ _) | (with_reducible refine Kd.C_drew ?_))); (case side4 => exact (Kd.R_reads' HO814.out).2.1); rintro e w53 ⟨v816, rfl, ho0, hb⟩; refine ⟨_, rfl, ?_⟩; replace HO774 := Aside0.mk (Kd.R_below (sqR HO774) hb); replace HO778 := Aside0.mk (Kd.R_below (sqR HO778) hb); replace HO781 := Aside0.mk (Kd.R_below (sqR HO781) hb); replace HO788 := Aside0.mk (Kd.R_below (sqR HO788) hb); replace HO794 := Aside0.mk (Kd.R_below (sqR HO794) hb); replace HO797 := Aside0.mk (Kd.R_below (sqR HO797) hb); replace HO804 := Aside0.mk (Kd.R_below (sqR HO804) hb); replace HO814 := Aside0.mk (Kd.R_below (sqR HO814) hb); have HO817 := Aside0.mk (Kd.R_lower (Kd.R_newB (Kd.R_new' (Kd.R_new' (Kd.R_new' (Kd.R_new' (Kd.R_new' ho0 (Kd.R_lt (sqR HO771))) (Kd.R_lt (sqR HO785))) (Kd.R_lt (sqR HO791))) (Kd.R_lt (sqR HO801))) (Kd.R_lt (sqR HO811))) (g := gb808) (o := .cells #[.int .i64 t805, .int .i64 t806] 41 (0, 0)) (sqK BK808)) (below_size (sqB HB))); replace HO771 := Aside0.mk (Kd.R_elder' (sqR HO771) (Kd.R_base ho0) hb); replace HO785 := Aside0.mk (Kd.R_elder' (sqR HO785) (Kd.R_base ho0) hb); replace HO791 := Aside0.mk (Kd.R_elder' (sqR HO791) (Kd.R_base ho0) hb); replace HO801 := Aside0.mk (Kd.R_elder' (sqR HO801) (Kd.R_base ho0) hb); replace HO811 := Aside0.mk (Kd.R_elder' (sqR HO811) (Kd.R_base ho0) hb); replace BK767 := sqk BK767 hb; replace BK768 := sqk BK768 hb; replace BK775 := sqk BK775 hb; replace BK808 := sqk BK808 hb; replace HB := sqb hb HB; (try clear hb); (try clear hb2); (try clear hk); (try clear hi); (try clear ho0)))
  (try simp only [Act.put, sqA])
  go_cut [110] (fun v110 wc => ∃ (kq : Nat) (x110_12 : Bool), v110 = .bool x110_12 ∧ Aside0 (lw_WoolThief.j0 kq (Int.tmod (wrap64 (a1_0)) (t769.length : Int)) t782 t795 t798 x110_12 t783 t786 t805 t806 = some r) ∧ Aside0 (kq ≤ k) ∧ Aside0 (Kd.R (Kd.int .i64) 3 wc w.heap.size (fun _ => True) v796 t795) ∧ Aside0 (Kd.R k41 41 wc w.heap.size (fun k_ => k_ ≠ gb808) (.slice Ao32 t783.length co32) t783) ∧ Aside0 (Kd.R k80 80 wc w.heap.size (fun _ => True) (.slice Ao34 t786.length co34) t786) ∧ Aside0 (wc.heap[gb767]? = some (.cells #[(.slice A0_0 l0_0.length c0_0), .int .u16 a0_1, (.slice A0_2 l0_2.length c0_2), (.slice A0_3 l0_3.length c0_3)] 69 (0, 0))) ∧ Aside0 (wc.heap[gb768]? = some (.cells #[.int .u8 a1_0, .int .u8 a1_1] 76 (0, 0))) ∧ Aside0 (wc.heap[gb775]? = some (.cells #[(.slice Ao32 t783.length co32), (.slice Ao34 t786.length co34)] 25 (0, 0))) ∧ Aside0 (wc.heap[gb808]? = some (.cells #[.int .i64 t805, .int .i64 t806] 41 (0, 0))) ∧ Aside0 (Below w.heap.size w wc))
  case first =>
   have H := HC13.out; clear HC13
   by_cases c54 : t807 = 0
   ·rw [if_pos c54] at H
    have c54b0 : (t807 == 0) = true := beq_iff_eq.mpr c54; have c54b1 : (t807 != 0) = false := bne_eq_false_iff_eq.mpr c54; clear c54
    (first | rw [c54b0] | (simp only [i64_w, i32_w]; rw [c54b0]) | skip)
    obtain ⟨t819, A550, H⟩ := Option.bind_eq_some_iff.mp H; have A55 := Aside0.mk A550; clear A550
    by_cases c56 : t819 = true
    ·subst c56
     rw [if_pos rfl] at H
     by_cases c57 : t805 < 0
     ·rw [if_pos c57] at H
      exact absurd H (by simp)
     ·rw [if_neg c57] at H
      have c57b0 : decide (t805 < 0) = false := decide_eq_false c57; clear c57
      by_cases c58 : ((t805 == 0) != (t818 == 0)) = true
      ·rw [if_pos c58] at H
       exact absurd H (by simp)
      ·rw [if_neg c58] at H
       have c58b0 : ((t805 == 0) != (t818 == 0)) = false := by simpa using c58
       (try (have c58b1 : decide ((t805 == 0) = (t818 == 0)) = true := by simpa using c58))
       (try (have c58b2 : ((t805 == 0) == (t818 == 0)) = true := by simpa using c58))
       clear c58
       by_cases c59 : t818 = 0
       ·rw [if_pos c59] at H
        have c59b0 : (t818 == 0) = true := beq_iff_eq.mpr c59
        have z_c58_c59 : (t805 == 0) = true := by have h_ := c58b0; rw [c59b0] at h_; simpa using h_
        have c59b1 : (t818 != 0) = false := bne_eq_false_iff_eq.mpr c59; clear c59
        by_cases c60 : ((t798 == 6) != (t818 == 0)) = true
        ·rw [if_pos c60] at H
         exact absurd H (by simp)
        ·rw [if_neg c60] at H
         have c60b0 : ((t798 == 6) != (t818 == 0)) = false := by simpa using c60
         have z_c60_c59 : (t798 == 6) = true := by have h_ := c60b0; rw [c59b0] at h_; simpa using h_
         (try (have c60b1 : decide ((t798 == 6) = (t818 == 0)) = true := by simpa using c60))
         (try (have c60b2 : ((t798 == 6) == (t818 == 0)) = true := by simpa using c60))
         clear c60
         by_cases c61 : t798 = 0
         ·rw [if_pos c61] at H
          exact absurd H (by simp)
         ·rw [if_neg c61] at H
          have c61b0 : (t798 == 0) = false := beq_eq_false_iff_ne.mpr c61; have c61b1 : (t798 != 0) = true := bne_iff_ne.mpr c61
          by_cases c62 : t798 = 6
          ·rw [if_pos c62] at H
           have c62b0 : (t798 == 6) = true := beq_iff_eq.mpr c62
           have z_c60_c62 : (t818 == 0) = true := by have h_ := c60b0; rw [c62b0] at h_; simpa using h_
           have c62b1 : (t798 != 6) = false := bne_eq_false_iff_eq.mpr c62; clear c62; have H' := Aside0.mk H; clear H; have hnb63 := NB808_767.out; have hnc63 := NB767_808.out; have hnb64 := NB808_768.out; have hnc64 := NB768_808.out; have hnb65 := NB808_775.out; have hnc65 := NB775_808.out; have hcz66_0 := sqc0 BK808; have hcz66_1 := sqc1 BK808; have hfz66_0 := blk_frozen BK808.out 0; have hfz66_1 := blk_frozen BK808.out 1
           go_wp2_with (first | (go_at_call 49; (with_reducible refine (lw_in.calls t782 t805 t806 true _ A55.out).mono ?_); rintro e w67 ⟨rfl, hb⟩; replace HO771 := Aside0.mk (Kd.R_below (sqR HO771) hb); replace HO774 := Aside0.mk (Kd.R_below (sqR HO774) hb); replace HO778 := Aside0.mk (Kd.R_below (sqR HO778) hb); replace HO781 := Aside0.mk (Kd.R_below (sqR HO781) hb); replace HO785 := Aside0.mk (Kd.R_below (sqR HO785) hb); replace HO788 := Aside0.mk (Kd.R_below (sqR HO788) hb); replace HO791 := Aside0.mk (Kd.R_below (sqR HO791) hb); replace HO794 := Aside0.mk (Kd.R_below (sqR HO794) hb); replace HO797 := Aside0.mk (Kd.R_below (sqR HO797) hb); replace HO801 := Aside0.mk (Kd.R_below (sqR HO801) hb); replace HO804 := Aside0.mk (Kd.R_below (sqR HO804) hb); replace HO811 := Aside0.mk (Kd.R_below (sqR HO811) hb); replace HO814 := Aside0.mk (Kd.R_below (sqR HO814) hb); replace HO817 := Aside0.mk (Kd.R_below (sqR HO817) hb); replace BK767 := sqk BK767 hb; replace BK768 := sqk BK768 hb; replace BK775 := sqk BK775 hb; replace BK808 := sqk BK808 hb; replace HB := sqb hb HB; (try clear hb); (try clear hb2); (try clear hk); (try clear hi); have hcz68_0 := sqc0 BK808; have hcz68_1 := sqc1 BK808; have hfz68_0 := blk_frozen BK808.out 0; have hfz68_1 := blk_frozen BK808.out 1; obtain ⟨Ao69, co69, eo69⟩ := Kd.R_slice HO797.out; subst eo69))
           go_meet
           case rel => exact ⟨_, (((t795.length : Int) != 0)), sqE, H', ⟨by first | omega | exact Nat.le_refl _⟩, ⟨by (with_reducible repeat (first | apply Kd.R_alloc | apply Kd.R_drewN | apply Kd.R_drew)); exact Kd.R_mono HO797.out (fun _ hk => trivial)⟩, ⟨by (with_reducible repeat (first | apply Kd.R_alloc | apply Kd.R_drewN | apply Kd.R_drew)); exact Kd.R_mono HO785.out (fun _ hk => hk.1.1.2)⟩, ⟨by (with_reducible repeat (first | apply Kd.R_alloc | apply Kd.R_drewN | apply Kd.R_drew)); exact Kd.R_mono HO788.out (fun _ hk => trivial)⟩, ⟨sqK BK767⟩, ⟨sqK BK768⟩, ⟨sqK BK775⟩, ⟨sqK BK808⟩, ⟨sqB HB⟩⟩
          ·rw [if_neg c62] at H
           exact absurd H (by simp)
       ·rw [if_neg c59] at H
        have c59b0 : (t818 == 0) = false := beq_eq_false_iff_ne.mpr c59
        have z_c58_c59 : (t805 == 0) = false := by have h_ := c58b0; rw [c59b0] at h_; simpa using h_
        have c59b1 : (t818 != 0) = true := bne_iff_ne.mpr c59
        by_cases c70 : t818 = 9
        ·rw [if_pos c70] at H
         have c70b0 : (t818 == 9) = true := beq_iff_eq.mpr c70
         have z_c58_c70 : (t805 == 0) = false := by have h_ := c58b0; rw [show (t818 == 0) = false from by rw [eq_of_beq c70b0]; rfl] at h_; simpa using h_
         have c70b1 : (t818 != 9) = false := bne_eq_false_iff_eq.mpr c70; clear c70
         by_cases c71 : ((t798 == 6) != (t818 == 0)) = true
         ·rw [if_pos c71] at H
          exact absurd H (by simp)
         ·rw [if_neg c71] at H
          have c71b0 : ((t798 == 6) != (t818 == 0)) = false := by simpa using c71
          have z_c71_c59 : (t798 == 6) = false := by have h_ := c71b0; rw [c59b0] at h_; simpa using h_
          (try (have c71b1 : decide ((t798 == 6) = (t818 == 0)) = true := by simpa using c71))
          (try (have c71b2 : ((t798 == 6) == (t818 == 0)) = true := by simpa using c71))
          clear c71
          by_cases c72 : t798 = 0
          ·rw [if_pos c72] at H
           have c72b0 : (t798 == 0) = true := beq_iff_eq.mpr c72
           have z_c71_c72 : (t818 == 0) = false := by have h_ := c71b0; rw [show (t798 == 6) = false from by rw [eq_of_beq c72b0]; rfl] at h_; simpa using h_
           have c72b1 : (t798 != 0) = false := bne_eq_false_iff_eq.mpr c72; clear c72; have H' := Aside0.mk H; clear H; have hnb73 := NB808_767.out; have hnc73 := NB767_808.out; have hnb74 := NB808_768.out; have hnc74 := NB768_808.out; have hnb75 := NB808_775.out; have hnc75 := NB775_808.out; have hcz76_0 := sqc0 BK808; have hcz76_1 := sqc1 BK808; have hfz76_0 := blk_frozen BK808.out 0; have hfz76_1 := blk_frozen BK808.out 1
           go_wp2_with (first | (go_at_call 49; (with_reducible refine (lw_in.calls t782 t805 t806 true _ A55.out).mono ?_); rintro e w77 ⟨rfl, hb⟩; replace HO771 := Aside0.mk (Kd.R_below (sqR HO771) hb); replace HO774 := Aside0.mk (Kd.R_below (sqR HO774) hb); replace HO778 := Aside0.mk (Kd.R_below (sqR HO778) hb); replace HO781 := Aside0.mk (Kd.R_below (sqR HO781) hb); replace HO785 := Aside0.mk (Kd.R_below (sqR HO785) hb); replace HO788 := Aside0.mk (Kd.R_below (sqR HO788) hb); replace HO791 := Aside0.mk (Kd.R_below (sqR HO791) hb); replace HO794 := Aside0.mk (Kd.R_below (sqR HO794) hb); replace HO797 := Aside0.mk (Kd.R_below (sqR HO797) hb); replace HO801 := Aside0.mk (Kd.R_below (sqR HO801) hb); replace HO804 := Aside0.mk (Kd.R_below (sqR HO804) hb); replace HO811 := Aside0.mk (Kd.R_below (sqR HO811) hb); replace HO814 := Aside0.mk (Kd.R_below (sqR HO814) hb); replace HO817 := Aside0.mk (Kd.R_below (sqR HO817) hb); replace BK767 := sqk BK767 hb; replace BK768 := sqk BK768 hb; replace BK775 := sqk BK775 hb; replace BK808 := sqk BK808 hb; replace HB := sqb hb HB; (try clear hb); (try clear hb2); (try clear hk); (try clear hi); have hcz78_0 := sqc0 BK808; have hcz78_1 := sqc1 BK808; have hfz78_0 := blk_frozen BK808.out 0; have hfz78_1 := blk_frozen BK808.out 1))
           go_meet
           case rel => exact ⟨_, (false), sqE, H', ⟨by first | omega | exact Nat.le_refl _⟩, ⟨by (with_reducible repeat (first | apply Kd.R_alloc | apply Kd.R_drewN | apply Kd.R_drew)); exact Kd.R_mono HO797.out (fun _ hk => trivial)⟩, ⟨by (with_reducible repeat (first | apply Kd.R_alloc | apply Kd.R_drewN | apply Kd.R_drew)); exact Kd.R_mono HO785.out (fun _ hk => hk.1.1.2)⟩, ⟨by (with_reducible repeat (first | apply Kd.R_alloc | apply Kd.R_drewN | apply Kd.R_drew)); exact Kd.R_mono HO788.out (fun _ hk => trivial)⟩, ⟨sqK BK767⟩, ⟨sqK BK768⟩, ⟨sqK BK775⟩, ⟨sqK BK808⟩, ⟨sqB HB⟩⟩
          ·rw [if_neg c72] at H
           exact absurd H (by simp)
        ·rw [if_neg c70] at H
         exact absurd H (by simp)
    ·replace c56 := Bool.eq_false_iff.mpr c56
     subst c56; rw [if_neg Bool.false_ne_true] at H; exact absurd H (by simp)
   ·rw [if_neg c54] at H
    exact absurd H (by simp)
  case rest =>
   clear HC13; try clear c4
   (try clear c4b0); (try clear c4b1); (try clear c4b2); (try clear hcz17_0); (try clear hcz17_1); (try clear hcz17_2); (try clear hcz17_3); (try clear hcz23_0); (try clear hcz23_1); (try clear hcz25_0); (try clear hcz25_1); (try clear hcz26_0); (try clear hcz26_1); (try clear hcz26_2); (try clear hcz26_3); (try clear hcz28_0); (try clear hcz28_1); (try clear hcz28_2); (try clear hcz28_3); (try clear hcz29_0); (try clear hcz29_1); (try clear hcz33_0); (try clear hcz33_1); (try clear hcz39_0); (try clear hcz39_1); (try clear hcz48_0); (try clear hcz48_1); (try clear hcz49_0); (try clear hcz49_1); (try clear hfz17_0); (try clear hfz17_1); (try clear hfz17_2); (try clear hfz17_3); (try clear hfz23_0); (try clear hfz23_1); (try clear hfz25_0); (try clear hfz25_1); (try clear hfz26_0); (try clear hfz26_1); (try clear hfz26_2); (try clear hfz26_3); (try clear hfz28_0); (try clear hfz28_1); (try clear hfz28_2); (try clear hfz28_3); (try clear hfz29_0); (try clear hfz29_1); (try clear hfz33_0); (try clear hfz33_1); (try clear hfz39_0); (try clear hfz39_1); (try clear hfz48_0); (try clear hfz48_1); (try clear hfz49_0); (try clear hfz49_1); obtain ⟨kq, x110_12, rfl, HA, HJ12, HO_10, HO_776000, HO_776001, BK767, BK768, BK775, BK808, HB⟩ := hcut
   cases kq with
   | zero => exact absurd HA.out (by simp [lw_WoolThief.j0])
   | succ kj12 =>
    have H := HA.out; clear HA; simp only [lw_WoolThief.j0] at H
    by_cases c79 : x110_12 = true
    ·subst c79
     rw [if_pos rfl] at H; exact absurd H (by simp)
    ·replace c79 := Bool.eq_false_iff.mpr c79
     subst c79; rw [if_neg Bool.false_ne_true] at H
     by_cases c80 : t782 = 0
     ·rw [if_pos c80] at H
      have c80b0 : (t782 == 0) = true := beq_iff_eq.mpr c80; have c80b1 : (t782 != 0) = false := bne_eq_false_iff_eq.mpr c80; clear c80
      by_cases c81 : t798 = 6
      ·rw [if_pos c81] at H
       have c81b0 : (t798 == 6) = true := beq_iff_eq.mpr c81; have c81b1 : (t798 != 6) = false := bne_eq_false_iff_eq.mpr c81; clear c81; obtain ⟨t820, A820, H⟩ := Option.bind_eq_some_iff.mp H; have A82 := Aside0.mk A820; clear A820; obtain rfl := Option.some.inj H
       go_wp2_with (first | (go_at_call 17; (with_reducible refine (lw_known.calls t820 _ ?sideG A82.out).mono ?_); (case sideG => exact (Kd.C_below HGL.out (sqB HB))); rintro e w83 ⟨rfl, hb⟩; replace HO_10 := Aside0.mk (Kd.R_below (sqR HO_10) hb); replace HO_776000 := Aside0.mk (Kd.R_below (sqR HO_776000) hb); replace HO_776001 := Aside0.mk (Kd.R_below (sqR HO_776001) hb); replace BK767 := sqk BK767 hb; replace BK768 := sqk BK768 hb; replace BK775 := sqk BK775 hb; replace BK808 := sqk BK808 hb; replace HB := sqb hb HB; (try clear hb); (try clear hb2); (try clear hk); (try clear hi)))
       go_ret
       exact ⟨by first | rfl | (simp [errW_none, errW_some] <;> rfl) | (simp [*, errW_none, errW_some] <;> rfl), sqB HB⟩
      ·rw [if_neg c81] at H
       exact absurd H (by simp)
     ·rw [if_neg c80] at H
      have c80b0 : (t782 == 0) = false := beq_eq_false_iff_ne.mpr c80; have c80b1 : (t782 != 0) = true := bne_iff_ne.mpr c80; have HC84 := Aside0.mk H
      clear H; go_upto_region 12 with (fail)
      go_cut [125] (fun v125 wc => ∃ (kq : Nat) (x125_83 : Bool), v125 = .bool x125_83 ∧ Aside0 (lw_WoolThief.j1 kq (Int.tmod (wrap64 (a1_0)) (t769.length : Int)) t782 t795 t798 x125_83 t783 t786 t805 t806 = some r) ∧ Aside0 (kq ≤ kj12) ∧ Aside0 (Kd.R (Kd.int .i64) 3 wc w.heap.size (fun _ => True) v796 t795) ∧ Aside0 (Kd.R k41 41 wc w.heap.size (fun k_ => k_ ≠ gb808) (.slice Ao32 t783.length co32) t783) ∧ Aside0 (Kd.R k80 80 wc w.heap.size (fun _ => True) (.slice Ao34 t786.length co34) t786) ∧ Aside0 (wc.heap[gb767]? = some (.cells #[(.slice A0_0 l0_0.length c0_0), .int .u16 a0_1, (.slice A0_2 l0_2.length c0_2), (.slice A0_3 l0_3.length c0_3)] 69 (0, 0))) ∧ Aside0 (wc.heap[gb768]? = some (.cells #[.int .u8 a1_0, .int .u8 a1_1] 76 (0, 0))) ∧ Aside0 (wc.heap[gb775]? = some (.cells #[(.slice Ao32 t783.length co32), (.slice Ao34 t786.length co34)] 25 (0, 0))) ∧ Aside0 (wc.heap[gb808]? = some (.cells #[.int .i64 t805, .int .i64 t806] 41 (0, 0))) ∧ Aside0 (Below w.heap.size w wc))
      case first =>
       have H := HC84.out; clear HC84
       by_cases c85 : t798 = 0
       ·rw [if_pos c85] at H
        have c85b0 : (t798 == 0) = true := beq_iff_eq.mpr c85; have c85b1 : (t798 != 0) = false := bne_eq_false_iff_eq.mpr c85; clear c85
        (first | rw [c85b0] | (simp only [i64_w, i32_w]; rw [c85b0]) | skip)
        obtain ⟨t821, A860, H⟩ := Option.bind_eq_some_iff.mp H; have A86 := Aside0.mk A860; clear A860; have H' := Aside0.mk H; clear H; obtain ⟨Ao87, co87, eo87⟩ := Kd.R_slice HO_10.out; subst eo87
        go_wp2_with (first | (go_at_call 50; (with_reducible refine (lw_has.calls kj12 _ _ t795 (Int.tmod (wrap64 (a1_0)) (t769.length : Int)) t821 _ ?side1 ?side2 A86.out).mono ?_); (case side1 => repeat (first | exact (Kd.R_reads' HO_10.out).2.2 | (with_reducible refine Kd.C_alloc ?_ _) | (with_reducible refine Kd.C_drewN ?_ _) | (with_reducible refine Kd.C_drew ?_))); (case side2 => exact (Kd.R_reads' HO_10.out).2.1); rintro e w' ⟨rfl, ⟨nd, rfl⟩⟩))
        go_meet
        case rel => exact ⟨_, (!t821), sqE, H', ⟨by have := HJ12.out; first | omega | exact Nat.le_refl _⟩, ⟨sqR HO_10⟩, ⟨sqR HO_776000⟩, ⟨sqR HO_776001⟩, ⟨sqK BK767⟩, ⟨sqK BK768⟩, ⟨sqK BK775⟩, ⟨sqK BK808⟩, ⟨sqB HB⟩⟩
       ·rw [if_neg c85] at H
        have c85b0 : (t798 == 0) = false := beq_eq_false_iff_ne.mpr c85; have c85b1 : (t798 != 0) = true := bne_iff_ne.mpr c85
        (first | rw [c85b0] | (simp only [i64_w, i32_w]; rw [c85b0]) | skip)
        have H' := Aside0.mk H; clear H; go_wp2
        go_meet
        case rel => exact ⟨_, (false), sqE, H', ⟨by have := HJ12.out; first | omega | exact Nat.le_refl _⟩, ⟨sqR HO_10⟩, ⟨sqR HO_776000⟩, ⟨sqR HO_776001⟩, ⟨sqK BK767⟩, ⟨sqK BK768⟩, ⟨sqK BK775⟩, ⟨sqK BK808⟩, ⟨sqB HB⟩⟩
      case rest =>
       clear HC84; try clear c79
       (try clear c80); (try clear c80b0); (try clear c80b1); obtain ⟨kq, x125_83, rfl, HA, HJ83, HO_10, HO_776000, HO_776001, BK767, BK768, BK775, BK808, HB⟩ := hcut
       cases kq with
       | zero => exact absurd HA.out (by simp [lw_WoolThief.j1])
       | succ kj83 =>
        have H := HA.out; clear HA; simp only [lw_WoolThief.j1] at H
        by_cases c88 : x125_83 = true
        ·subst c88
         rw [if_pos rfl] at H; exact absurd H (by simp)
        ·replace c88 := Bool.eq_false_iff.mpr c88
         subst c88; rw [if_neg Bool.false_ne_true] at H; have H' := Aside0.mk H; clear H; go_wp2
         go_loopg [16] kj83 (fun kq v16 w' => ∃ (x16_3 : Int), v16 = .int .i64 x16_3 ∧ Aside0 (lw_WoolThief.l0 kq (Int.tmod (wrap64 (a1_0)) (t769.length : Int)) t782 t795 t798 x16_3 t783 t786 t805 t806 = some r) ∧ Aside0 (kq ≤ kj83) ∧ Aside0 (Kd.R (Kd.int .i64) 3 w' w.heap.size (fun _ => True) v796 t795) ∧ Aside0 (Kd.R k41 41 w' w.heap.size (fun k_ => k_ ≠ gb808) (.slice Ao32 t783.length co32) t783) ∧ Aside0 (Kd.R k80 80 w' w.heap.size (fun _ => True) (.slice Ao34 t786.length co34) t786) ∧ Aside0 (w'.heap[gb767]? = some (.cells #[(.slice A0_0 l0_0.length c0_0), .int .u16 a0_1, (.slice A0_2 l0_2.length c0_2), (.slice A0_3 l0_3.length c0_3)] 69 (0, 0))) ∧ Aside0 (w'.heap[gb768]? = some (.cells #[.int .u8 a1_0, .int .u8 a1_1] 76 (0, 0))) ∧ Aside0 (w'.heap[gb775]? = some (.cells #[(.slice Ao32 t783.length co32), (.slice Ao34 t786.length co34)] 25 (0, 0))) ∧ Aside0 (w'.heap[gb808]? = some (.cells #[.int .i64 t805, .int .i64 t806] 41 (0, 0))) ∧ Aside0 (Below w.heap.size w w'))
         case atStart => exact ⟨(0), sqE, H', ⟨Nat.le_refl _⟩, ⟨sqR HO_10⟩, ⟨sqR HO_776000⟩, ⟨sqR HO_776001⟩, ⟨sqK BK767⟩, ⟨sqK BK768⟩, ⟨sqK BK775⟩, ⟨sqK BK808⟩, ⟨sqB HB⟩⟩
         case round =>
          clear H'; try clear c88
          obtain ⟨x16_3, rfl, HA, HK3, HO_10, HO_776000, HO_776001, BK767, BK768, BK775, BK808, HB⟩ := hrel
          cases gk with
          | zero => exact absurd HA.out (by simp [lw_WoolThief.l0])
          | succ k3 =>
           have H := HA.out; clear HA; simp only [lw_WoolThief.l0] at H
           by_cases c89 : x16_3 < (t783.length : Int)
           ·rw [if_pos c89] at H
            have c89b0 : decide (x16_3 < (t783.length : Int)) = true := decide_eq_true c89; clear c89; obtain ⟨⟨t823, t826⟩, A900, H⟩ := Option.bind_eq_some_iff.mp H; replace H : ((wool_Amount.f t823 t826 x16_3).bind fun bt829 => (if bt829.2.2 = 0 then (if x16_3 = (Int.tmod (wrap64 (a1_0)) (t769.length : Int)) then ((lw_in.f t782 bt829.1 bt829.2.1).bind fun t833 => (if t833 = true then (if t798 = 0 then ((lw_has.f k3 t795 x16_3).bind fun t834 => (lw_WoolThief.j3 k3 (Int.tmod (wrap64 (a1_0)) (t769.length : Int)) t782 t795 t798 x16_3 bt829.2.2 (t834 != (bt829.2.2 == 0)) t783 t786 t805 t806 bt829.1 bt829.2.1)) else (lw_WoolThief.j3 k3 (Int.tmod (wrap64 (a1_0)) (t769.length : Int)) t782 t795 t798 x16_3 bt829.2.2 false t783 t786 t805 t806 bt829.1 bt829.2.1)) else (none))) else (if t798 = 0 then ((lw_has.f k3 t795 x16_3).bind fun t835 => (lw_WoolThief.j3 k3 (Int.tmod (wrap64 (a1_0)) (t769.length : Int)) t782 t795 t798 x16_3 bt829.2.2 (t835 != (bt829.2.2 == 0)) t783 t786 t805 t806 bt829.1 bt829.2.1)) else (lw_WoolThief.j3 k3 (Int.tmod (wrap64 (a1_0)) (t769.length : Int)) t782 t795 t798 x16_3 bt829.2.2 false t783 t786 t805 t806 bt829.1 bt829.2.1))) else (if bt829.2.2 = 9 then (if (!(bt829.1 == 0) || (!(bt829.2.1 == 0))) = true then (none) else (if x16_3 = (Int.tmod (wrap64 (a1_0)) (t769.length : Int)) then (none) else (if t798 = 0 then ((lw_has.f k3 t795 x16_3).bind fun t836 => (lw_WoolThief.j3 k3 (Int.tmod (wrap64 (a1_0)) (t769.length : Int)) t782 t795 t798 x16_3 bt829.2.2 (t836 != (bt829.2.2 == 0)) t783 t786 t805 t806 bt829.1 bt829.2.1)) else (lw_WoolThief.j3 k3 (Int.tmod (wrap64 (a1_0)) (t769.length : Int)) t782 t795 t798 x16_3 bt829.2.2 false t783 t786 t805 t806 bt829.1 bt829.2.1)))) else (none)))) = some r := H; have A90 := Aside0.mk A900; clear A900; obtain ⟨⟨t829, t830, t831⟩, A910, H⟩ := Option.bind_eq_some_iff.mp H; replace H : (if t831 = 0 then (if x16_3 = (Int.tmod (wrap64 (a1_0)) (t769.length : Int)) then ((lw_in.f t782 t829 t830).bind fun t833 => (if t833 = true then (if t798 = 0 then ((lw_has.f k3 t795 x16_3).bind fun t834 => (lw_WoolThief.j3 k3 (Int.tmod (wrap64 (a1_0)) (t769.length : Int)) t782 t795 t798 x16_3 t831 (t834 != (t831 == 0)) t783 t786 t805 t806 t829 t830)) else (lw_WoolThief.j3 k3 (Int.tmod (wrap64 (a1_0)) (t769.length : Int)) t782 t795 t798 x16_3 t831 false t783 t786 t805 t806 t829 t830)) else (none))) else (if t798 = 0 then ((lw_has.f k3 t795 x16_3).bind fun t835 => (lw_WoolThief.j3 k3 (Int.tmod (wrap64 (a1_0)) (t769.length : Int)) t782 t795 t798 x16_3 t831 (t835 != (t831 == 0)) t783 t786 t805 t806 t829 t830)) else (lw_WoolThief.j3 k3 (Int.tmod (wrap64 (a1_0)) (t769.length : Int)) t782 t795 t798 x16_3 t831 false t783 t786 t805 t806 t829 t830))) else (if t831 = 9 then (if (!(t829 == 0) || (!(t830 == 0))) = true then (none) else (if x16_3 = (Int.tmod (wrap64 (a1_0)) (t769.length : Int)) then (none) else (if t798 = 0 then ((lw_has.f k3 t795 x16_3).bind fun t836 => (lw_WoolThief.j3 k3 (Int.tmod (wrap64 (a1_0)) (t769.length : Int)) t782 t795 t798 x16_3 t831 (t836 != (t831 == 0)) t783 t786 t805 t806 t829 t830)) else (lw_WoolThief.j3 k3 (Int.tmod (wrap64 (a1_0)) (t769.length : Int)) t782 t795 t798 x16_3 t831 false t783 t786 t805 t806 t829 t830)))) else (none))) = some r := H
            have A91 := Aside0.mk A910; clear A910; have HC92 := Aside0.mk H; clear H; have hnb93 := NB775_767.out; have hnc93 := NB767_775.out; have hnb94 := NB775_768.out; have hnc94 := NB768_775.out; have hnb95 := NB775_808.out; have hnc95 := NB808_775.out; have hcz96_0 := sqc0 BK775; have hcz96_1 := sqc1 BK775; have hfz96_0 := blk_frozen BK775.out 0; have hfz96_1 := blk_frozen BK775.out 1
            go_upto_region 18 with (first | ((with_reducible refine gate_callee (f := 48) rfl ?_); refine goesL_ (some 135) rfl rfl Tryd.func48 sqF rfl #[.agg #[.slice Ao32 t783.length co32, .slice Ao34 t786.length co34]] rfl sqM ?_; (with_reducible refine (lw_own.calls _ _ t783 _ _ t786 t823 t826 _ ?side1 ?side2 ?side3 ?side4 A90.out).mono ?_); (case side1 => repeat (first | exact (Kd.R_reads' HO_776000.out).2.2 | (with_reducible refine Kd.C_alloc ?_ _) | (with_reducible refine Kd.C_drewN ?_ _) | (with_reducible refine Kd.C_drew ?_))); (case side2 => exact (Kd.R_reads' HO_776000.out).2.1); (case side3 => repeat (first | exact (Kd.R_reads' HO_776001.out).2.2 | (with_reducible refine Kd.C_alloc ?_ _) | (with_reducible refine Kd.C_drewN ?_ _) | (with_reducible refine Kd.C_drew ?_))); (case side4 => exact (Kd.R_reads' HO_776001.out).2.1); rintro e w97 ⟨v824, v827, rfl, ho0, ho1, hb⟩; refine ⟨_, rfl, ?_⟩; replace HO_10 := Aside0.mk (Kd.R_below (sqR HO_10) hb); have HO825 := Aside0.mk (Kd.R_lower (Kd.R_newB (Kd.R_new' ho0 (Kd.R_lt (sqR HO_776000))) (g := gb808) (o := .cells #[.int .i64 t805, .int .i64 t806] 41 (0, 0)) (sqK BK808)) (below_size (sqB HB))); replace HO_776000 := Aside0.mk (Kd.R_elder' (sqR HO_776000) (Kd.R_base ho0) hb); have HO828 := Aside0.mk (Kd.R_lower (Kd.R_new' ho1 (Kd.R_lt (sqR HO_776001))) (below_size (sqB HB))); replace HO_776001 := Aside0.mk (Kd.R_elder' (sqR HO_776001) (Kd.R_base ho1) hb); replace BK767 := sqk BK767 hb; replace BK768 := sqk BK768 hb; replace BK775 := sqk BK775 hb; replace BK808 := sqk BK808 hb; replace HB := sqb hb HB; (try clear hb); (try clear hb2); (try clear hk); (try clear hi); (try clear ho0); (try clear ho1); obtain ⟨Ao98, co98, eo98⟩ := Kd.R_slice HO825.out; subst eo98; obtain ⟨Ao99, co99, eo99⟩ := Kd.R_slice HO828.out; subst eo99) | ((with_reducible refine gate_callee (f := 32) rfl ?_); refine goesL_ (some 137) rfl rfl Tryd.func32 sqF rfl #[.agg #[.slice Ao98 t823.length co98, .slice Ao99 t826.length co99], .int .i64 x16_3] rfl sqM ?_; (with_reducible refine (wool_Amount.calls _ _ t823 _ _ t826 x16_3 t829 t830 t831 _ ?sideG ?side1 ?side2 ?side3 ?side4 A91.out).mono ?_); (case sideG => exact (Kd.C_below HGL.out (sqB HB))); (case side1 => repeat (first | exact (Kd.R_reads' HO825.out).2.2 | (with_reducible refine Kd.C_alloc ?_ _) | (with_reducible refine Kd.C_drewN ?_ _) | (with_reducible refine Kd.C_drew ?_))); (case side2 => exact (Kd.R_reads' HO825.out).2.1); (case side3 => repeat (first | exact (Kd.R_reads' HO828.out).2.2 | (with_reducible refine Kd.C_alloc ?_ _) | (with_reducible refine Kd.C_drewN ?_ _) | (with_reducible refine Kd.C_drew ?_))); (case side4 => exact (Kd.R_reads' HO828.out).2.1); rintro e w100 ⟨rfl, hb⟩; refine ⟨_, rfl, ?_⟩; replace HO_10 := Aside0.mk (Kd.R_below (sqR HO_10) hb); replace HO_776000 := Aside0.mk (Kd.R_below (sqR HO_776000) hb); replace HO_776001 := Aside0.mk (Kd.R_below (sqR HO_776001) hb); replace HO825 := Aside0.mk (Kd.R_below (sqR HO825) hb); replace HO828 := Aside0.mk (Kd.R_below (sqR HO828) hb); replace BK767 := sqk BK767 hb; replace BK768 := sqk BK768 hb; replace BK775 := sqk BK775 hb; replace BK808 := sqk BK808 hb; replace HB := sqb hb HB; (try clear hb); (try clear hb2); (try clear hk); (try clear hi)) | ((with_reducible refine gate_dst (N := 17) rfl ?_); (try (refine gate_guard (by rfl) ?_; dsimp only)); refine box_event ?hg (N := 17) ?hd (cs := #[.int .i64 0, .int .i64 0]) (t := 41) ?hr ?_; (case hd => rfl); (case hg => rfl); (case hr => first | (go_simp; done) | (go_simp; rfl)); intro gb832 hg w101 hbox hb; replace HO_10 := Aside0.mk (Kd.R_below (sqR HO_10) hb); replace HO_776000 := Aside0.mk (Kd.R_below (Kd.R_elderB (sqR HO_776000) gb832 (Nat.le_of_eq hg.symm)) hb); replace HO_776001 := Aside0.mk (Kd.R_below (sqR HO_776001) hb); replace HO825 := Aside0.mk (Kd.R_below (Kd.R_elderB (sqR HO825) gb832 (Nat.le_of_eq hg.symm)) hb); replace HO828 := Aside0.mk (Kd.R_below (sqR HO828) hb); have BK832 := Aside0.mk (hbox); have GW832 := Aside0.mk (sqZ hg HB); have GE832 := Aside0.mk (sqZ hg HB); replace HB := sqb hb HB; have NB767_832 := Aside0.mk (sqL hg BK767); have NB832_767 := Aside0.mk (sqG hg BK767); replace BK767 := sqk BK767 hb; have NB768_832 := Aside0.mk (sqL hg BK768); have NB832_768 := Aside0.mk (sqG hg BK768); replace BK768 := sqk BK768 hb; have NB775_832 := Aside0.mk (sqL hg BK775); have NB832_775 := Aside0.mk (sqG hg BK775); replace BK775 := sqk BK775 hb; have NB808_832 := Aside0.mk (sqL hg BK808); have NB832_808 := Aside0.mk (sqG hg BK808); replace BK808 := sqk BK808 hb; clear hb hbox hg; have hnb102 := NB832_767.out; have hnc102 := NB767_832.out; have hnb103 := NB832_768.out; have hnc103 := NB768_832.out; have hnb104 := NB832_775.out; have hnc104 := NB775_832.out; have hnb105 := NB832_808.out; have hnc105 := NB808_832.out; have hcz106_0 := sqc0 BK832; have hcz106_1 := sqc1 BK832; have hfz106_0 := blk_frozen BK832.out 0; have hfz106_1 := blk_frozen BK832.out 1))
            (try simp only [Act.put, sqA])
            go_cut [177] (fun v177 wc => ∃ (kq : Nat) (x177_91 : Bool), v177 = .bool x177_91 ∧ Aside0 (lw_WoolThief.j3 kq (Int.tmod (wrap64 (a1_0)) (t769.length : Int)) t782 t795 t798 x16_3 t831 x177_91 t783 t786 t805 t806 t829 t830 = some r) ∧ Aside0 (kq ≤ k3) ∧ Aside0 (Kd.R (Kd.int .i64) 3 wc w.heap.size (fun _ => True) v796 t795) ∧ Aside0 (Kd.R k41 41 wc w.heap.size (fun k_ => k_ ≠ gb808 ∧ k_ ≠ gb832) (.slice Ao32 t783.length co32) t783) ∧ Aside0 (Kd.R k80 80 wc w.heap.size (fun _ => True) (.slice Ao34 t786.length co34) t786) ∧ Aside0 (wc.heap[gb767]? = some (.cells #[(.slice A0_0 l0_0.length c0_0), .int .u16 a0_1, (.slice A0_2 l0_2.length c0_2), (.slice A0_3 l0_3.length c0_3)] 69 (0, 0))) ∧ Aside0 (wc.heap[gb768]? = some (.cells #[.int .u8 a1_0, .int .u8 a1_1] 76 (0, 0))) ∧ Aside0 (wc.heap[gb775]? = some (.cells #[(.slice Ao32 t783.length co32), (.slice Ao34 t786.length co34)] 25 (0, 0))) ∧ Aside0 (wc.heap[gb808]? = some (.cells #[.int .i64 t805, .int .i64 t806] 41 (0, 0))) ∧ Aside0 (wc.heap[gb832]? = some (.cells #[.int .i64 t829, .int .i64 t830] 41 (0, 0))) ∧ Aside0 (Below w.heap.size w wc))
            case first =>
             have H := HC92.out; clear HC92
             by_cases c107 : t831 = 0
             ·rw [if_pos c107] at H
              have c107b0 : (t831 == 0) = true := beq_iff_eq.mpr c107; have c107b1 : (t831 != 0) = false := bne_eq_false_iff_eq.mpr c107; clear c107
              (first | rw [c107b0] | (simp only [i64_w, i32_w]; rw [c107b0]) | skip)
              by_cases c108 : x16_3 = (Int.tmod (wrap64 (a1_0)) (t769.length : Int))
              ·rw [if_pos c108] at H
               have c108b0 : (x16_3 == (Int.tmod (wrap64 (a1_0)) (t769.length : Int))) = true := beq_iff_eq.mpr c108; have c108b1 : (x16_3 != (Int.tmod (wrap64 (a1_0)) (t769.length : Int))) = false := bne_eq_false_iff_eq.mpr c108; clear c108; obtain ⟨t833, A1090, H⟩ := Option.bind_eq_some_iff.mp H; have A109 := Aside0.mk A1090; clear A1090
               by_cases c110 : t833 = true
               ·subst c110
                rw [if_pos rfl] at H
                by_cases c111 : t798 = 0
                ·rw [if_pos c111] at H
                 have c111b0 : (t798 == 0) = true := beq_iff_eq.mpr c111; have c111b1 : (t798 != 0) = false := bne_eq_false_iff_eq.mpr c111; clear c111; obtain ⟨t834, A1120, H⟩ := Option.bind_eq_some_iff.mp H; have A112 := Aside0.mk A1120; clear A1120; have H' := Aside0.mk H; clear H; have hnb113 := NB832_767.out; have hnc113 := NB767_832.out; have hnb114 := NB832_768.out; have hnc114 := NB768_832.out; have hnb115 := NB832_775.out; have hnc115 := NB775_832.out; have hnb116 := NB832_808.out; have hnc116 := NB808_832.out; have hcz117_0 := sqc0 BK832; have hcz117_1 := sqc1 BK832; have hfz117_0 := blk_frozen BK832.out 0; have hfz117_1 := blk_frozen BK832.out 1
                 go_wp2_with (first | (go_at_call 49; (with_reducible refine (lw_in.calls t782 t829 t830 true _ A109.out).mono ?_); rintro e w118 ⟨rfl, hb⟩; replace HO_10 := Aside0.mk (Kd.R_below (by (with_reducible repeat (first | apply Kd.R_alloc | apply Kd.R_drewN | apply Kd.R_drew)); exact (Kd.R_mono (Kd.R_far (p := ⟨gb832, 1, none⟩) (Kd.R_far (p := ⟨gb832, 0, none⟩) (Kd.R_types HO_10.out BK832.out (by decide)) (fun _ hk => hk.2) (.int .i64 t829)) (fun _ hk => hk.2) (.int .i64 t830)) (fun _ h_ => h_.1))) hb); replace HO_776000 := Aside0.mk (Kd.R_below (by (with_reducible repeat (first | apply Kd.R_alloc | apply Kd.R_drewN | apply Kd.R_drew)); exact (Kd.R_mono (Kd.R_far (p := ⟨gb832, 1, none⟩) (Kd.R_far (p := ⟨gb832, 0, none⟩) (Kd.R_mono HO_776000.out (fun k_ hk => (⟨hk, hk.2⟩ : _ ∧ k_ ≠ gb832))) (fun _ hk => hk.2) (.int .i64 t829)) (fun _ hk => hk.2) (.int .i64 t830)) (fun _ h_ => h_.1))) hb); replace HO_776001 := Aside0.mk (Kd.R_below (by (with_reducible repeat (first | apply Kd.R_alloc | apply Kd.R_drewN | apply Kd.R_drew)); exact (Kd.R_mono (Kd.R_far (p := ⟨gb832, 1, none⟩) (Kd.R_far (p := ⟨gb832, 0, none⟩) (Kd.R_types HO_776001.out BK832.out (by decide)) (fun _ hk => hk.2) (.int .i64 t829)) (fun _ hk => hk.2) (.int .i64 t830)) (fun _ h_ => h_.1))) hb); replace HO825 := Aside0.mk (Kd.R_below (by (with_reducible repeat (first | apply Kd.R_alloc | apply Kd.R_drewN | apply Kd.R_drew)); exact (Kd.R_mono (Kd.R_far (p := ⟨gb832, 1, none⟩) (Kd.R_far (p := ⟨gb832, 0, none⟩) (Kd.R_mono HO825.out (fun k_ hk => (⟨hk, hk.2⟩ : _ ∧ k_ ≠ gb832))) (fun _ hk => hk.2) (.int .i64 t829)) (fun _ hk => hk.2) (.int .i64 t830)) (fun _ h_ => h_.1))) hb); replace HO828 := Aside0.mk (Kd.R_below (by (with_reducible repeat (first | apply Kd.R_alloc | apply Kd.R_drewN | apply Kd.R_drew)); exact (Kd.R_mono (Kd.R_far (p := ⟨gb832, 1, none⟩) (Kd.R_far (p := ⟨gb832, 0, none⟩) (Kd.R_types HO828.out BK832.out (by decide)) (fun _ hk => hk.2) (.int .i64 t829)) (fun _ hk => hk.2) (.int .i64 t830)) (fun _ h_ => h_.1))) hb); replace BK767 := Aside0.mk (blk_below (g := gb767) (o := .cells #[.slice A0_0 l0_0.length c0_0, .int .u16 a0_1, .slice A0_2 l0_2.length c0_2, .slice A0_3 l0_3.length c0_3] 69 (0, 0)) sqX hb); replace BK768 := Aside0.mk (blk_below (g := gb768) (o := .cells #[.int .u8 a1_0, .int .u8 a1_1] 76 (0, 0)) sqX hb); replace BK775 := Aside0.mk (blk_below (g := gb775) (o := .cells #[.slice Ao32 t783.length co32, .slice Ao34 t786.length co34] 25 (0, 0)) sqX hb); replace BK808 := Aside0.mk (blk_below (g := gb808) (o := .cells #[.int .i64 t805, .int .i64 t806] 41 (0, 0)) sqX hb); replace BK832 := Aside0.mk (blk_below (g := gb832) (o := .cells #[.int .i64 t829, .int .i64 t830] 41 (0, 0)) (by (with_reducible repeat (first | refine blk_drewN ?_ _ | refine blk_drew ?_ | refine blk_alloc ?_ _)); refine blk_put (cs := #[.int .i64 t829, .int .i64 0]) ?_ 1 _ rfl; (with_reducible repeat (first | refine blk_drewN ?_ _ | refine blk_drew ?_ | refine blk_alloc ?_ _)); refine blk_put (cs := #[.int .i64 0, .int .i64 0]) ?_ 0 _ rfl; (with_reducible repeat (first | refine blk_drewN ?_ _ | refine blk_drew ?_ | refine blk_alloc ?_ _)); exact BK832.out) hb); replace HB := sqb hb HB; (try clear hb); (try clear hb2); (try clear hk); (try clear hi); obtain ⟨Ao119, co119, eo119⟩ := Kd.R_slice HO_10.out; subst eo119) | (go_at_call 50; (with_reducible refine (lw_has.calls k3 _ _ t795 x16_3 t834 _ ?side1 ?side2 A112.out).mono ?_); (case side1 => repeat (first | exact (Kd.R_reads' HO_10.out).2.2 | (with_reducible refine Kd.C_alloc ?_ _) | (with_reducible refine Kd.C_drewN ?_ _) | (with_reducible refine Kd.C_drew ?_))); (case side2 => exact (Kd.R_reads' HO_10.out).2.1); rintro e w' ⟨rfl, ⟨nd, rfl⟩⟩))
                 go_meet
                 case rel => exact ⟨_, ((t834 != (t831 == 0))), sqE, H', ⟨by have := HJ12.out; have := HJ83.out; have := HK3.out; first | omega | exact Nat.le_refl _⟩, ⟨sqR HO_10⟩, ⟨by (with_reducible repeat (first | apply Kd.R_alloc | apply Kd.R_drewN | apply Kd.R_drew)); exact Kd.R_mono HO_776000.out (fun _ hk => ⟨hk.1.1, hk.2⟩)⟩, ⟨by (with_reducible repeat (first | apply Kd.R_alloc | apply Kd.R_drewN | apply Kd.R_drew)); exact Kd.R_mono HO_776001.out (fun _ hk => trivial)⟩, ⟨sqK BK767⟩, ⟨sqK BK768⟩, ⟨sqK BK775⟩, ⟨sqK BK808⟩, ⟨sqK BK832⟩, ⟨sqB HB⟩⟩
                ·rw [if_neg c111] at H
                 have c111b0 : (t798 == 0) = false := beq_eq_false_iff_ne.mpr c111; have c111b1 : (t798 != 0) = true := bne_iff_ne.mpr c111; have H' := Aside0.mk H; clear H; have hnb120 := NB832_767.out; have hnc120 := NB767_832.out; have hnb121 := NB832_768.out; have hnc121 := NB768_832.out; have hnb122 := NB832_775.out; have hnc122 := NB775_832.out; have hnb123 := NB832_808.out; have hnc123 := NB808_832.out; have hcz124_0 := sqc0 BK832; have hcz124_1 := sqc1 BK832; have hfz124_0 := blk_frozen BK832.out 0; have hfz124_1 := blk_frozen BK832.out 1
                 go_wp2_with (first | (go_at_call 49; (with_reducible refine (lw_in.calls t782 t829 t830 true _ A109.out).mono ?_); rintro e w125 ⟨rfl, hb⟩; replace HO_10 := Aside0.mk (Kd.R_below (by (with_reducible repeat (first | apply Kd.R_alloc | apply Kd.R_drewN | apply Kd.R_drew)); exact (Kd.R_mono (Kd.R_far (p := ⟨gb832, 1, none⟩) (Kd.R_far (p := ⟨gb832, 0, none⟩) (Kd.R_types HO_10.out BK832.out (by decide)) (fun _ hk => hk.2) (.int .i64 t829)) (fun _ hk => hk.2) (.int .i64 t830)) (fun _ h_ => h_.1))) hb); replace HO_776000 := Aside0.mk (Kd.R_below (by (with_reducible repeat (first | apply Kd.R_alloc | apply Kd.R_drewN | apply Kd.R_drew)); exact (Kd.R_mono (Kd.R_far (p := ⟨gb832, 1, none⟩) (Kd.R_far (p := ⟨gb832, 0, none⟩) (Kd.R_mono HO_776000.out (fun k_ hk => (⟨hk, hk.2⟩ : _ ∧ k_ ≠ gb832))) (fun _ hk => hk.2) (.int .i64 t829)) (fun _ hk => hk.2) (.int .i64 t830)) (fun _ h_ => h_.1))) hb); replace HO_776001 := Aside0.mk (Kd.R_below (by (with_reducible repeat (first | apply Kd.R_alloc | apply Kd.R_drewN | apply Kd.R_drew)); exact (Kd.R_mono (Kd.R_far (p := ⟨gb832, 1, none⟩) (Kd.R_far (p := ⟨gb832, 0, none⟩) (Kd.R_types HO_776001.out BK832.out (by decide)) (fun _ hk => hk.2) (.int .i64 t829)) (fun _ hk => hk.2) (.int .i64 t830)) (fun _ h_ => h_.1))) hb); replace HO825 := Aside0.mk (Kd.R_below (by (with_reducible repeat (first | apply Kd.R_alloc | apply Kd.R_drewN | apply Kd.R_drew)); exact (Kd.R_mono (Kd.R_far (p := ⟨gb832, 1, none⟩) (Kd.R_far (p := ⟨gb832, 0, none⟩) (Kd.R_mono HO825.out (fun k_ hk => (⟨hk, hk.2⟩ : _ ∧ k_ ≠ gb832))) (fun _ hk => hk.2) (.int .i64 t829)) (fun _ hk => hk.2) (.int .i64 t830)) (fun _ h_ => h_.1))) hb); replace HO828 := Aside0.mk (Kd.R_below (by (with_reducible repeat (first | apply Kd.R_alloc | apply Kd.R_drewN | apply Kd.R_drew)); exact (Kd.R_mono (Kd.R_far (p := ⟨gb832, 1, none⟩) (Kd.R_far (p := ⟨gb832, 0, none⟩) (Kd.R_types HO828.out BK832.out (by decide)) (fun _ hk => hk.2) (.int .i64 t829)) (fun _ hk => hk.2) (.int .i64 t830)) (fun _ h_ => h_.1))) hb); replace BK767 := Aside0.mk (blk_below (g := gb767) (o := .cells #[.slice A0_0 l0_0.length c0_0, .int .u16 a0_1, .slice A0_2 l0_2.length c0_2, .slice A0_3 l0_3.length c0_3] 69 (0, 0)) sqX hb); replace BK768 := Aside0.mk (blk_below (g := gb768) (o := .cells #[.int .u8 a1_0, .int .u8 a1_1] 76 (0, 0)) sqX hb); replace BK775 := Aside0.mk (blk_below (g := gb775) (o := .cells #[.slice Ao32 t783.length co32, .slice Ao34 t786.length co34] 25 (0, 0)) sqX hb); replace BK808 := Aside0.mk (blk_below (g := gb808) (o := .cells #[.int .i64 t805, .int .i64 t806] 41 (0, 0)) sqX hb); replace BK832 := Aside0.mk (blk_below (g := gb832) (o := .cells #[.int .i64 t829, .int .i64 t830] 41 (0, 0)) (by (with_reducible repeat (first | refine blk_drewN ?_ _ | refine blk_drew ?_ | refine blk_alloc ?_ _)); refine blk_put (cs := #[.int .i64 t829, .int .i64 0]) ?_ 1 _ rfl; (with_reducible repeat (first | refine blk_drewN ?_ _ | refine blk_drew ?_ | refine blk_alloc ?_ _)); refine blk_put (cs := #[.int .i64 0, .int .i64 0]) ?_ 0 _ rfl; (with_reducible repeat (first | refine blk_drewN ?_ _ | refine blk_drew ?_ | refine blk_alloc ?_ _)); exact BK832.out) hb); replace HB := sqb hb HB; (try clear hb); (try clear hb2); (try clear hk); (try clear hi)))
                 go_meet
                 case rel => exact ⟨_, (false), sqE, H', ⟨by have := HJ12.out; have := HJ83.out; have := HK3.out; first | omega | exact Nat.le_refl _⟩, ⟨sqR HO_10⟩, ⟨by (with_reducible repeat (first | apply Kd.R_alloc | apply Kd.R_drewN | apply Kd.R_drew)); exact Kd.R_mono HO_776000.out (fun _ hk => ⟨hk.1.1, hk.2⟩)⟩, ⟨by (with_reducible repeat (first | apply Kd.R_alloc | apply Kd.R_drewN | apply Kd.R_drew)); exact Kd.R_mono HO_776001.out (fun _ hk => trivial)⟩, ⟨sqK BK767⟩, ⟨sqK BK768⟩, ⟨sqK BK775⟩, ⟨sqK BK808⟩, ⟨sqK BK832⟩, ⟨sqB HB⟩⟩
               ·replace c110 := Bool.eq_false_iff.mpr c110
                subst c110; rw [if_neg Bool.false_ne_true] at H; exact absurd H (by simp)
              ·rw [if_neg c108] at H
               have c108b0 : (x16_3 == (Int.tmod (wrap64 (a1_0)) (t769.length : Int))) = false := beq_eq_false_iff_ne.mpr c108; have c108b1 : (x16_3 != (Int.tmod (wrap64 (a1_0)) (t769.length : Int))) = true := bne_iff_ne.mpr c108
               by_cases c126 : t798 = 0
               ·rw [if_pos c126] at H
                have c126b0 : (t798 == 0) = true := beq_iff_eq.mpr c126; have c126b1 : (t798 != 0) = false := bne_eq_false_iff_eq.mpr c126; clear c126; obtain ⟨t835, A1270, H⟩ := Option.bind_eq_some_iff.mp H; have A127 := Aside0.mk A1270; clear A1270; have H' := Aside0.mk H; clear H; obtain ⟨Ao128, co128, eo128⟩ := Kd.R_slice HO_10.out; subst eo128
                go_wp2_with (first | (go_at_call 50; (with_reducible refine (lw_has.calls k3 _ _ t795 x16_3 t835 _ ?side1 ?side2 A127.out).mono ?_); (case side1 => refine (Kd.R_reads' (e := 3) (base := w.heap.size) (ok := fun k_ => True) (n := t795.length) (c := co128) ?_).2.2; exact (by (with_reducible repeat (first | apply Kd.R_alloc | apply Kd.R_drewN | apply Kd.R_drew)); exact (Kd.R_mono (Kd.R_far (p := ⟨gb832, 1, none⟩) (Kd.R_far (p := ⟨gb832, 0, none⟩) (Kd.R_types HO_10.out BK832.out (by decide)) (fun _ hk => hk.2) (.int .i64 t829)) (fun _ hk => hk.2) (.int .i64 t830)) (fun _ h_ => h_.1)))); (case side2 => exact (Kd.R_reads' HO_10.out).2.1); rintro e w' ⟨rfl, ⟨nd, rfl⟩⟩))
                go_meet
                case rel => exact ⟨_, ((t835 != (t831 == 0))), sqE, H', ⟨by have := HJ12.out; have := HJ83.out; have := HK3.out; first | omega | exact Nat.le_refl _⟩, ⟨by (with_reducible repeat (first | apply Kd.R_alloc | apply Kd.R_drewN | apply Kd.R_drew)); exact Kd.R_mono (Kd.R_far (p := ⟨gb832, 1, none⟩) (Kd.R_far (p := ⟨gb832, 0, none⟩) (Kd.R_types HO_10.out BK832.out (by decide)) (fun _ hk => hk.2) (.int .i64 t829)) (fun _ hk => hk.2) (.int .i64 t830)) (fun _ hk => trivial)⟩, ⟨by (with_reducible repeat (first | apply Kd.R_alloc | apply Kd.R_drewN | apply Kd.R_drew)); exact Kd.R_mono (Kd.R_far (p := ⟨gb832, 1, none⟩) (Kd.R_far (p := ⟨gb832, 0, none⟩) (Kd.R_mono HO_776000.out (fun k_ hk => (⟨hk, hk.2⟩ : _ ∧ k_ ≠ gb832))) (fun _ hk => hk.2) (.int .i64 t829)) (fun _ hk => hk.2) (.int .i64 t830)) (fun _ hk => ⟨hk.1.1.1, hk.1.2⟩)⟩, ⟨by (with_reducible repeat (first | apply Kd.R_alloc | apply Kd.R_drewN | apply Kd.R_drew)); exact Kd.R_mono (Kd.R_far (p := ⟨gb832, 1, none⟩) (Kd.R_far (p := ⟨gb832, 0, none⟩) (Kd.R_types HO_776001.out BK832.out (by decide)) (fun _ hk => hk.2) (.int .i64 t829)) (fun _ hk => hk.2) (.int .i64 t830)) (fun _ hk => trivial)⟩, ⟨sqX⟩, ⟨sqX⟩, ⟨sqX⟩, ⟨sqX⟩, ⟨by (with_reducible repeat (first | refine blk_drewN ?_ _ | refine blk_drew ?_ | refine blk_alloc ?_ _)); refine blk_put (cs := #[.int .i64 t829, .int .i64 0]) ?_ 1 _ rfl; (with_reducible repeat (first | refine blk_drewN ?_ _ | refine blk_drew ?_ | refine blk_alloc ?_ _)); refine blk_put (cs := #[.int .i64 0, .int .i64 0]) ?_ 0 _ rfl; (with_reducible repeat (first | refine blk_drewN ?_ _ | refine blk_drew ?_ | refine blk_alloc ?_ _)); exact BK832.out⟩, ⟨sqB HB⟩⟩
               ·rw [if_neg c126] at H
                have c126b0 : (t798 == 0) = false := beq_eq_false_iff_ne.mpr c126; have c126b1 : (t798 != 0) = true := bne_iff_ne.mpr c126; have H' := Aside0.mk H; clear H; go_wp2
                go_meet
                case rel => exact ⟨_, (false), sqE, H', ⟨by have := HJ12.out; have := HJ83.out; have := HK3.out; first | omega | exact Nat.le_refl _⟩, ⟨by (with_reducible repeat (first | apply Kd.R_alloc | apply Kd.R_drewN | apply Kd.R_drew)); exact Kd.R_mono (Kd.R_far (p := ⟨gb832, 1, none⟩) (Kd.R_far (p := ⟨gb832, 0, none⟩) (Kd.R_types HO_10.out BK832.out (by decide)) (fun _ hk => hk.2) (.int .i64 t829)) (fun _ hk => hk.2) (.int .i64 t830)) (fun _ hk => trivial)⟩, ⟨by (with_reducible repeat (first | apply Kd.R_alloc | apply Kd.R_drewN | apply Kd.R_drew)); exact Kd.R_mono (Kd.R_far (p := ⟨gb832, 1, none⟩) (Kd.R_far (p := ⟨gb832, 0, none⟩) (Kd.R_mono HO_776000.out (fun k_ hk => (⟨hk, hk.2⟩ : _ ∧ k_ ≠ gb832))) (fun _ hk => hk.2) (.int .i64 t829)) (fun _ hk => hk.2) (.int .i64 t830)) (fun _ hk => ⟨hk.1.1.1, hk.1.2⟩)⟩, ⟨by (with_reducible repeat (first | apply Kd.R_alloc | apply Kd.R_drewN | apply Kd.R_drew)); exact Kd.R_mono (Kd.R_far (p := ⟨gb832, 1, none⟩) (Kd.R_far (p := ⟨gb832, 0, none⟩) (Kd.R_types HO_776001.out BK832.out (by decide)) (fun _ hk => hk.2) (.int .i64 t829)) (fun _ hk => hk.2) (.int .i64 t830)) (fun _ hk => trivial)⟩, ⟨sqX⟩, ⟨sqX⟩, ⟨sqX⟩, ⟨sqX⟩, ⟨by (with_reducible repeat (first | refine blk_drewN ?_ _ | refine blk_drew ?_ | refine blk_alloc ?_ _)); refine blk_put (cs := #[.int .i64 t829, .int .i64 0]) ?_ 1 _ rfl; (with_reducible repeat (first | refine blk_drewN ?_ _ | refine blk_drew ?_ | refine blk_alloc ?_ _)); refine blk_put (cs := #[.int .i64 0, .int .i64 0]) ?_ 0 _ rfl; (with_reducible repeat (first | refine blk_drewN ?_ _ | refine blk_drew ?_ | refine blk_alloc ?_ _)); exact BK832.out⟩, ⟨sqB HB⟩⟩
             ·rw [if_neg c107] at H
              have c107b0 : (t831 == 0) = false := beq_eq_false_iff_ne.mpr c107; have c107b1 : (t831 != 0) = true := bne_iff_ne.mpr c107
              (first | rw [c107b0] | (simp only [i64_w, i32_w]; rw [c107b0]) | skip)
              by_cases c129 : t831 = 9
              ·rw [if_pos c129] at H
               have c129b0 : (t831 == 9) = true := beq_iff_eq.mpr c129; have c129b1 : (t831 != 9) = false := bne_eq_false_iff_eq.mpr c129; clear c129
               by_cases c130 : (!(t829 == 0) || (!(t830 == 0))) = true
               ·rw [if_pos c130] at H
                exact absurd H (by simp)
               ·rw [if_neg c130] at H
                have c130b0 : (!(t829 == 0) || (!(t830 == 0))) = false := by simpa using c130
                clear c130
                by_cases c131 : x16_3 = (Int.tmod (wrap64 (a1_0)) (t769.length : Int))
                ·rw [if_pos c131] at H
                 exact absurd H (by simp)
                ·rw [if_neg c131] at H
                 have c131b0 : (x16_3 == (Int.tmod (wrap64 (a1_0)) (t769.length : Int))) = false := beq_eq_false_iff_ne.mpr c131; have c131b1 : (x16_3 != (Int.tmod (wrap64 (a1_0)) (t769.length : Int))) = true := bne_iff_ne.mpr c131
                 by_cases c132 : t798 = 0
                 ·rw [if_pos c132] at H
                  have c132b0 : (t798 == 0) = true := beq_iff_eq.mpr c132; have c132b1 : (t798 != 0) = false := bne_eq_false_iff_eq.mpr c132; clear c132; obtain ⟨t836, A1330, H⟩ := Option.bind_eq_some_iff.mp H; have A133 := Aside0.mk A1330; clear A1330; have H' := Aside0.mk H; clear H; have hnb134 := NB832_767.out; have hnc134 := NB767_832.out; have hnb135 := NB832_768.out; have hnc135 := NB768_832.out; have hnb136 := NB832_775.out; have hnc136 := NB775_832.out; have hnb137 := NB832_808.out; have hnc137 := NB808_832.out; have hcz138_0 := sqc0 BK832; have hcz138_1 := sqc1 BK832; have hfz138_0 := blk_frozen BK832.out 0; have hfz138_1 := blk_frozen BK832.out 1; obtain ⟨Ao139, co139, eo139⟩ := Kd.R_slice HO_10.out; subst eo139
                  go_wp2_with (first | (go_at_call 50; (with_reducible refine (lw_has.calls k3 _ _ t795 x16_3 t836 _ ?side1 ?side2 A133.out).mono ?_); (case side1 => refine (Kd.R_reads' (e := 3) (base := w.heap.size) (ok := fun k_ => True) (n := t795.length) (c := co139) ?_).2.2; exact (by (with_reducible repeat (first | apply Kd.R_alloc | apply Kd.R_drewN | apply Kd.R_drew)); exact (Kd.R_mono (Kd.R_far (p := ⟨gb832, 1, none⟩) (Kd.R_far (p := ⟨gb832, 0, none⟩) (Kd.R_types HO_10.out BK832.out (by decide)) (fun _ hk => hk.2) (.int .i64 t829)) (fun _ hk => hk.2) (.int .i64 t830)) (fun _ h_ => h_.1)))); (case side2 => exact (Kd.R_reads' HO_10.out).2.1); rintro e w' ⟨rfl, ⟨nd, rfl⟩⟩))
                  go_meet
                  case rel => exact ⟨_, ((t836 != (t831 == 0))), sqE, H', ⟨by have := HJ12.out; have := HJ83.out; have := HK3.out; first | omega | exact Nat.le_refl _⟩, ⟨by (with_reducible repeat (first | apply Kd.R_alloc | apply Kd.R_drewN | apply Kd.R_drew)); exact Kd.R_mono (Kd.R_far (p := ⟨gb832, 1, none⟩) (Kd.R_far (p := ⟨gb832, 0, none⟩) (Kd.R_types HO_10.out BK832.out (by decide)) (fun _ hk => hk.2) (.int .i64 t829)) (fun _ hk => hk.2) (.int .i64 t830)) (fun _ hk => trivial)⟩, ⟨by (with_reducible repeat (first | apply Kd.R_alloc | apply Kd.R_drewN | apply Kd.R_drew)); exact Kd.R_mono (Kd.R_far (p := ⟨gb832, 1, none⟩) (Kd.R_far (p := ⟨gb832, 0, none⟩) (Kd.R_mono HO_776000.out (fun k_ hk => (⟨hk, hk.2⟩ : _ ∧ k_ ≠ gb832))) (fun _ hk => hk.2) (.int .i64 t829)) (fun _ hk => hk.2) (.int .i64 t830)) (fun _ hk => ⟨hk.1.1.1, hk.1.2⟩)⟩, ⟨by (with_reducible repeat (first | apply Kd.R_alloc | apply Kd.R_drewN | apply Kd.R_drew)); exact Kd.R_mono (Kd.R_far (p := ⟨gb832, 1, none⟩) (Kd.R_far (p := ⟨gb832, 0, none⟩) (Kd.R_types HO_776001.out BK832.out (by decide)) (fun _ hk => hk.2) (.int .i64 t829)) (fun _ hk => hk.2) (.int .i64 t830)) (fun _ hk => trivial)⟩, ⟨sqX⟩, ⟨sqX⟩, ⟨sqX⟩, ⟨sqX⟩, ⟨by (with_reducible repeat (first | refine blk_drewN ?_ _ | refine blk_drew ?_ | refine blk_alloc ?_ _)); refine blk_put (cs := #[.int .i64 t829, .int .i64 0]) ?_ 1 _ rfl; (with_reducible repeat (first | refine blk_drewN ?_ _ | refine blk_drew ?_ | refine blk_alloc ?_ _)); refine blk_put (cs := #[.int .i64 0, .int .i64 0]) ?_ 0 _ rfl; (with_reducible repeat (first | refine blk_drewN ?_ _ | refine blk_drew ?_ | refine blk_alloc ?_ _)); exact BK832.out⟩, ⟨sqB HB⟩⟩
                 ·rw [if_neg c132] at H
                  have c132b0 : (t798 == 0) = false := beq_eq_false_iff_ne.mpr c132; have c132b1 : (t798 != 0) = true := bne_iff_ne.mpr c132; have H' := Aside0.mk H; clear H; have hnb140 := NB832_767.out; have hnc140 := NB767_832.out; have hnb141 := NB832_768.out; have hnc141 := NB768_832.out; have hnb142 := NB832_775.out; have hnc142 := NB775_832.out; have hnb143 := NB832_808.out; have hnc143 := NB808_832.out; have hcz144_0 := sqc0 BK832; have hcz144_1 := sqc1 BK832; have hfz144_0 := blk_frozen BK832.out 0; have hfz144_1 := blk_frozen BK832.out 1
                  go_wp2
                  go_meet
                  case rel => exact ⟨_, (false), sqE, H', ⟨by have := HJ12.out; have := HJ83.out; have := HK3.out; first | omega | exact Nat.le_refl _⟩, ⟨by (with_reducible repeat (first | apply Kd.R_alloc | apply Kd.R_drewN | apply Kd.R_drew)); exact Kd.R_mono (Kd.R_far (p := ⟨gb832, 1, none⟩) (Kd.R_far (p := ⟨gb832, 0, none⟩) (Kd.R_types HO_10.out BK832.out (by decide)) (fun _ hk => hk.2) (.int .i64 t829)) (fun _ hk => hk.2) (.int .i64 t830)) (fun _ hk => trivial)⟩, ⟨by (with_reducible repeat (first | apply Kd.R_alloc | apply Kd.R_drewN | apply Kd.R_drew)); exact Kd.R_mono (Kd.R_far (p := ⟨gb832, 1, none⟩) (Kd.R_far (p := ⟨gb832, 0, none⟩) (Kd.R_mono HO_776000.out (fun k_ hk => (⟨hk, hk.2⟩ : _ ∧ k_ ≠ gb832))) (fun _ hk => hk.2) (.int .i64 t829)) (fun _ hk => hk.2) (.int .i64 t830)) (fun _ hk => ⟨hk.1.1.1, hk.1.2⟩)⟩, ⟨by (with_reducible repeat (first | apply Kd.R_alloc | apply Kd.R_drewN | apply Kd.R_drew)); exact Kd.R_mono (Kd.R_far (p := ⟨gb832, 1, none⟩) (Kd.R_far (p := ⟨gb832, 0, none⟩) (Kd.R_types HO_776001.out BK832.out (by decide)) (fun _ hk => hk.2) (.int .i64 t829)) (fun _ hk => hk.2) (.int .i64 t830)) (fun _ hk => trivial)⟩, ⟨sqX⟩, ⟨sqX⟩, ⟨sqX⟩, ⟨sqX⟩, ⟨by (with_reducible repeat (first | refine blk_drewN ?_ _ | refine blk_drew ?_ | refine blk_alloc ?_ _)); refine blk_put (cs := #[.int .i64 t829, .int .i64 0]) ?_ 1 _ rfl; (with_reducible repeat (first | refine blk_drewN ?_ _ | refine blk_drew ?_ | refine blk_alloc ?_ _)); refine blk_put (cs := #[.int .i64 0, .int .i64 0]) ?_ 0 _ rfl; (with_reducible repeat (first | refine blk_drewN ?_ _ | refine blk_drew ?_ | refine blk_alloc ?_ _)); exact BK832.out⟩, ⟨sqB HB⟩⟩
              ·rw [if_neg c129] at H
               exact absurd H (by simp)
            case rest =>
             clear HC92; try clear c89b0
             (try clear hcz106_0); (try clear hcz106_1); (try clear hcz96_0); (try clear hcz96_1); (try clear hfz106_0); (try clear hfz106_1); (try clear hfz96_0); (try clear hfz96_1); obtain ⟨kq, x177_91, rfl, HA, HJ91, HO_10, HO_776000, HO_776001, BK767, BK768, BK775, BK808, BK832, HB⟩ := hcut
             cases kq with
             | zero => exact absurd HA.out (by simp [lw_WoolThief.j3])
             | succ kj91 =>
              have H := HA.out; clear HA; simp only [lw_WoolThief.j3] at H
              by_cases c145 : x177_91 = true
              ·subst c145
               rw [if_pos rfl] at H; exact absurd H (by simp)
              ·replace c145 := Bool.eq_false_iff.mpr c145
               subst c145; rw [if_neg Bool.false_ne_true] at H
               by_cases c146 : t831 = 0
               ·rw [if_pos c146] at H
                have c146b0 : (t831 == 0) = true := beq_iff_eq.mpr c146; have c146b1 : (t831 != 0) = false := bne_eq_false_iff_eq.mpr c146; clear c146
                by_cases c147 : t829 < 1
                ·rw [if_pos c147] at H
                 exact absurd H (by simp)
                ·rw [if_neg c147] at H
                 have c147b0 : decide (t829 < 1) = false := decide_eq_false c147; clear c147
                 by_cases c148 : t829 > t830
                 ·rw [if_pos c148] at H
                  exact absurd H (by simp)
                 ·rw [if_neg c148] at H
                  have c148b0 : decide (t830 < t829) = false := decide_eq_false c148; clear c148
                  by_cases c149 : t829 < t805
                  ·rw [if_pos c149] at H
                   exact absurd H (by simp)
                  ·rw [if_neg c149] at H
                   have c149b0 : decide (t829 < t805) = false := decide_eq_false c149; clear c149
                   by_cases c150 : t830 > t806
                   ·rw [if_pos c150] at H
                    exact absurd H (by simp)
                   ·rw [if_neg c150] at H
                    have c150b0 : decide (t806 < t830) = false := decide_eq_false c150; clear c150; have H' := Aside0.mk H; clear H; have hnb151 := NB832_767.out; have hnc151 := NB767_832.out; have hnb152 := NB832_768.out; have hnc152 := NB768_832.out; have hnb153 := NB832_775.out; have hnc153 := NB775_832.out; have hnb154 := NB832_808.out; have hnc154 := NB808_832.out; have hcz155_0 := sqc0 BK832; have hcz155_1 := sqc1 BK832; have hfz155_0 := blk_frozen BK832.out 0; have hfz155_1 := blk_frozen BK832.out 1; have hnb156 := NB808_767.out; have hnc156 := NB767_808.out; have hnb157 := NB808_768.out; have hnc157 := NB768_808.out; have hnb158 := NB808_775.out; have hnc158 := NB775_808.out; have hcz159_0 := sqc0 BK808; have hcz159_1 := sqc1 BK808; have hfz159_0 := blk_frozen BK808.out 0; have hfz159_1 := blk_frozen BK808.out 1
                    go_wp2
                    go_roundg kj91
                    case measure => have := HJ12.out; have := HJ83.out; have := HK3.out; have := HJ91.out; omega
                    case rel => exact ⟨(wrap64 (x16_3 + 1)), sqE, H', ⟨by have := HJ12.out; have := HJ83.out; have := HK3.out; have := HJ91.out; omega⟩, ⟨sqR HO_10⟩, ⟨by (with_reducible repeat (first | apply Kd.R_alloc | apply Kd.R_drewN | apply Kd.R_drew)); exact Kd.R_mono HO_776000.out (fun _ hk => hk.1)⟩, ⟨sqR HO_776001⟩, ⟨sqK BK767⟩, ⟨sqK BK768⟩, ⟨sqK BK775⟩, ⟨sqK BK808⟩, ⟨sqB HB⟩⟩
               ·rw [if_neg c146] at H
                have c146b0 : (t831 == 0) = false := beq_eq_false_iff_ne.mpr c146; have c146b1 : (t831 != 0) = true := bne_iff_ne.mpr c146; have H' := Aside0.mk H; clear H; go_wp2
                go_roundg kj91
                case measure => have := HJ12.out; have := HJ83.out; have := HK3.out; have := HJ91.out; omega
                case rel => exact ⟨(wrap64 (x16_3 + 1)), sqE, H', ⟨by have := HJ12.out; have := HJ83.out; have := HK3.out; have := HJ91.out; omega⟩, ⟨sqR HO_10⟩, ⟨by (with_reducible repeat (first | apply Kd.R_alloc | apply Kd.R_drewN | apply Kd.R_drew)); exact Kd.R_mono HO_776000.out (fun _ hk => hk.1)⟩, ⟨sqR HO_776001⟩, ⟨sqK BK767⟩, ⟨sqK BK768⟩, ⟨sqK BK775⟩, ⟨sqK BK808⟩, ⟨sqB HB⟩⟩
           ·rw [if_neg c89] at H
            have c89b0 : decide (x16_3 < (t783.length : Int)) = false := decide_eq_false c89; clear c89; obtain ⟨t822, A1600, H⟩ := Option.bind_eq_some_iff.mp H; have A160 := Aside0.mk A1600; clear A1600; obtain rfl := Option.some.inj H; have hnb161 := NB775_767.out; have hnc161 := NB767_775.out; have hnb162 := NB775_768.out; have hnc162 := NB768_775.out; have hnb163 := NB775_808.out; have hnc163 := NB808_775.out; have hcz164_0 := sqc0 BK775; have hcz164_1 := sqc1 BK775; have hfz164_0 := blk_frozen BK775.out 0; have hfz164_1 := blk_frozen BK775.out 1
            go_wp2_with (first | ((with_reducible refine gate_callee (f := 17) rfl ?_); refine goesL_ (some 206) rfl rfl Tryd.func17 sqF rfl #[] rfl sqM ?_; (with_reducible refine (lw_known.calls t822 _ ?sideG A160.out).mono ?_); (case sideG => exact (Kd.C_below HGL.out (sqB HB))); rintro e w165 ⟨rfl, hb⟩; refine ⟨_, rfl, ?_⟩; replace HO_10 := Aside0.mk (Kd.R_below (sqR HO_10) hb); replace HO_776000 := Aside0.mk (Kd.R_below (sqR HO_776000) hb); replace HO_776001 := Aside0.mk (Kd.R_below (sqR HO_776001) hb); replace BK767 := sqk BK767 hb; replace BK768 := sqk BK768 hb; replace BK775 := sqk BK775 hb; replace BK808 := sqk BK808 hb; replace HB := sqb hb HB; (try clear hb); (try clear hb2); (try clear hk); (try clear hi)))
            go_ret
            exact ⟨by first | rfl | (simp [errW_none, errW_some] <;> rfl) | (simp [*, errW_none, errW_some] <;> rfl), sqB HB⟩
end Go.Proofs.YtemingmeidmjkaaDoor.Q
namespace Go.Proofs.YtemingmeidmjkaaDoor.Rw
open Go.RowKit Go.Proofs.YtemingmeidmjkaaDoorW.PrintWords
set_option linter.unusedVariables false
set_option linter.unusedSimpArgs false
theorem add_two (a : Addr) (x y : Nat) : (a.add x).add y = a.add (x + y) := by
 unfold Addr.add
 by_cases h1 : x = 0
 ·subst h1; simp
 ·by_cases h2 : y = 0
  ·subst h2; simp
  ·have h3 : ¬ x + y = 0 := by omega
   simp [h1, h2, Nat.add_assoc]
structure Opens {α : Type} (P : Program) (t : TypeId) (d : Kd α) (good : α → Prop) : Prop where
 size : d.sz = P.cellsOf t
 read : ∀ {H : Type} {enc : TypeId × Value → H} {w : World} {base : Nat} {sp : Nat → Bool} {held : Bool} {fuel : Nat} {cs : List Value} {x : DataW H × List MemPlace}, DataW.trod enc P w base sp held fuel t cs = some x → ∃ y : α, d.K w y cs ∧ good y
theorem Opens.int {P : Program} {t : TypeId} {k : IntKind} (ht : P.underlying t = some (.int k)) (hc : 1 = P.cellsOf t) : Opens P t (Kd.int k) (fun n => (Lit.int k n).wf = true) := ⟨hc, fun h => by
 obtain ⟨n, rfl, rfl, hw⟩ := DataW.trod_int ht h
 exact ⟨n, rfl, hw⟩⟩
theorem Opens.slice {α : Type} {P : Program} {t e : TypeId} {d : Kd α} {good : α → Prop} (ht : P.underlying t = some (.slice e)) (hc : 1 = P.cellsOf t) (h : Opens P e d good) : Opens P t (Kd.slice e d) (fun l => ∀ x ∈ l, good x) := ⟨hc, fun {H enc w base sp held fuel cs x} hx => by
 rcases DataW.trod_slice ht hx with ⟨rfl, _⟩ | ⟨a, len, cap, elems, rest, n, _, rfl, _, hb, hl, hm, hlen, hel, _, _⟩
 ·exact ⟨[], ⟨none, 0, rfl, Nat.le_refl _, Kd.C_nil _ _⟩, fun x hx => by cases hx⟩
 ·have key : ∀ m, m ≤ len → ∃ l : List α, l.length = m ∧ ∀ i z, l[i]? = some z → good z ∧ ∃ c, c.length = d.sz ∧ d.K w z c ∧ ∀ j u, c[j]? = some u → w.cell? (a.add (i * d.sz + j)) = some u := by
   intro m
   induction m with
   | zero => intro _; exact ⟨[], rfl, fun i z hz => by simp at hz⟩
   | succ m ih =>
    intro hle; obtain ⟨l, hll, hl2⟩ := ih (by omega); have h1 := hel m (by omega); rw [List.getElem?_eq_getElem (by omega), Option.bind_eq_some_iff] at h1; obtain ⟨c, hc1, hc2⟩ := h1; obtain ⟨z, hz, hg⟩ := h.read hc2; obtain ⟨_, hcl, hcc⟩ := World.cells?_some hc1; refine ⟨l ++ [z], by simp [hll], fun i z' hz' => ?_⟩
    rcases Nat.lt_or_ge i l.length with hlt | hge
    ·rw [List.getElem?_append_left hlt] at hz'
     exact hl2 i z' hz'
    ·rw [List.getElem?_append_right hge] at hz'
     have e : i = m := by
      rcases Nat.eq_zero_or_pos (i - l.length) with e | e
      ·omega
      ·rw [List.getElem?_eq_none (by simp; omega)] at hz'; cases hz'
     subst e; rw [show i - l.length = 0 by omega] at hz'; simp only [List.getElem?_cons_zero, Option.some.injEq] at hz'; subst hz'; refine ⟨hg, c, by rw [hcl, h.size], hz, fun j u hu => ?_⟩
     have hj : j < P.cellsOf e := by rw [← hcl]; exact (List.getElem?_eq_some_iff.1 hu).1
     have := hcc j hj; rw [hu] at this; rw [h.size, ← this, add_two]
  obtain ⟨l, hll, hl2⟩ := key len (Nat.le_refl _); refine ⟨l, ⟨some a, cap, by rw [hll], by omega, rfl, by unfold maxLen at hm; omega, fun _ => ⟨a, rfl, fun j p hj => ?_⟩⟩, fun x hx => ?_⟩
  ·obtain ⟨_, c, h1, h2, h3⟩ := hl2 j p hj
   exact ⟨c, h1, h2, h3⟩
  ·obtain ⟨i, hi⟩ := List.getElem?_of_mem hx
   exact (hl2 i x hi).1⟩
structure FOpens {α : Type} (P : Program) (fs : List Field) (off : Nat) (d : Kd α) (good : α → Prop) : Prop where
 read : ∀ {H : Type} {enc : TypeId × Value → H} {w : World} {base : Nat} {sp : Nat → Bool} {held : Bool} {fuel : Nat} {cs : List Value},
 (∀ (i : Nat) (f : Field), fs[i]? = some f → ∃ y, DataW.trod enc P w base sp held fuel f.type ((cs.drop f.offset).take (P.cellsOf f.type)) = some y) → cs.length = off + d.sz → ∃ y : α, d.K w y (cs.drop off) ∧ good y
theorem FOpens.one {α : Type} {P : Program} {f : Field} {off : Nat} {d : Kd α} {good : α → Prop} (h : Opens P f.type d good) (ho : f.offset = off) : FOpens P [f] off d good := ⟨fun {H enc w base sp held fuel cs} hf hl => by
 obtain ⟨y, hy⟩ := hf 0 f rfl; rw [ho, ← h.size, List.take_of_length_le (by rw [List.length_drop]; omega)] at hy
 exact h.read hy⟩
theorem FOpens.cons {α β : Type} {P : Program} {f : Field} {fs : List Field} {off : Nat} {d1 : Kd α} {d2 : Kd β} {g1 : α → Prop} {g2 : β → Prop} (h1 : Opens P f.type d1 g1) (ho : f.offset = off) (h2 : FOpens P fs (off + d1.sz) d2 g2) : FOpens P (f :: fs) off (Kd.pair d1 d2) (fun x => g1 x.1 ∧ g2 x.2) := ⟨fun {H enc w base sp held fuel cs} hf hl => by
 have hsz : (Kd.pair d1 d2).sz = d1.sz + d2.sz := rfl; obtain ⟨y1, hy1⟩ := hf 0 f rfl; rw [ho, ← h1.size] at hy1; obtain ⟨x1, hk1, hg1⟩ := h1.read hy1; obtain ⟨x2, hk2, hg2⟩ := h2.read (cs := cs) (fun i g hg => hf (i + 1) g (by simpa using hg)) (by omega); refine ⟨(x1, x2), ⟨_, _, ?_, hk1, hk2⟩, hg1, hg2⟩
 rw [← List.drop_drop, List.take_append_drop]⟩
theorem Opens.struct {α : Type} {P : Program} {t : TypeId} {fs : Array Field} {d : Kd α} {good : α → Prop} (ht : P.underlying t = some (.struct fs)) (hs : d.sz = P.cellsOf t) (h : FOpens P fs.toList 0 d good) : Opens P t d good := ⟨hs, fun {H enc w base sp held fuel cs x} hx => by
 obtain ⟨xs, n, _, _, hcl, hxl, hf⟩ := DataW.trod_struct ht hx
 have := h.read (enc := enc) (w := w) (base := base) (sp := sp) (held := held) (fuel := n) (cs := cs) (fun i f hi => by
  rw [Array.getElem?_toList] at hi; have hlt := (Array.getElem?_eq_some_iff.1 hi).1
  exact ⟨xs[i]'(by omega), by rw [hf i f hi, List.getElem?_eq_getElem]⟩) (by omega)
 simpa using this⟩
def fld (e : TypeId) (off : Nat) : Field := { name := "", type := e, offset := off, embedded := false, tag := "", pkgPath := "", byteOffset := 0 }
theorem Opens.array {α : Type} {P : Program} {t e : TypeId} {n : Nat} {d : Kd α} {good : α → Prop} (c : Nat) (ht : P.underlying t = some (.array n e)) (hs : d.sz = P.cellsOf t) (hc : c = P.cellsOf e) (h : FOpens P ((List.range n).map fun i => fld e (i * c)) 0 d good) : Opens P t d good := ⟨hs, fun {H enc w base sp held fuel cs x} hx => by
 subst hc; obtain ⟨xs, m, _, _, hcl, hxl, hf⟩ := DataW.trod_array ht hx
 have := h.read (enc := enc) (w := w) (base := base) (sp := sp) (held := held) (fuel := m) (cs := cs) (fun i f hi => by
  rw [List.getElem?_map, Option.map_eq_some_iff] at hi; obtain ⟨j, hj, rfl⟩ := hi; have hlt := (List.getElem?_eq_some_iff.1 hj).1; rw [List.length_range] at hlt; rw [List.getElem?_range hlt] at hj
  cases hj
  exact ⟨xs[i]'(by omega), (hf i hlt).trans (List.getElem?_eq_getElem (by omega))⟩) (by omega)
 simpa using this⟩
theorem okWide_array {P : Program} {w : World} {r : Reach} {base : Nat} {t e : TypeId} {n : Nat} {v : Value} (ht : P.underlying t = some (.array n e)) (h : Value.okWide P w r base t v) : ∃ cs, v = .agg cs ∧ cs.size = P.cellsOf t := by
 simp only [Value.okWide, ht] at h; obtain ⟨cs, h1, h2, _⟩ := h; exact ⟨cs, h1, h2⟩
theorem Opens.iso {α β : Type} {P : Program} {t : TypeId} {d : Kd α} {good : α → Prop} (f : β → α) (g : α → β) (hfg : ∀ x, f (g x) = x) (h : Opens P t d good) : Opens P t (Kd.iso d f) (fun y => good (f y)) := ⟨h.size, fun hx => by
 obtain ⟨y, hk, hg⟩ := h.read hx
 exact ⟨g y, by show d.K _ (f (g y)) _; rw [hfg]; exact hk, by rw [hfg]; exact hg⟩⟩
end Go.Proofs.YtemingmeidmjkaaDoor.Rw
namespace Go.Proofs.YtemingmeidmjkaaDoor.Q
open Go.RowKit Go.Proofs.YtemingmeidmjkaaDoorW.PrintWords Go.Proofs.YtemingmeidmjkaaDoorW.PrintLast Go.Proofs.YtemingmeidmjkaaDoorW.PrintMore
attribute [local go_sem] max2_int min2_int max_two min_two max_three min_three max_four min_four   -- for this text's walks alone
set_option linter.unusedVariables false
set_option linter.unusedSimpArgs false
end Go.Proofs.YtemingmeidmjkaaDoor.Q
namespace Go.Proofs.YtemingmeidmjkaaDoor.Q
open Go.RowKit Go.Proofs.YtemingmeidmjkaaDoorW.PrintWords Go.Proofs.YtemingmeidmjkaaDoorW.PrintLast Go.Proofs.YtemingmeidmjkaaDoorW.PrintMore
attribute [local go_sem] max2_int min2_int max_two min_two max_three min_three max_four min_four   -- for this text's walks alone
set_option linter.unusedVariables false
set_option linter.unusedSimpArgs false
end Go.Proofs.YtemingmeidmjkaaDoor.Q
namespace Go.Proofs.YtemingmeidmjkaaDoor.Q
open Go.RowKit Go.Proofs.YtemingmeidmjkaaDoorW.PrintWords Go.Proofs.YtemingmeidmjkaaDoorW.PrintLast Go.Proofs.YtemingmeidmjkaaDoorW.PrintMore
attribute [local go_sem] max2_int min2_int max_two min_two max_three min_three max_four min_four   -- for this text's walks alone
set_option linter.unusedVariables false
set_option linter.unusedSimpArgs false
end Go.Proofs.YtemingmeidmjkaaDoor.Q
namespace Go.Proofs.YtemingmeidmjkaaDoor.Q
open Go.RowKit Go.Proofs.YtemingmeidmjkaaDoorW.PrintWords Go.Proofs.YtemingmeidmjkaaDoorW.PrintLast Go.Proofs.YtemingmeidmjkaaDoorW.PrintMore
attribute [local go_sem] max2_int min2_int max_two min_two max_three min_three max_four min_four   -- for this text's walks alone
set_option linter.unusedVariables false
set_option linter.unusedSimpArgs false
theorem eqA80 (d : Nat) (w : World) (x0 y0 : Int) (x1 y1 : Int) (x2 y2 : Int) :
  (Op.equalIn (d + 2) 80 (.agg #[.int .i64 x0, .int .i64 x1, .int .i64 x2]) (.agg #[.int .i64 y0, .int .i64 y1, .int .i64 y2])).run Tryd.prog w = .ok (x0 == y0 && (x1 == y1 && (x2 == y2))) w := by
 refine eqA_of Tryd.underlying80 sqF ?_; refine eqf_cons (by rfl) (by go_simp; rfl) (by go_simp; rfl) (by go_simp) ?_; refine eqf_cons (by rfl) (by go_simp; rfl) (by go_simp; rfl) (by go_simp) ?_; exact eqf_last (by rfl) (by go_simp; rfl) (by go_simp; rfl) (by go_simp)
end Go.Proofs.YtemingmeidmjkaaDoor.Q
namespace Go.Proofs.YtemingmeidmjkaaDoor.Q
open Go.RowKit Go.Proofs.YtemingmeidmjkaaDoorW.PrintWords Go.Proofs.YtemingmeidmjkaaDoorW.PrintLast Go.Proofs.YtemingmeidmjkaaDoorW.PrintMore
attribute [local go_sem] max2_int min2_int max_two min_two max_three min_three max_four min_four   -- for this text's walks alone
set_option linter.unusedVariables false
set_option linter.unusedSimpArgs false
attribute [local go_sem high] eqA80
end Go.Proofs.YtemingmeidmjkaaDoor.Q
namespace Go.Proofs.YtemingmeidmjkaaDoor.Q
open Go.RowKit Go.Proofs.YtemingmeidmjkaaDoorW.PrintWords Go.Proofs.YtemingmeidmjkaaDoorW.PrintLast Go.Proofs.YtemingmeidmjkaaDoorW.PrintMore
attribute [local go_sem] max2_int min2_int max_two min_two max_three min_three max_four min_four   -- for this text's walks alone
set_option linter.unusedVariables false
set_option linter.unusedSimpArgs false
end Go.Proofs.YtemingmeidmjkaaDoor.Q
namespace Go.Proofs.YtemingmeidmjkaaDoor.Q
open Go.RowKit Go.Proofs.YtemingmeidmjkaaDoorW.PrintWords
set_option linter.unusedVariables false
set_option linter.unusedSimpArgs false
theorem rdI (l : List Int) (i : Nat) (h : i < l.length) : rd l (i : Int) = l[i] := by simp [rd, h]
theorem rdA (l : List S41) (i : Nat) (h : i < l.length) : rd_T41 l (i : Int) = l[i] := by simp [rd_T41, h]
theorem inB_one (b c a : Int) : inB b c [a] = true ↔ b ≤ a ∧ a ≤ c := by rw [inB_iff]; simp
theorem toSt_get (l : List S41) (i : Nat) (h : i < l.length) : (toSt l)[i]'(by rw [toSt_len]; exact h) = ⟨l[i].f0, l[i].f1⟩ := by simp [toSt]
end Go.Proofs.YtemingmeidmjkaaDoor.Q
namespace Go.Proofs.YtemingmeidmjkaaDoor.Q
open Go.RowKit Go.Proofs.YtemingmeidmjkaaDoorW.PrintWords
set_option linter.unusedVariables false
set_option linter.unusedSimpArgs false
def ub (x : Int) : Prop := 0 ≤ x ∧ x ≤ 255
theorem ub_wf {x : Int} (h : (Lit.int .u8 x).wf = true) : ub x := by
 simp only [Lit.wf, Bool.and_eq_true, decide_eq_true_eq] at h; exact h
theorem tm {x m : Int} (h : 0 ≤ x) : Int.tmod x m = x % m := Int.tmod_eq_emod_of_nonneg h
theorem mn_min (a b : Int) : mn a b = min a b := by unfold mn; omega
theorem mx_max1 (a b : Int) : mx a b = max a b := by unfold mx; omega
theorem rd_app (A : List Int) (x : Int) (j : Nat) (h : j < A.length) : rd (A ++ [x]) (j : Int) = rd A (j : Int) := by
 unfold rd
 rw [Int.toNat_natCast, List.getD_eq_getElem?_getD, List.getD_eq_getElem?_getD, List.getElem?_append_left h]
theorem rd_last (A : List Int) (x : Int) (j : Nat) (h : j = A.length) : rd (A ++ [x]) (j : Int) = x := by
 subst h
 unfold rd
 rw [Int.toNat_natCast, List.getD_eq_getElem?_getD, List.getElem?_append_right (Nat.le_refl _), Nat.sub_self]; rfl
theorem rd_in {l : List Int} {j : Int} (h0 : 0 ≤ j) (h : j < l.length) : rd l j ∈ l := by
 obtain ⟨m, rfl⟩ : ∃ m : Nat, j = (m : Int) := ⟨j.toNat, by omega⟩; rw [rdI l m (by omega)]; exact List.getElem_mem _
theorem roadE_ok {st : List Sp} {wg : List Wg} (h1 : 1 ≤ st.length) (h5 : st.length ≤ 5) (hs : ∀ s ∈ st, stB s) (h8 : wg.length ≤ 8) (hw : ∀ x ∈ wg, (0 ≤ x.p ∧ x.p ≤ st.length) ∧ (0 ≤ x.r ∧ x.r ≤ 400) ∧ (0 ≤ x.o ∧ x.o ≤ 20)) : roadE st wg = 0 := by
 have e1 : inB 1 5 [(st.length : Int)] = true := (inB_one _ _ _).2 (by omega)
 have e2 : st.any stBad = false := by
  rw [List.any_eq_false]; intro s h; obtain ⟨a, b, c⟩ := hs s h
  have e : inB 0 300 [s.lo, s.hi] = true := by rw [inB_iff]; simp; omega
  simp [stBad, e]; omega
 have e3 : wg.any (wgBad st.length) = false := by
  rw [List.any_eq_false]; intro x h; obtain ⟨a, b, c⟩ := hw x h
  simp [wgBad, (inB_one _ _ _).2 a, (inB_one _ _ _).2 b, (inB_one _ _ _).2 c]
 simp [roadE, e1, e2, e3]; omega
theorem road_l0 (l0 : List S76) (a : Int) (b : List Int) (c : List S136) (hb : ∀ x ∈ l0, ub x.f0 ∧ ub x.f1) : ∀ (d i : Nat) (acc : List S41), i + d = 4 → acc.length = i → (∀ s ∈ toSt acc, stB s) → ∃ st : List S41, Ev (fun k => lw_Cart_road.l0 k (i : Int) l0 a b c acc) (st, []) ∧ 1 ≤ st.length ∧ st.length ≤ 4 ∧ ∀ s ∈ toSt st, stB s
 | 0, i, acc, hd, hl, hs => by
  obtain rfl : i = 4 := by omega
  refine ⟨acc, ?_, by omega, by omega, hs⟩; refine Ev.up ?_; simp only [lw_Cart_road.l0, if_neg (show ¬ ((4 : Nat) : Int) = 0 by omega)]
  by_cases h : ((4 : Nat) : Int) < (l0.length : Int)
  ·simp only [if_pos h, decide_eq_false (show ¬ ((4 : Nat) : Int) < 4 by omega)]
   refine Ev.up ?_; simp only [lw_Cart_road.j1, Bool.false_eq_true, if_false]; exact Ev.now _
  ·simp only [if_neg h]
   refine Ev.up ?_; simp only [lw_Cart_road.j1, Bool.false_eq_true, if_false]; exact Ev.now _
 | d + 1, i, acc, hd, hl, hs => by
  by_cases hgo : i = 0 ∨ i < l0.length
  ·obtain ⟨x, hx, hev⟩ : ∃ x : S41, stB ⟨x.f0, x.f1⟩ ∧ ∀ r, Ev (fun k => lw_Cart_road.l0 k ((i + 1 : Nat) : Int) l0 a b c (acc ++ [x])) r → Ev (fun k => lw_Cart_road.j1 k (i : Int) true l0 a b c acc) r := by
    by_cases hi : i < l0.length
    ·have hm : rd_T76 l0 (i : Int) ∈ l0 := by
      have e : rd_T76 l0 (i : Int) = l0[i] := by simp [rd_T76, hi]
      rw [e]; exact List.getElem_mem _
     obtain ⟨⟨h1, h2⟩, h3, h4⟩ := hb _ hm; refine ⟨⟨Int.tmod (wrap64 ((rd_T76 l0 (i : Int)).f0)) 200, wrap64 ((Int.tmod (wrap64 ((rd_T76 l0 (i : Int)).f0)) 200) + (Int.tmod (wrap64 ((rd_T76 l0 (i : Int)).f1)) 100))⟩, ?_, fun r hr => ?_⟩
     ·simp only
      rw [wr (x := (rd_T76 l0 (i : Int)).f0) (by omega), wr (x := (rd_T76 l0 (i : Int)).f1) (by omega), tm h1, tm h3, wr (by omega)]
      unfold stB
      simp only; omega
     ·refine Ev.up ?_
      simp only [lw_Cart_road.j1, if_true, if_pos (show (i : Int) < (l0.length : Int) by omega), if_pos (show (0 : Int) ≤ (i : Int) by omega), lw_span.f, Option.bind_some, if_pos (show acc.length < 8796093022208 by omega), wi i (by omega)]; exact hr
    ·refine ⟨⟨(80 : Int) % 200, ((80 : Int) % 200) + ((30 : Int) % 100)⟩, ⟨by decide, by decide, by decide⟩, fun r hr => ?_⟩
     refine Ev.up ?_; simp only [lw_Cart_road.j1, if_true, if_neg (show ¬ (i : Int) < (l0.length : Int) by omega), lw_span.f, Option.bind_some, if_pos (show acc.length < 8796093022208 by omega), wi i (by omega)]; exact hr
   obtain ⟨st, h1, h2⟩ := road_l0 l0 a b c hb d (i + 1) (acc ++ [x]) (by omega) (by simp [hl]) (by
    intro s h; simp only [toSt, List.map_append, List.map_cons, List.map_nil, List.mem_append, List.mem_singleton] at h
    rcases h with h | h
    ·exact hs s h
    ·rw [h]; exact hx)
   refine ⟨st, ?_, h2⟩; refine Ev.up ?_
   by_cases h0 : i = 0
   ·simp only [lw_Cart_road.l0, if_pos (show (i : Int) = 0 by omega)]
    exact hev _ h1
   ·simp only [lw_Cart_road.l0, if_neg (show ¬ (i : Int) = 0 by omega), if_pos (show (i : Int) < (l0.length : Int) by omega), decide_eq_true (show (i : Int) < 4 by omega)]
    exact hev _ h1
  ·refine ⟨acc, ?_, by omega, by omega, hs⟩
   refine Ev.up ?_; simp only [lw_Cart_road.l0, if_neg (show ¬ (i : Int) = 0 by omega), if_neg (show ¬ (i : Int) < (l0.length : Int) by omega)]; refine Ev.up ?_; simp only [lw_Cart_road.j1, Bool.false_eq_true, if_false]; exact Ev.now _
theorem road_f (l0 : List S76) (a : Int) (b : List Int) (c : List S136) (hb : ∀ x ∈ l0, ub x.f0 ∧ ub x.f1) : ∃ st : List S41, Ev (fun k => lw_Cart_road.f k l0 a b c) (st, []) ∧ 1 ≤ st.length ∧ st.length ≤ 4 ∧ ∀ s ∈ toSt st, stB s :=
 road_l0 l0 a b c hb 4 0 [] (by omega) rfl (fun s h => by cases h)
theorem own_f (st : List S41) (wg : List S80) (h0 : st.length ≤ 1000) (h1 : wg.length ≤ 1000) : lw_own.f st wg = some (st, wg) := by
 unfold lw_own.f
 simp only [Option.bind_some, List.length_nil, List.nil_append]; rw [if_pos (by omega), if_pos (by omega)]
theorem most_f {s : Sp} (h : stB s) {w : Int} (hw : 0 ≤ w ∧ w ≤ 400) : lw_most.f s.lo s.hi w = some (w - loS s w) := by
 obtain ⟨h0, h1, h2⟩ := h; have h3 : 0 ≤ w * s.hi := Int.mul_nonneg hw.1 (by omega); have h4 : w * s.hi ≤ 400 * 300 := Int.mul_le_mul hw.2 h2 (by omega) (by omega)
 unfold lw_most.f loS
 generalize w * s.hi = b at *
 rw [wr (x := b) (by omega), wr (x := b + 999) (by omega), Int.tdiv_eq_ediv_of_nonneg (by omega), wr (by omega)]
 congr 1
 omega
theorem least_f {s : Sp} (h : stB s) {w : Int} (hw : 0 ≤ w ∧ w ≤ 400) : lw_least.f s.lo s.hi w = some (w - hiS s w) := by
 obtain ⟨h0, h1, h2⟩ := h; have h3 : 0 ≤ w * s.lo := Int.mul_nonneg hw.1 (by omega); have h4 : w * s.lo ≤ 400 * 300 := Int.mul_le_mul hw.2 (by omega) (by omega) (by omega)
 unfold lw_least.f hiS
 generalize w * s.lo = b at *
 rw [wr (x := b) (by omega), Int.tdiv_eq_ediv_of_nonneg (by omega), wr (by omega)]
 congr 1
 omega
theorem by_f (l : List Int) (hl : ∀ x ∈ l, ub x) (i : Int) (hi : 0 ≤ i) : ∃ b, lw_by.f l i = some b ∧ ub b := by
 unfold lw_by.f
 by_cases h : (l.length : Int) = 0
 ·rw [if_pos h]
  exact ⟨0, rfl, by decide, by decide⟩
 ·have h1 : 0 ≤ i % (l.length : Int) := Int.emod_nonneg _ h
  have h2 : i % (l.length : Int) < (l.length : Int) := Int.emod_lt_of_pos _ (by omega); have hb := hl _ (rd_in h1 h2); rw [if_neg h, tm hi, if_pos h1, if_pos h2]; refine ⟨_, rfl, ?_⟩; obtain ⟨h3, h4⟩ := hb; rw [wr (by omega)]; exact ⟨h3, h4⟩
structure LvP (st : List Sp) (th : Int) (i : Nat) (g : Int) (A T : List Int) : Prop where
 la : A.length = i + 1
 lt : T.length = i
 bd : ∀ j : Nat, j ≤ i → 0 ≤ rd A (j : Int) ∧ rd A (j : Int) ≤ 400
 step : ∀ j : Nat, j < i → loS (rdS st (j : Int)) (rd A (j : Int)) ≤ rd A (j : Int) - rd T (j : Int) ∧ rd A (j : Int) - rd T (j : Int) ≤ hiS (rdS st (j : Int)) (rd A (j : Int)) ∧ rd A ((j + 1 : Nat) : Int) = rd A (j : Int) - rd T (j : Int) - (if (j : Int) = th then g else 0)
 g0 : (i : Int) ≤ th ∨ th < 0 → g = 0
 gn : 0 ≤ g
theorem LvP.push {st : List Sp} {th : Int} {i : Nat} {g g' : Int} {A T : List Int} (h : LvP st th i g A T) (t v : Int) (h1 : loS (rdS st (i : Int)) (rd A (i : Int)) ≤ rd A (i : Int) - t) (h2 : rd A (i : Int) - t ≤ hiS (rdS st (i : Int)) (rd A (i : Int)))
  (hv : v = rd A (i : Int) - t - (if (i : Int) = th then g' else 0)) (hb : 0 ≤ v ∧ v ≤ 400) (hg : (i : Int) ≠ th → g' = g) (hn : 0 ≤ g') : LvP st th (i + 1) g' (A ++ [v]) (T ++ [t]) where
 la := by simp [h.la]
 lt := by simp [h.lt]
 bd := by
  intro j hj
  by_cases e : j = i + 1
  ·rw [rd_last A v j (by rw [h.la, e])]
   exact hb
  ·rw [rd_app A v j (by rw [h.la]; omega)]
   exact h.bd j (by omega)
 step := by
  intro j hj
  by_cases e : j = i
  ·subst e
   rw [rd_app A v j (by rw [h.la]; omega), rd_last T t j h.lt.symm, rd_last A v (j + 1) (by rw [h.la])]; exact ⟨h1, h2, hv⟩
  ·have := h.step j (by omega)
   rw [rd_app A v j (by rw [h.la]; omega), rd_app T t j (by rw [h.lt]; omega), rd_app A v (j + 1) (by rw [h.la]; omega)]; refine ⟨this.1, this.2.1, ?_⟩; rw [this.2.2]
   by_cases e2 : (j : Int) = th
   ·rw [if_pos e2, if_pos e2, hg (by omega)]
   ·rw [if_neg e2, if_neg e2]
 g0 := by
  intro hc
  by_cases e : (i : Int) = th
  ·omega
  ·rw [hg e]
   exact h.g0 (by omega)
 gn := hn
theorem take_f (lo D b : Int) (hb : ub b) (hD : 0 ≤ D ∧ D ≤ 400) (hlo : 0 ≤ lo ∧ lo ≤ 400) : ∃ t, wrap64 (lo + wrap64 (Int.tdiv (wrap64 (b * wrap64 D)) 255)) = t ∧ lo ≤ t ∧ t ≤ lo + D := by
 obtain ⟨h1, h2⟩ := hb; have h3 : 0 ≤ b * D := Int.mul_nonneg h1 hD.1; have h4 : b * D ≤ 255 * D := Int.mul_le_mul_of_nonneg_right h2 hD.1; rw [wr (x := D) (by omega)]
 generalize b * D = m at *
 rw [wr (x := m) (by omega), Int.tdiv_eq_ediv_of_nonneg h3, wr (x := m / 255) (by omega), wr (by omega)]; exact ⟨_, rfl, by omega, by omega⟩
section
variable (l0 : List S76) (a : Int) (l2 : List Int) (l3 : List S136) (st : List S41) (wg : List S80) (hst : ∀ s ∈ toSt st, stB s) (hb : ∀ x ∈ l2, ub x) (hn : st.length ≤ 1000) (th stolen : Int) (hs : 0 ≤ stolen ∧ stolen ≤ 1000)
theorem lived_l0 (hst : ∀ s ∈ toSt st, stB s) (hb : ∀ x ∈ l2, ub x) (hn : st.length ≤ 1000) (hs : 0 ≤ stolen ∧ stolen ≤ 1000) : ∀ (d i : Nat) (g : Int) (A T : List Int), i + d = st.length → LvP (toSt st) th i g A T →
  ∃ A' T' g', Ev (fun k => lw_Cart_lived.l0 k th stolen A T g (rd A (i : Int)) (i : Int) l0 a l2 l3 st wg) (A', T', g') ∧ LvP (toSt st) th st.length g' A' T' ∧ rd A' 0 = rd A 0
 | 0, i, g, A, T, hd, h => by
  obtain rfl : i = st.length := by omega
  refine ⟨A, T, g, ?_, h, rfl⟩; refine Ev.up ?_; simp only [lw_Cart_lived.l0, if_neg (show ¬ (st.length : Int) < (st.length : Int) by omega)]; exact Ev.now _
 | d + 1, i, g, A, T, hd, h => by
  have hi : i < st.length := by omega
  have hv : stB (rdS (toSt st) (i : Int)) := by
   rw [rdS_nat _ _ (by rw [toSt_len]; exact hi)]; exact hst _ (List.getElem_mem _)
  have er : rdS (toSt st) (i : Int) = ⟨st[i].f0, st[i].f1⟩ := by rw [rdS_nat _ _ (by rw [toSt_len]; exact hi), toSt_get st i hi]
  have hw := h.bd i (Nat.le_refl _); have e1 := least_f hv hw; have e2 := most_f hv hw; obtain ⟨b, e3, hb'⟩ := by_f l2 hb (i : Int) (by omega); have g1 := loS_nn hv hw.1; have g2 := loS_hiS hv hw.1; have g3 := hiS_le hv hw.1; obtain ⟨t, e4, t1, t2⟩ := take_f (rd A (i : Int) - hiS (rdS (toSt st) (i : Int)) (rd A (i : Int))) ((rd A (i : Int) - loS (rdS (toSt st) (i : Int)) (rd A (i : Int))) - (rd A (i : Int) - hiS (rdS (toSt st) (i : Int)) (rd A (i : Int)))) b hb' (by omega) (by omega); have hla := h.la; have hlt := h.lt
  have hA0 : ∀ v, rd (A ++ [v]) 0 = rd A 0 := fun v => rd_app A v 0 (by omega)
  by_cases hth : (i : Int) = th
  ·have p := h.push (g' := min (rd A (i : Int) - t) stolen) t (rd A (i : Int) - t - min (rd A (i : Int) - t) stolen) (by omega) (by omega) (by rw [if_pos hth]) (by omega) (fun e => absurd hth e) (by omega)
   obtain ⟨A', T', g', q1, q2, q3⟩ := lived_l0 hst hb hn hs d (i + 1) _ _ _ (by omega) p; refine ⟨A', T', g', ?_, q2, by rw [q3, hA0]⟩; rw [rd_last A _ (i + 1) (by omega)] at q1; refine Ev.up ?_; rw [er] at e1 e2 e4; simp only at e1 e2; simp only [lw_Cart_lived.l0, if_pos (show (i : Int) < (st.length : Int) by omega), if_pos (show (0 : Int) ≤ (i : Int) by omega), rdA st i hi, e1, e2, e3, Option.bind_some, e4, if_pos hth, if_pos (show A.length < 17592186044416 by omega), if_pos (show T.length < 17592186044416 by omega), mn_min, wr (show -9223372036854775808 ≤ rd A (i : Int) - t ∧ rd A (i : Int) - t ≤ 9223372036854775807 by omega), wr (show -9223372036854775808 ≤ rd A (i : Int) - t - min (rd A (i : Int) - t) stolen ∧ rd A (i : Int) - t - min (rd A (i : Int) - t) stolen ≤ 9223372036854775807 by omega), wi i (by omega)]; exact q1
  ·have p := h.push (g' := g) t (rd A (i : Int) - t) (by omega) (by omega) (by rw [if_neg hth]; omega) (by omega) (fun _ => rfl) h.gn
   obtain ⟨A', T', g', q1, q2, q3⟩ := lived_l0 hst hb hn hs d (i + 1) _ _ _ (by omega) p; refine ⟨A', T', g', ?_, q2, by rw [q3, hA0]⟩; rw [rd_last A _ (i + 1) (by omega)] at q1; refine Ev.up ?_; rw [er] at e1 e2 e4; simp only at e1 e2; simp only [lw_Cart_lived.l0, if_pos (show (i : Int) < (st.length : Int) by omega), if_pos (show (0 : Int) ≤ (i : Int) by omega), rdA st i hi, e1, e2, e3, Option.bind_some, e4, if_neg hth, if_pos (show A.length < 17592186044416 by omega), if_pos (show T.length < 17592186044416 by omega), wr (show -9223372036854775808 ≤ rd A (i : Int) - t ∧ rd A (i : Int) - t ≤ 9223372036854775807 by omega), wi i (by omega)]; exact q1
theorem lived_f (ha : 0 ≤ a ∧ a ≤ 65535) (hst : ∀ s ∈ toSt st, stB s) (hb : ∀ x ∈ l2, ub x) (hn : st.length ≤ 1000) (hs : 0 ≤ stolen ∧ stolen ≤ 1000) :
  ∃ A T g, Ev (fun k => lw_Cart_lived.f k l0 a l2 l3 st wg th stolen) (A, T, g) ∧ LvP (toSt st) th st.length g A T ∧ rd A 0 = a % 401 := by
 have hm : 0 ≤ a % 401 ∧ a % 401 ≤ 400 := by omega
 have p : LvP (toSt st) th 0 0 [a % 401] [] := ⟨rfl, rfl, fun j hj => by
  obtain rfl : j = 0 := by omega
  exact hm, fun j hj => absurd hj (Nat.not_lt_zero _), fun _ => rfl, Int.le_refl _⟩
 obtain ⟨A, T, g, q1, q2, q3⟩ := lived_l0 l0 a l2 l3 st wg th stolen hst hb hn hs st.length 0 0 _ _ (by omega) p; refine ⟨A, T, g, ?_, q2, q3⟩
 unfold lw_Cart_lived.f
 rw [wr (by omega), tm ha.1]; exact q1
end
def wOk (n : Nat) (x : Wg) : Prop := (0 ≤ x.p ∧ x.p ≤ n) ∧ (0 ≤ x.r ∧ x.r ≤ 400) ∧ (0 ≤ x.o ∧ x.o ≤ 7)
def wHit (A : List Int) (x : Wg) : Prop := x.r - x.o ≤ rd A x.p ∧ rd A x.p ≤ x.r + x.o
section
variable (l0 : List S76) (a : Int) (l2 : List Int) (l3 : List S136) (st : List S41) (n : Nat) (A sp : List Int)
theorem weighed_l0 (hl3 : ∀ x ∈ l3, ub x.f0 ∧ ub x.f1 ∧ ub x.f2) (hA : A.length = n + 1) (hn : n ≤ 100) (hb : ∀ j : Nat, j ≤ n → 0 ≤ rd A (j : Int) ∧ rd A (j : Int) ≤ 400) (hsp : ∀ x ∈ sp, ub x) : ∀ (d i : Nat) (ws : List S80), i + d = 6 → ws.length = i → (∀ x ∈ toWg ws, wOk n x ∧ (sp = [] → wHit A x)) →
  ∃ ws', Ev (fun k => lw_Cart_weighed.l0 k A sp (i : Int) l0 a l2 l3 st ws) (st, ws') ∧ ws'.length ≤ 6 ∧ ∀ x ∈ toWg ws', wOk n x ∧ (sp = [] → wHit A x)
 | 0, i, ws, hd, hl, hw => by
  obtain rfl : i = 6 := by omega
  refine ⟨ws, ?_, by omega, hw⟩; refine Ev.up ?_; simp only [lw_Cart_weighed.l0]
  by_cases h : ((6 : Nat) : Int) < (l3.length : Int)
  ·simp only [if_pos h, decide_eq_false (show ¬ ((6 : Nat) : Int) < 6 by omega)]
   refine Ev.up ?_; simp only [lw_Cart_weighed.j1, Bool.false_eq_true, if_false]; exact Ev.now _
  ·simp only [if_neg h]
   refine Ev.up ?_; simp only [lw_Cart_weighed.j1, Bool.false_eq_true, if_false]; exact Ev.now _
 | d + 1, i, ws, hd, hl, hw => by
  by_cases hi : i < l3.length
  ·have hm : rd_T136 l3 (i : Int) ∈ l3 := by
    have e : rd_T136 l3 (i : Int) = l3[i] := by simp [rd_T136, hi]
    rw [e]; exact List.getElem_mem _
   obtain ⟨⟨h1, h2⟩, ⟨h3, h4⟩, h5, h6⟩ := hl3 _ hm
   have next : ∀ x : S80, wOk n ⟨x.f0, x.f1, x.f2⟩ → (sp = [] → wHit A ⟨x.f0, x.f1, x.f2⟩) → ∃ ws', Ev (fun k => lw_Cart_weighed.l0 k A sp ((i + 1 : Nat) : Int) l0 a l2 l3 st (ws ++ [x])) (st, ws') ∧ ws'.length ≤ 6 ∧ ∀ x ∈ toWg ws', wOk n x ∧ (sp = [] → wHit A x) := by
    intro x q1 q2; refine weighed_l0 hl3 hA hn hb hsp d (i + 1) (ws ++ [x]) (by omega) (by simp [hl]) ?_; intro y h; simp only [toWg, List.map_append, List.map_cons, List.map_nil, List.mem_append, List.mem_singleton] at h
    rcases h with h | h
    ·exact hw y h
    ·rw [h]; exact ⟨q1, q2⟩
   generalize hx : rd_T136 l3 (i : Int) = x at *
   have hP : ((x.f0 % (A.length : Int)).toNat : Int) = x.f0 % (A.length : Int) := by
    have := Int.emod_nonneg x.f0 (show (A.length : Int) ≠ 0 by omega); omega
   have hP2 : x.f0 % (A.length : Int) < (A.length : Int) := Int.emod_lt_of_pos _ (by omega); have hv := hb (x.f0 % (A.length : Int)).toNat (by omega); rw [hP] at hv
   have hO : 0 ≤ x.f1 % 8 ∧ x.f1 % 8 ≤ 7 := by omega
   have hM0 : 0 ≤ x.f2 % (2 * (x.f1 % 8) + 1) := Int.emod_nonneg _ (by omega); have hM1 : x.f2 % (2 * (x.f1 % 8) + 1) < 2 * (x.f1 % 8) + 1 := Int.emod_lt_of_pos _ (by omega)
   have hok : ∀ R : Int, wOk n ⟨x.f0 % (A.length : Int), max 0 (min 400 R), x.f1 % 8⟩ := by
    intro R
    unfold wOk
    simp only; omega
   have hhit : wHit A ⟨x.f0 % (A.length : Int), max 0 (min 400 (rd A (x.f0 % (A.length : Int)) + x.f2 % (2 * (x.f1 % 8) + 1) - x.f1 % 8)), x.f1 % 8⟩ := by
    unfold wHit
    simp only; omega
   have enter : ∀ r, Ev (fun k => lw_Cart_weighed.j1 k A sp (i : Int) true l0 a l2 l3 st ws) r → Ev (fun k => lw_Cart_weighed.l0 k A sp (i : Int) l0 a l2 l3 st ws) r := by
    intro r hr; refine Ev.up ?_; simp only [lw_Cart_weighed.l0, if_pos (show (i : Int) < (l3.length : Int) by omega), decide_eq_true (show (i : Int) < 6 by omega)]; exact hr
   generalize hPg : x.f0 % (A.length : Int) = P at *
   generalize hOg : x.f1 % 8 = O at *
   generalize hMg : x.f2 % (2 * O + 1) = M at *
   by_cases c1 : (i : Int) < (sp.length : Int)
   ·have hsi := hsp _ (rd_in (l := sp) (j := (i : Int)) (by omega) c1)
    obtain ⟨s1, s2⟩ := hsi
    have hne : sp ≠ [] := by intro e; rw [e] at c1; simp at c1; omega
    by_cases c2 : rd sp (i : Int) % 4 = 0
    ·obtain ⟨ws', q1, q2⟩ := next ⟨P, max 0 (min 400 (rd A P + M - O + rd sp (i : Int))), O⟩ (hok _) (fun e => absurd e hne)
     refine ⟨ws', enter _ ?_, q2⟩; refine Ev.up ?_; simp only [lw_Cart_weighed.j1, if_true, if_pos (show (0 : Int) ≤ (i : Int) by omega), if_pos (show (i : Int) < (l3.length : Int) by omega), hx, if_neg (show ¬ (A.length : Int) = 0 by omega), wr (x := x.f0) (by omega), wr (x := x.f1) (by omega), wr (x := x.f2) (by omega), tm h1, tm h3, tm h5, hPg, hOg, if_pos (show 0 ≤ P by omega), if_pos (show P < (A.length : Int) by omega), wr (x := 2 * O) (by omega), wr (x := 2 * O + 1) (by omega), hMg, if_neg (show ¬ 2 * O + 1 = 0 by omega), if_pos c1, tm s1, if_pos c2, if_pos (show ws.length < 5864062014805 by omega), mx_max1, mn_min, wr (x := rd sp (i : Int)) (by omega), wr (x := rd A P + M) (by omega), wr (x := rd A P + M - O) (by omega), wr (x := rd A P + M - O + rd sp (i : Int)) (by omega), wi i (by omega)]; exact q1
    ·obtain ⟨ws', q1, q2⟩ := next ⟨P, max 0 (min 400 (rd A P + M - O)), O⟩ (hok _) (fun e => absurd e hne)
     refine ⟨ws', enter _ ?_, q2⟩; refine Ev.up ?_; simp only [lw_Cart_weighed.j1, if_true, if_pos (show (0 : Int) ≤ (i : Int) by omega), if_pos (show (i : Int) < (l3.length : Int) by omega), hx, if_neg (show ¬ (A.length : Int) = 0 by omega), wr (x := x.f0) (by omega), wr (x := x.f1) (by omega), wr (x := x.f2) (by omega), tm h1, tm h3, tm h5, hPg, hOg, if_pos (show 0 ≤ P by omega), if_pos (show P < (A.length : Int) by omega), wr (x := 2 * O) (by omega), wr (x := 2 * O + 1) (by omega), hMg, if_neg (show ¬ 2 * O + 1 = 0 by omega), if_pos c1, tm s1, if_neg c2, if_pos (show ws.length < 5864062014805 by omega), mx_max1, mn_min, wr (x := rd A P + M) (by omega), wr (x := rd A P + M - O) (by omega), wi i (by omega)]; exact q1
   ·obtain ⟨ws', q1, q2⟩ := next ⟨P, max 0 (min 400 (rd A P + M - O)), O⟩ (hok _) (fun _ => hhit)
    refine ⟨ws', enter _ ?_, q2⟩; refine Ev.up ?_; simp only [lw_Cart_weighed.j1, if_true, if_pos (show (0 : Int) ≤ (i : Int) by omega), if_pos (show (i : Int) < (l3.length : Int) by omega), hx, if_neg (show ¬ (A.length : Int) = 0 by omega), wr (x := x.f0) (by omega), wr (x := x.f1) (by omega), wr (x := x.f2) (by omega), tm h1, tm h3, tm h5, hPg, hOg, if_pos (show 0 ≤ P by omega), if_pos (show P < (A.length : Int) by omega), wr (x := 2 * O) (by omega), wr (x := 2 * O + 1) (by omega), hMg, if_neg (show ¬ 2 * O + 1 = 0 by omega), if_neg c1, if_pos (show ws.length < 5864062014805 by omega), mx_max1, mn_min, wr (x := rd A P + M) (by omega), wr (x := rd A P + M - O) (by omega), wi i (by omega)]; exact q1
  ·refine ⟨ws, ?_, by omega, hw⟩
   refine Ev.up ?_; simp only [lw_Cart_weighed.l0, if_neg (show ¬ (i : Int) < (l3.length : Int) by omega)]; refine Ev.up ?_; simp only [lw_Cart_weighed.j1, Bool.false_eq_true, if_false]; exact Ev.now _
theorem weighed_f (hl3 : ∀ x ∈ l3, ub x.f0 ∧ ub x.f1 ∧ ub x.f2) (hst : st.length ≤ 1000) (hA : A.length = n + 1) (hn : n ≤ 100) (hb : ∀ j : Nat, j ≤ n → 0 ≤ rd A (j : Int) ∧ rd A (j : Int) ≤ 400) (hsp : ∀ x ∈ sp, ub x) :
  ∃ ws', Ev (fun k => lw_Cart_weighed.f k l0 a l2 l3 st [] A sp) (st, ws') ∧ ws'.length ≤ 6 ∧ ∀ x ∈ toWg ws', wOk n x ∧ (sp = [] → wHit A x) := by
 obtain ⟨ws', q1, q2⟩ := weighed_l0 l0 a l2 l3 st n A sp hl3 hA hn hb hsp 6 0 [] (by omega) rfl (fun x h => by cases h); refine ⟨ws', ?_, q2⟩
 unfold lw_Cart_weighed.f
 rw [own_f st [] hst (by simp)]; exact q1
end
end Go.Proofs.YtemingmeidmjkaaDoor.Q
namespace Go.Proofs.YtemingmeidmjkaaDoor.Q
open Go.RowKit Go.Proofs.YtemingmeidmjkaaDoorW.PrintWords Go.Proofs.YtemingmeidmjkaaDoorW.PrintLast Go.Proofs.YtemingmeidmjkaaDoorW.PrintMore
attribute [local go_sem] max2_int min2_int max_two min_two max_three min_three max_four min_four   -- for this text's walks alone
set_option linter.unusedVariables false
set_option linter.unusedSimpArgs false
end Go.Proofs.YtemingmeidmjkaaDoor.Q
namespace Go.Proofs.YtemingmeidmjkaaDoor.Q
open Go.RowKit Go.Proofs.YtemingmeidmjkaaDoorW.PrintWords Go.Proofs.YtemingmeidmjkaaDoorW.PrintLast Go.Proofs.YtemingmeidmjkaaDoorW.PrintMore
attribute [local go_sem] max2_int min2_int max_two min_two max_three min_three max_four min_four   -- for this text's walks alone
set_option linter.unusedVariables false
set_option linter.unusedSimpArgs false
end Go.Proofs.YtemingmeidmjkaaDoor.Q
namespace Go.Proofs.YtemingmeidmjkaaDoor.Q
open Go.RowKit Go.Proofs.YtemingmeidmjkaaDoorW.PrintWords
set_option linter.unusedVariables false
set_option linter.unusedSimpArgs false
def fitB (wg : List Wg) (p w : Int) : Bool := wg.all fun x => !decide (x.p = p) || inB (x.r - x.o) (x.r + x.o) [w]
theorem fitB_iff (wg : List Wg) (p w : Int) : fitB wg p w = true ↔ ∀ x ∈ wg, x.p = p → x.r - x.o ≤ w ∧ w ≤ x.r + x.o := by
 unfold fitB
 simp only [List.all_eq_true, Bool.or_eq_true, Bool.not_eq_true', decide_eq_false_iff_not, inB_one]
 exact ⟨fun h x hx hp => (h x hx).resolve_left (fun hn => hn hp), fun h x hx => by
  by_cases e : x.p = p
  ·exact .inr (h x hx e)
  ·exact .inl e⟩
theorem seen_in (p w : Int) : ∀ (wg : List Wg) (s : Sp), inS (wg.foldl (seenStep p) s) w ↔ inS s w ∧ ∀ x ∈ wg, x.p = p → x.r - x.o ≤ w ∧ w ≤ x.r + x.o
 | [], s => by simp
 | x :: wg, s => by
  rw [List.foldl_cons, seen_in p w wg]
  unfold seenStep
  by_cases e : x.p = p
  ·rw [if_pos e, inS_and]
   simp only [List.mem_cons, forall_eq_or_imp, e, true_implies]
   unfold inS
   simp only
   constructor
   ·rintro ⟨⟨h1, h2⟩, h3⟩; exact ⟨h1, h2, h3⟩
   ·rintro ⟨h1, h2, h3⟩; exact ⟨⟨h1, h2⟩, h3⟩
  ·rw [if_neg e]
   simp only [List.mem_cons, forall_eq_or_imp, e, false_implies, true_and]
theorem fit_seen (wg : List Wg) (p w : Int) (h : 0 ≤ w ∧ w ≤ 400) : fitB wg p w = true ↔ inS (seenS wg p) w := by
 rw [fitB_iff, seenS, seen_in]; simp only [inS]; exact ⟨fun h1 => ⟨h, h1⟩, fun h1 => h1.2⟩
def stpB (st : List Sp) (th : Int) (p w v : Nat) : Bool := if (p : Int) = th then decide ((v : Int) < hiS (rdS st p) w) else inB (loS (rdS st p) w) (hiS (rdS st p) w) [(v : Int)]
def fwB (st : List Sp) (wg : List Wg) (th : Int) : Nat → Nat → Bool
 | 0, w => fitB wg 0 w
 | p + 1, v => fitB wg ((p + 1 : Nat) : Int) v && (List.range 401).any fun w => decide (v ≤ w) && fwB st wg th p w && stpB st th p w v
def fuB (st : List Sp) (wg : List Wg) (th : Int) : Nat → Nat → Nat → Bool
 | 0, p, w => fwB st wg th p w
 | d + 1, p, w => fwB st wg th p w && (List.range (w + 1)).any fun v => fuB st wg th d (p + 1) v && stpB st th p w v
section
variable (st : List S41) (wg : List S80) (hok : RdOk (toSt st) (toWg wg)) (hl : wg.length ≤ 1000) (th : Int) (r : List (List Bool))
end
end Go.Proofs.YtemingmeidmjkaaDoor.Q
namespace Go.Proofs.YtemingmeidmjkaaDoor.Q
open Go.RowKit Go.Proofs.YtemingmeidmjkaaDoorW.PrintWords
set_option linter.unusedVariables false
set_option linter.unusedSimpArgs false
def ad : Option Sp → Option Sp → Option Sp
 | some a, some b => some ⟨a.lo + b.lo, a.hi + b.hi⟩
 | none, _ => none
 | some _, none => none
theorem ad_none (o : Option Sp) : ad o none = none := by cases o <;> rfl
theorem ad_comm (o p : Option Sp) : ad o p = ad p o := by
 cases o <;> cases p <;> simp only [ad, Int.add_comm]
theorem ad_mo (o p c : Option Sp) : ad (mo o p) c = mo (ad o c) (ad p c) := by
 cases c with
 | none => simp only [ad_none]; rfl
 | some c =>
  cases o with
  | none => rfl
  | some a =>
   cases p with
   | none => rfl
   | some b =>
    simp only [mo, ad, Option.some.injEq, Sp.mk.injEq]; omega
theorem fo_ad (f : Nat → Option Sp) (c : Option Sp) : ∀ n, ad (fo f n) c = fo (fun j => ad (f j) c) n
 | 0 => by cases c <;> rfl
 | n + 1 => by rw [fo_succ, fo_succ, ad_mo, fo_ad f c n]
theorem fo_da (f : Nat → Option Sp) (c : Option Sp) (n : Nat) : ad c (fo f n) = fo (fun j => ad c (f j)) n := by
 rw [ad_comm, fo_ad]
 exact fo_congr fun j _ => ad_comm _ _
theorem fo_mo (f g : Nat → Option Sp) : ∀ n, fo (fun j => mo (f j) (g j)) n = mo (fo f n) (fo g n)
 | 0 => rfl
 | n + 1 => by
  rw [fo_succ, fo_succ, fo_succ, fo_mo f g n, mo_assoc, mo_assoc]
  congr 1
  rw [← mo_assoc, ← mo_assoc, mo_comm (fo g n)]
theorem fo_swap (F : Nat → Nat → Option Sp) (m : Nat) : ∀ n, fo (fun i => fo (fun j => F i j) m) n = fo (fun j => fo (fun i => F i j) n) m
 | 0 => by
  rw [show (fun j => fo (fun i => F i j) 0) = fun _ => none from rfl, fo_none fun _ _ => rfl]; rfl
 | n + 1 => by
  rw [fo_succ, fo_swap F m n, ← fo_mo]
  exact fo_congr fun j _ => (fo_succ (fun i => F i j) n).symm
theorem fo_add (f : Nat → Option Sp) (n : Nat) : ∀ m, fo f (n + m) = mo (fo f n) (fo (fun j => f (n + j)) m)
 | 0 => (mo_none _).symm
 | m + 1 => by rw [← Nat.add_assoc, fo_succ, fo_add f n m, fo_succ, mo_assoc]
theorem fo_shift (f : Nat → Option Sp) (a m N : Nat) (h : a + m ≤ N) (hn : ∀ j, j < N → (j < a ∨ a + m ≤ j) → f j = none) : fo f N = fo (fun j => f (a + j)) m := by
 obtain ⟨r, rfl⟩ : ∃ r, N = a + m + r := ⟨N - (a + m), by omega⟩; rw [fo_add f (a + m) r, fo_add f a m, fo_none (f := f) (n := a) (fun j hj => hn j (by omega) (.inl hj)), fo_none (n := r) (fun j hj => hn (a + m + j) (by omega) (.inr (by omega))), mo_none]; rfl
theorem fo_seen (wg : List Wg) (p : Int) (f : Int → Option Sp) (hf : ∀ w : Int, ¬ inS (seenS wg p) w → f w = none) : fo (fun w => f (w : Int)) 401 = fo (fun j => f ((seenS wg p).lo + (j : Int))) (spN (seenS wg p)) := by
 obtain ⟨h1, h2⟩ := seenS_ok wg p
 generalize seenS wg p = s at *
 by_cases hs : s.lo > s.hi
 ·have e : spN s = 0 := by unfold spN; omega
  rw [e, fo_none fun j _ => hf _ (by unfold inS; omega)]; rfl
 ·have hb : 0 ≤ s.lo := h1
  obtain ⟨a, ha⟩ : ∃ a : Nat, s.lo = (a : Int) := ⟨s.lo.toNat, by omega⟩; rw [fo_shift (fun w => f (w : Int)) a (spN s) 401 (by unfold spN; omega) (fun j _ hj => hf _ (by unfold inS; unfold spN at hj; omega))]
  refine fo_congr fun j _ => ?_
  rw [ha]
  congr 1
def sh (t : Sp) (w v : Int) : Option Sp → Option Sp
 | none => none
 | some a => some ⟨a.lo + max 0 (loS t w - v), a.hi + (hiS t w - v)⟩
def bwN (st : List Sp) (wg : List Wg) : Nat → Nat → Nat → Option Sp
 | 0, p, w => if fitB wg (p : Int) (w : Int) then some ⟨0, 0⟩ else none
 | d + 1, p, w => if fitB wg (p : Int) (w : Int) then fo (fun v => sh (rdS st (p : Int)) (w : Int) (v : Int) (bwN st wg d (p + 1) v)) (hiS (rdS st (p : Int)) (w : Int) + 1).toNat else none
theorem bwN_fit {st : List Sp} {wg : List Wg} {d p w : Nat} (h : fitB wg (p : Int) (w : Int) = false) : bwN st wg d p w = none := by
 cases d <;> simp [bwN, h]
section
variable {st : List Sp} {wg : List Wg}
theorem bw_step (hok : RdOk st wg) (i d : Nat) (hi : i + (d + 1) = st.length) :
  fo (fun w => ad (msN st wg i (w : Int)) (bwN st wg (d + 1) i w)) 401 = fo (fun v => ad (msN st wg (i + 1) (v : Int)) (bwN st wg d (i + 1) v)) 401 := by
 have hst := hok.at (i : Int) (by omega) (by omega)
 have hms : ∀ w : Int, ¬ inS (seenS wg (i : Int)) w → msN st wg i w = none := by
  intro w hw
  cases h : msN st wg i w with
  | none => rfl
  | some s => exact absurd (msN_ok hok i (by omega) w s h).1 hw
 -- forwards
 have e1 : fo (fun v => ad (msN st wg (i + 1) (v : Int)) (bwN st wg d (i + 1) v)) 401 = fo (fun v => fo (fun w => ad (con (rdS st (i : Int)) (seenS wg ((i + 1 : Nat) : Int)) (v : Int) (w : Int) (msN st wg i (w : Int))) (bwN st wg d (i + 1) v)) 401) 401 := by
  refine fo_congr fun v hv => ?_
  rw [msN, msStep, ← fo_seen wg (i : Int) (fun w => con (rdS st (i : Int)) (seenS wg ((i + 1 : Nat) : Int)) (v : Int) w (msN st wg i w)) (fun w hw => by rw [hms w hw]; rfl), fo_ad]
 -- backwards
 have e2 : fo (fun w => ad (msN st wg i (w : Int)) (bwN st wg (d + 1) i w)) 401 = fo (fun w => fo (fun v => ad (msN st wg i (w : Int)) (if (v : Int) ≤ hiS (rdS st (i : Int)) (w : Int) then sh (rdS st (i : Int)) (w : Int) (v : Int) (bwN st wg d (i + 1) v) else none)) 401) 401 := by
  refine fo_congr fun w hw => ?_
  cases hm : msN st wg i (w : Int) with
  | none =>
   rw [fo_none (f := fun v => ad none (if (v : Int) ≤ hiS (rdS st (i : Int)) (w : Int) then sh (rdS st (i : Int)) (w : Int) (v : Int) (bwN st wg d (i + 1) v) else none)) (fun j _ => rfl)]; rfl
  | some a =>
   have hin := (msN_ok hok i (by omega) _ _ hm).1; have hfit := (fit_seen wg (i : Int) (w : Int) (by omega)).2 hin; have hle := hiS_le hst (w := (w : Int)) (by omega); have h0 := loS_nn hst (w := (w : Int)) (by omega); have h1 := loS_hiS hst (w := (w : Int)) (by omega)
   have e3 : fo (fun v => if ((v : Nat) : Int) ≤ hiS (rdS st (i : Int)) (w : Int) then sh (rdS st (i : Int)) (w : Int) (v : Int) (bwN st wg d (i + 1) v) else none) 401 = fo (fun v => sh (rdS st (i : Int)) (w : Int) (v : Int) (bwN st wg d (i + 1) v)) (hiS (rdS st (i : Int)) (w : Int) + 1).toNat := by
    rw [fo_shift (fun v => if ((v : Nat) : Int) ≤ hiS (rdS st (i : Int)) (w : Int) then sh (rdS st (i : Int)) (w : Int) (v : Int) (bwN st wg d (i + 1) v) else none) 0 (hiS (rdS st (i : Int)) (w : Int) + 1).toNat 401 (by omega) (fun j _ hj => by rw [if_neg (by omega)])]
    refine fo_congr fun v hv => ?_
    rw [Nat.zero_add, if_pos (by omega)]
   rw [bwN, if_pos hfit, ← fo_da, e3]
 rw [e1, e2, fo_swap]
 refine fo_congr fun v hv => fo_congr fun w hw => ?_
 cases hb : bwN st wg d (i + 1) v with
 | none =>
  rw [ad_none]
  have : (if (v : Int) ≤ hiS (rdS st (i : Int)) (w : Int) then sh (rdS st (i : Int)) (w : Int) (v : Int) none else none) = none := by split <;> rfl
  rw [this, ad_none]
 | some b =>
  have hfit : fitB wg ((i + 1 : Nat) : Int) (v : Int) = true := by
   cases hf : fitB wg ((i + 1 : Nat) : Int) (v : Int)
   ·rw [bwN_fit hf] at hb
    cases hb
   ·rfl
  have hin := (fit_seen wg ((i + 1 : Nat) : Int) (v : Int) (by omega)).1 hfit
  unfold inS at hin
  cases msN st wg i (w : Int) with
  | none => rfl
  | some a =>
   simp only [con]
   by_cases hv2 : (v : Int) ≤ hiS (rdS st (i : Int)) (w : Int)
   ·rw [if_pos hv2, if_pos (by omega)]
    simp only [sh, ad, Option.some.injEq, Sp.mk.injEq]; omega
   ·rw [if_neg hv2, if_neg (by omega)]
    rfl
theorem bw_all (hok : RdOk st wg) : ∀ (d i : Nat), i + d = st.length → fo (fun w => ad (msN st wg i (w : Int)) (bwN st wg d i w)) 401 = msAll st wg
 | 0, i, hi => by
  obtain rfl : i = st.length := by omega
  have hms : ∀ w : Int, ¬ inS (seenS wg (st.length : Int)) w → msN st wg st.length w = none := by
   intro w hw
   cases h : msN st wg st.length w with
   | none => rfl
   | some s => exact absurd (msN_ok hok st.length (by omega) w s h).1 hw
  rw [msAll, ← fo_seen wg (st.length : Int) (fun w => msN st wg st.length w) hms]
  refine fo_congr fun w hw => ?_
  cases hm : msN st wg st.length (w : Int) with
  | none => rfl
  | some a =>
   have hin := (msN_ok hok st.length (by omega) _ _ hm).1; rw [bwN, if_pos ((fit_seen wg (st.length : Int) (w : Int) (by omega)).2 hin)]
   simp [ad]
 | d + 1, i, hi => by
  rw [bw_step hok i d hi]; exact bw_all hok d (i + 1) (by omega)
theorem bw_eq (hok : RdOk st wg) : fo (fun w => bwN st wg st.length 0 w) 401 = msAll st wg := by
 rw [← bw_all hok st.length 0 (by omega)]
 refine fo_congr fun w hw => ?_
 cases hf : fitB wg 0 (w : Int)
 ·rw [bwN_fit (p := 0) hf, ad_none]
 ·have hin := (fit_seen wg 0 (w : Int) (by omega)).1 hf
  have : msN st wg 0 (w : Int) = some ⟨0, 0⟩ := by
   unfold inS at hin
   simp only [msN]; rw [if_pos (by unfold spN; omega)]
  rw [this]
  cases bwN st wg st.length 0 w with
  | none => rfl
  | some b => simp [ad]
theorem fo_lo {B : Int} {f : Nat → Option Sp} : ∀ {n : Nat}, (∀ j, j < n → ∀ s, f j = some s → s.lo ≤ B) → ∀ s, fo f n = some s → s.lo ≤ B
 | 0, _, s, h => by cases h
 | n + 1, hf, s, h => by
  rw [fo_succ] at h; have ih := fo_lo (fun j hj => hf j (show j < n + 1 by omega)) (n := n)
  cases h1 : fo f n with
  | none =>
   rw [h1] at h; exact hf n (by omega) s h
  | some a =>
   have ha := ih a h1; rw [h1] at h
   cases h2 : f n with
   | none =>
    rw [h2] at h; rw [← Option.some.inj h]; exact ha
   | some b =>
    rw [h2] at h; rw [← Option.some.inj h]; simp only; omega
theorem bwN_ok (hok : RdOk st wg) : ∀ (d p w : Nat), p + d = st.length → w ≤ 400 → ∀ s, bwN st wg d p w = some s → bdS 0 (400 * (d : Int)) s ∧ s.lo ≤ (w : Int)
 | 0, p, w, hp, hw, s, h => by
  simp only [bwN] at h
  split at h
  ·rw [← Option.some.inj h]
   simp [bdS]
  ·cases h
 | d + 1, p, w, hp, hw, s, h => by
  have hst := hok.at (p : Int) (by omega) (by omega); have g1 := loS_nn hst (w := (w : Int)) (by omega); have g2 := loS_hiS hst (w := (w : Int)) (by omega); have g3 := hiS_le hst (w := (w : Int)) (by omega); simp only [bwN] at h
  split at h
  ·have key : ∀ j, j < (hiS (rdS st (p : Int)) (w : Int) + 1).toNat → ∀ s, sh (rdS st (p : Int)) (w : Int) (j : Int) (bwN st wg d (p + 1) j) = some s → bdS 0 (400 * ((d + 1 : Nat) : Int)) s ∧ s.lo ≤ (w : Int) := by
    intro j hj s hs
    cases hb : bwN st wg d (p + 1) j with
    | none => rw [hb] at hs; cases hs
    | some a =>
     have ih := bwN_ok hok d (p + 1) j (by omega) (by omega) a hb; rw [hb] at hs; simp only [sh, Option.some.injEq] at hs; rw [← hs]
     unfold bdS at *
     simp only; omega
   exact ⟨fo_bd (fun j hj s hs => (key j hj s hs).1) s h, fo_lo (fun j hj s hs => (key j hj s hs).2) s h⟩
  ·cases h
end
end Go.Proofs.YtemingmeidmjkaaDoor.Q
namespace Go.Proofs.YtemingmeidmjkaaDoor.Q
open Go.RowKit Go.Proofs.YtemingmeidmjkaaDoorW.PrintWords
set_option linter.unusedVariables false
set_option linter.unusedSimpArgs false
theorem trimLo_in {st after : Sp} (h : stB st) (w : Int) : ∀ (n : Nat) (s : Sp), s.hi - s.lo + 1 ≤ n → (inS (trimLo st after n s) w ↔ inS s w ∧ after.lo ≤ hiS st w)
 | 0, s, hn => by
  unfold trimLo inS
  omega
 | n + 1, s, hn => by
  unfold trimLo
  by_cases h1 : s.lo > s.hi
  ·rw [if_pos h1]
   unfold inS
   omega
  ·rw [if_neg h1]
   by_cases h2 : hiS st s.lo < after.lo
   ·rw [if_pos h2, trimLo_in h w n _ (by simp only; omega)]
    unfold inS
    simp only
    constructor
    ·rintro ⟨h3, h4⟩; exact ⟨by omega, h4⟩
    ·rintro ⟨h3, h4⟩
     refine ⟨⟨?_, h3.2⟩, h4⟩
     by_cases e : w = s.lo
     ·rw [e] at h4; omega
     ·omega
   ·rw [if_neg h2]
    constructor
    ·intro h3
     have := hiS_mono h (w := s.lo) (w' := w) h3.1; exact ⟨h3, by omega⟩
    ·exact fun h3 => h3.1
theorem trimHi_in {st after : Sp} (h : stB st) (w : Int) : ∀ (n : Nat) (s : Sp), s.hi - s.lo + 1 ≤ n → (inS (trimHi st after n s) w ↔ inS s w ∧ loS st w ≤ after.hi)
 | 0, s, hn => by
  unfold trimHi inS
  omega
 | n + 1, s, hn => by
  unfold trimHi
  by_cases h1 : s.lo > s.hi
  ·rw [if_pos h1]
   unfold inS
   omega
  ·rw [if_neg h1]
   by_cases h2 : loS st s.hi > after.hi
   ·rw [if_pos h2, trimHi_in h w n _ (by simp only; omega)]
    unfold inS
    simp only
    constructor
    ·rintro ⟨h3, h4⟩; exact ⟨by omega, h4⟩
    ·rintro ⟨h3, h4⟩
     refine ⟨⟨h3.1, ?_⟩, h4⟩
     by_cases e : w = s.hi
     ·rw [e] at h4; omega
     ·omega
   ·rw [if_neg h2]
    constructor
    ·intro h3
     have := loS_mono h (w := w) (w' := s.hi) h3.2; exact ⟨h3, by omega⟩
    ·exact fun h3 => h3.1
theorem ok_len {s : Sp} (h : okS s) : s.hi - s.lo + 1 ≤ ((402 : Nat) : Int) := by
 unfold okS at h
 omega
theorem back_in {st s after : Sp} (h : stB st) (hs : okS s) (w : Int) : inS (backS st s after) w ↔ inS s w ∧ ∃ v, inS after v ∧ loS st w ≤ v ∧ v ≤ hiS st w := by
 unfold backS
 by_cases ha : after.lo > after.hi
 ·rw [if_pos ha]
  constructor
  ·intro h1; unfold inS at h1; omega
  ·rintro ⟨_, v, h1, _⟩; unfold inS at h1; omega
 ·rw [if_neg ha, trimHi_in h w 402 _ (ok_len (trimLo_ok _ _ _ _ hs)), trimLo_in h w 402 _ (ok_len hs)]
  constructor
  ·rintro ⟨⟨h1, h2⟩, h3⟩
   have h0 : 0 ≤ w := by unfold okS inS at *; omega
   exact ⟨h1, (meets st after w h h0).2 ⟨by omega, h2, h3⟩⟩
  ·rintro ⟨h1, h2⟩
   have h0 : 0 ≤ w := by unfold okS inS at *; omega
   obtain ⟨_, h3, h4⟩ := (meets st after w h h0).1 h2; exact ⟨⟨h1, h3⟩, h4⟩
theorem on_in {st s : Sp} (h : stB st) (hs : okS s) (v : Int) : inS (onS st s) v ↔ ∃ w, inS s w ∧ loS st w ≤ v ∧ v ≤ hiS st w := by
 by_cases hn : s.lo > s.hi
 ·constructor
  ·intro h1
   unfold onS at h1
   rw [if_pos hn] at h1
   unfold inS at h1
   omega
  ·rintro ⟨w, h1, _⟩
   unfold inS at h1
   omega
 ·exact onS_mem h s (by unfold okS at hs; omega) v
theorem goL_rd : ∀ (ts l : List Sp), l.length = ts.length + 1 → (∀ i : Nat, i < ts.length → rdS (goL ts l) (i : Int) = backS (rdS ts (i : Int)) (rdS l (i : Int)) (rdS (goL ts l) ((i + 1 : Nat) : Int))) ∧ rdS (goL ts l) (ts.length : Int) = rdS l (ts.length : Int)
 | [], l, h => ⟨fun i hi => by simp at hi, by cases l <;> rfl⟩
 | t :: ts, [], h => by simp at h
 | t :: ts, s :: l, h => by
  have hl : l.length = ts.length + 1 := by simpa using h
  obtain ⟨h1, h2⟩ := goL_rd ts l hl
  have sh : ∀ (x : Sp) (m : List Sp) (j : Nat), rdS (x :: m) ((j + 1 : Nat) : Int) = rdS m (j : Int) := fun x m j => by
   unfold rdS
   rw [Int.toNat_natCast, Int.toNat_natCast, List.getD_cons_succ]
  refine ⟨fun i hi => ?_, ?_⟩
  ·match i with
   | 0 =>
    rw [goL, sh]
    have e : (goL ts l).headD z_Sp = rdS (goL ts l) ((0 : Nat) : Int) := by
     cases goL ts l <;> rfl
    rw [e]; rfl
   | i + 1 =>
    rw [goL, sh, sh, sh, sh]; exact h1 i (by simpa using hi)
  ·rw [goL, List.length_cons, sh, sh]
   exact h2
section
variable {st : List Sp} {wg : List Wg}
theorem stp_hon {p w v : Nat} : stpB st (-1) p w v = true ↔ loS (rdS st p) w ≤ v ∧ (v : Int) ≤ hiS (rdS st p) w := by
 unfold stpB
 rw [if_neg (by omega), inB_one]
theorem fw_come (hok : RdOk st wg) : ∀ (p : Nat), p ≤ st.length → ∀ w : Nat, w ≤ 400 → (fwB st wg (-1) p w = true ↔ inS (comeAt st wg p) (w : Int))
 | 0, _, w, hw => fit_seen wg 0 (w : Int) (by omega)
 | p + 1, hp, v, hv => by
  have ih := fw_come hok p (by omega); have ho := comeAt_ok hok p (by omega); have hst := hok.at (p : Int) (by omega) (by omega); rw [comeAt, inS_and, on_in hst ho, fwB, Bool.and_eq_true, fit_seen wg _ (v : Int) (by omega), List.any_eq_true]
  constructor
  ·rintro ⟨h1, w, hw, h2⟩
   have hw4 := List.mem_range.1 hw; simp only [Bool.and_eq_true, decide_eq_true_eq] at h2; exact ⟨⟨(w : Int), (ih w (by omega)).1 h2.1.2, stp_hon.1 h2.2⟩, h1⟩
  ·rintro ⟨⟨w, h1, h2, h3⟩, h4⟩
   have hb : 0 ≤ w ∧ w ≤ 400 := by unfold okS inS at *; omega
   have h5 := hiS_le hst (w := w) hb.1; obtain ⟨m, rfl⟩ : ∃ m : Nat, w = (m : Int) := ⟨w.toNat, by omega⟩; refine ⟨h4, m, List.mem_range.2 (by omega), ?_⟩; simp only [Bool.and_eq_true, decide_eq_true_eq]; exact ⟨⟨by omega, (ih m (by omega)).2 h1⟩, stp_hon.2 ⟨h2, h3⟩⟩
theorem comeL_rd' (st : List Sp) (wg : List Wg) (j : Nat) (h : j ≤ st.length) : rdS (comeL st wg) (j : Int) = comeAt st wg j := by
 rw [rdS_nat _ _ (by rw [comeL_len]; omega)]
 simp [comeL]
theorem honL_okS (hok : RdOk st wg) (p : Nat) (hp : p ≤ st.length) : okS (rdS (honL st wg) (p : Int)) := by
 rw [rdS_nat _ _ (by rw [honL_len]; omega)]; exact goL_ok st (comeL st wg) (comeL_ok hok) _ (List.getElem_mem _)
theorem fu_hon (hok : RdOk st wg) : ∀ (d p : Nat), p + d = st.length → ∀ w : Nat, w ≤ 400 → (fuB st wg (-1) d p w = true ↔ inS (rdS (honL st wg) (p : Int)) (w : Int))
 | 0, p, hp, w, hw => by
  obtain rfl : p = st.length := by omega
  have h := (goL_rd st (comeL st wg) (comeL_len st wg)).2; rw [honL, h, comeL_rd' st wg _ (Nat.le_refl _)]; exact fw_come hok _ (Nat.le_refl _) w hw
 | d + 1, p, hp, w, hw => by
  have ih := fu_hon hok d (p + 1) (by omega); have h := (goL_rd st (comeL st wg) (comeL_len st wg)).1 p (by omega); have hst := hok.at (p : Int) (by omega) (by omega); have ho := comeAt_ok hok p (by omega); have ho2 := honL_okS hok (p + 1) (by omega); rw [honL, h, comeL_rd' st wg p (by omega), back_in hst ho, fuB, Bool.and_eq_true, fw_come hok p (by omega) w hw, List.any_eq_true]
  constructor
  ·rintro ⟨h1, v, hv, h2⟩
   have hv4 := List.mem_range.1 hv; simp only [Bool.and_eq_true] at h2; exact ⟨h1, (v : Int), (ih v (by omega)).1 h2.1, stp_hon.1 h2.2⟩
  ·rintro ⟨h1, v, h2, h3, h4⟩
   have h5 := hiS_le hst (w := (w : Int)) (by omega)
   have hv0 : 0 ≤ v := by
    have : inS (rdS (honL st wg) ((p + 1 : Nat) : Int)) v := h2
    unfold okS inS at *
    omega
   obtain ⟨m, rfl⟩ : ∃ m : Nat, v = (m : Int) := ⟨v.toNat, by omega⟩; refine ⟨h1, m, List.mem_range.2 (by omega), ?_⟩; rw [Bool.and_eq_true]; exact ⟨(ih m (by omega)).2 h2, stp_hon.2 ⟨h3, h4⟩⟩
theorem hon_is (hok : RdOk st wg) : honB st wg = true ↔ ∃ w : Nat, w ≤ 400 ∧ fuB st wg (-1) st.length 0 w = true := by
 have hn : honB st wg = true ↔ ∀ p : Nat, p ≤ st.length → ¬ (rdS (honL st wg) (p : Int)).lo > (rdS (honL st wg) (p : Int)).hi := by
  unfold honB
  rw [Bool.not_eq_true', List.any_eq_false]
  constructor
  ·intro h p hp
   have h1 := h (rdS (honL st wg) (p : Int)) (by rw [rdS_nat _ _ (by rw [honL_len]; omega)]; exact List.getElem_mem _)
   simpa [noneB] using h1
  ·intro h s hs
   obtain ⟨i, hi, rfl⟩ := List.getElem_of_mem hs; have h1 := h i (by rw [honL_len] at hi; omega); rw [rdS_nat _ _ hi] at h1
   simpa [noneB] using h1
 rw [hn]
 constructor
 ·intro h
  have h0 := h 0 (by omega); have ho := honL_okS hok 0 (by omega)
  generalize hs : rdS (honL st wg) ((0 : Nat) : Int) = s at *
  have hb : 0 ≤ s.lo ∧ s.lo ≤ s.hi ∧ s.hi ≤ 400 := by unfold okS at ho; omega
  refine ⟨s.lo.toNat, by omega, (fu_hon hok st.length 0 (by omega) _ (by omega)).2 ?_⟩; rw [hs]
  unfold inS
  omega
 ·rintro ⟨w, hw, h⟩
  have key : ∀ (d p : Nat), p + d = st.length → (∃ w : Nat, w ≤ 400 ∧ fuB st wg (-1) d p w = true) → ∀ q : Nat, p ≤ q → q ≤ st.length → ¬ (rdS (honL st wg) (q : Int)).lo > (rdS (honL st wg) (q : Int)).hi := by
   intro d
   induction d with
   | zero =>
    rintro p hp ⟨w, hw, h⟩ q h1 h2
    obtain rfl : q = p := by omega
    have := (fu_hon hok 0 q (by omega) w hw).1 h
    unfold inS at this
    omega
   | succ d ih =>
    rintro p hp ⟨w, hw, h⟩ q h1 h2
    by_cases e : q = p
    ·subst e
     have := (fu_hon hok (d + 1) q (by omega) w hw).1 h
     unfold inS at this
     omega
    ·rw [fuB, Bool.and_eq_true, List.any_eq_true] at h
     obtain ⟨_, v, hv, h3⟩ := h; have hv4 := List.mem_range.1 hv; rw [Bool.and_eq_true] at h3; exact ih (p + 1) (by omega) ⟨v, by omega, h3.1⟩ q (by omega) h2
  exact fun p hp => key st.length 0 (by omega) ⟨w, hw, h⟩ p (by omega) hp
end
end Go.Proofs.YtemingmeidmjkaaDoor.Q
namespace Go.Proofs.YtemingmeidmjkaaDoor.Q
open Go.RowKit Go.Proofs.YtemingmeidmjkaaDoorW.PrintWords
set_option linter.unusedVariables false
set_option linter.unusedSimpArgs false
section
variable {st : List Sp} {wg : List Wg} {s : Nat}
theorem stp_ne {p w v : Nat} (h : p ≠ s) : stpB st (s : Int) p w v = true ↔ loS (rdS st p) w ≤ v ∧ (v : Int) ≤ hiS (rdS st p) w := by
 unfold stpB
 rw [if_neg (by omega), inB_one]
theorem stp_at {w v : Nat} : stpB st (s : Int) s w v = true ↔ (v : Int) < hiS (rdS st s) w := by
 unfold stpB
 rw [if_pos rfl, decide_eq_true_eq]
theorem fw_step (hok : RdOk st wg) (p : Nat) (hp : p < st.length) (hps : p ≠ s) (X : Sp) (hX : okS X) (ih : ∀ w : Nat, w ≤ 400 → (fwB st wg s p w = true ↔ inS X (w : Int))) (v : Nat) (hv : v ≤ 400) :
  fwB st wg s (p + 1) v = true ↔ inS (andS (onS (rdS st p) X) (seenS wg ((p + 1 : Nat) : Int))) (v : Int) := by
 have hst := hok.at (p : Int) (by omega) (by omega); rw [inS_and, on_in hst hX, fwB, Bool.and_eq_true, fit_seen wg _ (v : Int) (by omega), List.any_eq_true]
 constructor
 ·rintro ⟨h1, w, hw, h2⟩
  have hw4 := List.mem_range.1 hw; simp only [Bool.and_eq_true, decide_eq_true_eq] at h2; exact ⟨⟨(w : Int), (ih w (by omega)).1 h2.1.2, (stp_ne hps).1 h2.2⟩, h1⟩
 ·rintro ⟨⟨w, h1, h2, h3⟩, h4⟩
  have hb : 0 ≤ w ∧ w ≤ 400 := by unfold okS inS at *; omega
  have h5 := hiS_le hst (w := w) hb.1; obtain ⟨m, rfl⟩ : ∃ m : Nat, w = (m : Int) := ⟨w.toNat, by omega⟩; refine ⟨h4, m, List.mem_range.2 (by omega), ?_⟩; simp only [Bool.and_eq_true, decide_eq_true_eq]; exact ⟨⟨by omega, (ih m (by omega)).2 h1⟩, (stp_ne hps).2 ⟨h2, h3⟩⟩
theorem fw_le (hok : RdOk st wg) (hs : s < st.length) : ∀ (p : Nat), p ≤ s → ∀ w : Nat, w ≤ 400 → (fwB st wg s p w = true ↔ inS (comeAt st wg p) (w : Int))
 | 0, _, w, hw => fit_seen wg 0 (w : Int) (by omega)
 | p + 1, hp, v, hv => fw_step hok p (by omega) (by omega) _ (comeAt_ok hok p (by omega)) (fun w hw => fw_le hok hs p (by omega) w hw) v hv
theorem fw_gt (hok : RdOk st wg) (hs : s < st.length) (hne : ¬ (comeAt st wg s).lo > (comeAt st wg s).hi) : ∀ (p : Nat), s < p → p ≤ st.length → ∀ w : Nat, w ≤ 400 → (fwB st wg s p w = true ↔ inS (thA st wg s p) (w : Int))
 | 0, h, _, _, _ => by omega
 | p + 1, hp, hpn, v, hv => by
  by_cases e : p = s
  ·subst e
   have ih := fw_le hok hs p (Nat.le_refl _); have hst := hok.at (p : Int) (by omega) (by omega); have ho := comeAt_ok hok p (by omega)
   have hb : 0 ≤ (comeAt st wg p).lo ∧ (comeAt st wg p).hi ≤ 400 := by unfold okS at ho; omega
   rw [thA_at, inS_and, fwB, Bool.and_eq_true, fit_seen wg _ (v : Int) (by omega), List.any_eq_true]
   have e1 : (onS (rdS st p) (comeAt st wg p)).hi = hiS (rdS st p) (comeAt st wg p).hi := by
    unfold onS
    rw [if_neg hne]
   rw [e1]
   constructor
   ·rintro ⟨h1, w, hw, h2⟩
    have hw4 := List.mem_range.1 hw; simp only [Bool.and_eq_true, decide_eq_true_eq] at h2; have h3 := (ih w (by omega)).1 h2.1.2; have h4 := stp_at.1 h2.2; have h5 := hiS_mono hst (w := (w : Int)) (w' := (comeAt st wg p).hi) h3.2; refine ⟨?_, h1⟩
    unfold inS
    simp only; omega
   ·rintro ⟨h1, h2⟩
    unfold inS at h1
    simp only at h1; obtain ⟨m, hm⟩ : ∃ m : Nat, (comeAt st wg p).hi = (m : Int) := ⟨(comeAt st wg p).hi.toNat, by omega⟩; have h5 := hiS_le hst (w := (m : Int)) (by omega); rw [hm] at h1 hb hne; refine ⟨h2, m, List.mem_range.2 (by omega), ?_⟩; simp only [Bool.and_eq_true, decide_eq_true_eq]; refine ⟨⟨by omega, (ih m (by omega)).2 ?_⟩, stp_at.2 (by omega)⟩
    unfold inS
    rw [hm]; omega
  ·rw [thA_gt _ _ _ _ (by omega)]
   exact fw_step hok p (by omega) e _ (thA_ok hok s hs p (by omega)) (fun w hw => fw_gt hok hs hne p (by omega) (by omega) w hw) v hv
theorem rd_drop (L : List Sp) (k i : Nat) : rdS (L.drop k) (i : Int) = rdS L ((k + i : Nat) : Int) := by
 unfold rdS
 rw [Int.toNat_natCast, Int.toNat_natCast, List.getD_eq_getElem?_getD, List.getD_eq_getElem?_getD, List.getElem?_drop]
theorem rd_take (L : List Sp) (k i : Nat) (h : i < k) : rdS (L.take k) (i : Int) = rdS L (i : Int) := by
 unfold rdS
 rw [Int.toNat_natCast, List.getD_eq_getElem?_getD, List.getD_eq_getElem?_getD, List.getElem?_take, if_pos h]
theorem rd_left (L M : List Sp) (i : Nat) (h : i < L.length) : rdS (L ++ M) (i : Int) = rdS L (i : Int) := by
 unfold rdS
 rw [Int.toNat_natCast, List.getD_eq_getElem?_getD, List.getD_eq_getElem?_getD, List.getElem?_append_left h]
theorem rd_right (L M : List Sp) (i : Nat) (h : L.length ≤ i) : rdS (L ++ M) (i : Int) = rdS M ((i - L.length : Nat) : Int) := by
 unfold rdS
 rw [Int.toNat_natCast, Int.toNat_natCast, List.getD_eq_getElem?_getD, List.getD_eq_getElem?_getD, List.getElem?_append_right h]
theorem rd_sets (L : List Sp) (k i : Nat) (x : Sp) (h : k < L.length) : rdS (L.set k x) (i : Int) = if i = k then x else rdS L (i : Int) := by
 unfold rdS
 rw [Int.toNat_natCast, List.getD_eq_getElem?_getD, List.getD_eq_getElem?_getD, List.getElem?_set]
 by_cases e : k = i
 ·subst e
  rw [if_pos rfl, if_pos h, if_pos rfl]; rfl
 ·rw [if_neg e, if_neg (fun h => e h.symm)]
theorem th2_rd (hs : s < st.length) (j : Nat) (hj : j ≤ st.length) : rdS (thL2 st wg s) (j : Int) = thA st wg s j := by
 rw [thL2, thM_rd _ _ _ _ _ hj, if_pos hj]
theorem th3_le (hs : s < st.length) (j : Nat) (hj : j ≤ s) : rdS (thL3 st wg s) (j : Int) = comeAt st wg j := by
 have hl := thL2_len st wg s; rw [thL3, gst, rd_left _ _ _ (by rw [List.length_take]; omega), rd_take _ _ _ (by omega), th2_rd hs j (by omega), thA_le _ _ _ _ hj]
theorem th3_gt (hs : s < st.length) (j : Nat) (hj : s < j) (hn : j ≤ st.length) : rdS (thL3 st wg s) (j : Int) = rdS (goL (st.drop (s + 1)) ((thL2 st wg s).drop (s + 1))) ((j - (s + 1) : Nat) : Int) := by
 have hl := thL2_len st wg s; rw [thL3, gst, show (thL2 st wg s).length - (st.length - s) = s + 1 by omega, rd_right _ _ _ (by rw [List.length_take]; omega), List.length_take, show min (s + 1) (thL2 st wg s).length = s + 1 by omega]
theorem th3_last (hs : s < st.length) : rdS (thL3 st wg s) (st.length : Int) = thA st wg s st.length := by
 have hl := thL2_len st wg s; have h := (goL_rd (st.drop (s + 1)) ((thL2 st wg s).drop (s + 1)) (by rw [List.length_drop, List.length_drop]; omega)).2; rw [List.length_drop] at h; rw [th3_gt hs _ hs (Nat.le_refl _), h, rd_drop, show s + 1 + (st.length - (s + 1)) = st.length by omega, th2_rd hs _ (Nat.le_refl _)]
theorem th3_step (hs : s < st.length) (j : Nat) (hj : s < j) (hn : j < st.length) : rdS (thL3 st wg s) (j : Int) = backS (rdS st (j : Int)) (thA st wg s j) (rdS (thL3 st wg s) ((j + 1 : Nat) : Int)) := by
 have hl := thL2_len st wg s; have h := (goL_rd (st.drop (s + 1)) ((thL2 st wg s).drop (s + 1)) (by rw [List.length_drop, List.length_drop]; omega)).1 (j - (s + 1)) (by rw [List.length_drop]; omega); rw [th3_gt hs j hj (by omega), h, rd_drop, rd_drop, show s + 1 + (j - (s + 1)) = j by omega, th2_rd hs _ (by omega), th3_gt hs (j + 1) (by omega) (by omega), show j - (s + 1) + 1 = j + 1 - (s + 1) by omega]
theorem th4_rd (hs : s < st.length) (j : Nat) : rdS (thL4 st wg s) (j : Int) = if j = s then thX (rdS st s) (comeAt st wg s) (rdS (thL3 st wg s) ((s + 1 : Nat) : Int)) else rdS (thL3 st wg s) (j : Int) := by
 rw [thL4, rd_sets _ _ _ _ (by rw [thL3_len]; omega), th3_le hs s (Nat.le_refl _)]
theorem th5_gt (hs : s < st.length) (j : Nat) (hj : s < j) : rdS (thL5 st wg s) (j : Int) = rdS (thL3 st wg s) (j : Int) := by
 have hl := thL4_len st wg s
 have hg : (gst (st.take s) ((thL4 st wg s).take (s + 1)) (s + 1)).length = s + 1 := by rw [gst_len, List.length_take]; omega
 rw [thL5, thG, rd_right _ _ _ (by omega), hg, rd_drop, show s + 1 + (j - (s + 1)) = j by omega, th4_rd hs, if_neg (by omega)]
theorem th5_go (hs : s < st.length) (j : Nat) (hj : j ≤ s) : rdS (thL5 st wg s) (j : Int) = rdS (goL (st.take s) ((thL4 st wg s).take (s + 1))) (j : Int) := by
 have hl := thL4_len st wg s
 have hg : (gst (st.take s) ((thL4 st wg s).take (s + 1)) (s + 1)).length = s + 1 := by rw [gst_len, List.length_take]; omega
 rw [thL5, thG, rd_left _ _ _ (by omega), gst, List.length_take, show min (s + 1) (thL4 st wg s).length - (s + 1) = 0 by omega, List.take_zero, List.drop_zero, List.drop_zero, List.nil_append]
theorem th5_at (hs : s < st.length) : rdS (thL5 st wg s) (s : Int) = thX (rdS st s) (comeAt st wg s) (rdS (thL3 st wg s) ((s + 1 : Nat) : Int)) := by
 have hl := thL4_len st wg s; have h := (goL_rd (st.take s) ((thL4 st wg s).take (s + 1)) (by rw [List.length_take, List.length_take]; omega)).2; rw [List.length_take, show min s st.length = s by omega] at h; rw [th5_go hs s (Nat.le_refl _), h, rd_take _ _ _ (by omega), th4_rd hs, if_pos rfl]
theorem th5_lt (hs : s < st.length) (j : Nat) (hj : j < s) : rdS (thL5 st wg s) (j : Int) = backS (rdS st (j : Int)) (comeAt st wg j) (rdS (thL5 st wg s) ((j + 1 : Nat) : Int)) := by
 have hl := thL4_len st wg s; have h := (goL_rd (st.take s) ((thL4 st wg s).take (s + 1)) (by rw [List.length_take, List.length_take]; omega)).1 j (by rw [List.length_take]; omega); rw [th5_go hs j (by omega), h, rd_take _ _ _ hj, rd_take _ _ _ (by omega), th4_rd hs, if_neg (by omega), th3_le hs j (by omega), th5_go hs (j + 1) (by omega)]
theorem rd5_ok (hok : RdOk st wg) (hs : s < st.length) (j : Nat) : okS (rdS (thL5 st wg s) (j : Int)) := rd_ok (thL5_ok hok s hs) j
theorem rd3_ok (hok : RdOk st wg) (hs : s < st.length) (j : Nat) : okS (rdS (thL3 st wg s) (j : Int)) := rd_ok (thL3_ok hok s hs) j
theorem fu_step (hok : RdOk st wg) (d p : Nat) (hp : p + (d + 1) = st.length) (hps : p ≠ s) (X Y : Sp) (hX : okS X) (hY : okS Y) (hf : ∀ w : Nat, w ≤ 400 → (fwB st wg s p w = true ↔ inS X (w : Int)))
  (ih : ∀ w : Nat, w ≤ 400 → (fuB st wg s d (p + 1) w = true ↔ inS Y (w : Int))) (w : Nat) (hw : w ≤ 400) : fuB st wg s (d + 1) p w = true ↔ inS (backS (rdS st (p : Int)) X Y) (w : Int) := by
 have hst := hok.at (p : Int) (by omega) (by omega); rw [back_in hst hX, fuB, Bool.and_eq_true, hf w hw, List.any_eq_true]
 constructor
 ·rintro ⟨h1, v, hv, h2⟩
  have hv4 := List.mem_range.1 hv; simp only [Bool.and_eq_true] at h2; exact ⟨h1, (v : Int), (ih v (by omega)).1 h2.1, (stp_ne hps).1 h2.2⟩
 ·rintro ⟨h1, v, h2, h3, h4⟩
  have h5 := hiS_le hst (w := (w : Int)) (by omega)
  have hv0 : 0 ≤ v := by unfold okS inS at *; omega
  obtain ⟨m, rfl⟩ : ∃ m : Nat, v = (m : Int) := ⟨v.toNat, by omega⟩; refine ⟨h1, m, List.mem_range.2 (by omega), ?_⟩; rw [Bool.and_eq_true]; exact ⟨(ih m (by omega)).2 h2, (stp_ne hps).2 ⟨h3, h4⟩⟩
theorem fu_gt (hok : RdOk st wg) (hs : s < st.length) (hne : ¬ (comeAt st wg s).lo > (comeAt st wg s).hi) : ∀ (d p : Nat), p + d = st.length → s < p → ∀ w : Nat, w ≤ 400 → (fuB st wg s d p w = true ↔ inS (rdS (thL3 st wg s) (p : Int)) (w : Int))
 | 0, p, hp, hsp, w, hw => by
  obtain rfl : p = st.length := by omega
  rw [th3_last hs]; exact fw_gt hok hs hne _ hs (Nat.le_refl _) w hw
 | d + 1, p, hp, hsp, w, hw => by
  rw [th3_step hs p hsp (by omega)]; exact fu_step hok d p hp (by omega) _ _ (thA_ok hok s hs p (by omega)) (rd3_ok hok hs (p + 1)) (fun v hv => fw_gt hok hs hne p hsp (by omega) v hv) (fun v hv => fu_gt hok hs hne d (p + 1) (by omega) (by omega) v hv) w hw
theorem fu_at (hok : RdOk st wg) (hs : s < st.length) (hne : ¬ (comeAt st wg s).lo > (comeAt st wg s).hi) (hne2 : ¬ (rdS (thL3 st wg s) ((s + 1 : Nat) : Int)).lo > (rdS (thL3 st wg s) ((s + 1 : Nat) : Int)).hi) (d : Nat) (hd : s + (d + 1) = st.length) (w : Nat) (hw : w ≤ 400) :
  fuB st wg s (d + 1) s w = true ↔ inS (rdS (thL5 st wg s) (s : Int)) (w : Int) := by
 have hst := hok.at (s : Int) (by omega) (by omega); have ih := fu_gt hok hs hne d (s + 1) (by omega) (by omega); have hY := rd3_ok hok hs (s + 1); have hX := comeAt_ok hok s (by omega)
 generalize hy : rdS (thL3 st wg s) ((s + 1 : Nat) : Int) = Y at *
 rw [th5_at hs, hy, thX, trimLo_in hst _ 402 _ (ok_len hX), fuB, Bool.and_eq_true, fw_le hok hs s (Nat.le_refl _) w hw, List.any_eq_true]
 have hb : 0 ≤ Y.lo ∧ Y.hi ≤ 400 := by unfold okS at hY; omega
 have h5 := hiS_le hst (w := (w : Int)) (by omega)
 constructor
 ·rintro ⟨h1, v, hv, h2⟩
  have hv4 := List.mem_range.1 hv; simp only [Bool.and_eq_true] at h2; have h3 := (ih v (by omega)).1 h2.1; have h4 := stp_at.1 h2.2; refine ⟨h1, ?_⟩
  unfold inS at h3
  simp only; omega
 ·rintro ⟨h1, h2⟩
  simp only at h2; obtain ⟨m, hm⟩ : ∃ m : Nat, Y.lo = (m : Int) := ⟨Y.lo.toNat, by omega⟩; refine ⟨h1, m, List.mem_range.2 (by omega), ?_⟩; rw [Bool.and_eq_true]; refine ⟨(ih m (by omega)).2 ?_, stp_at.2 (by omega)⟩
  unfold inS
  omega
theorem fu_le (hok : RdOk st wg) (hs : s < st.length) (hne : ¬ (comeAt st wg s).lo > (comeAt st wg s).hi) (hne2 : ¬ (rdS (thL3 st wg s) ((s + 1 : Nat) : Int)).lo > (rdS (thL3 st wg s) ((s + 1 : Nat) : Int)).hi) : ∀ (k p d : Nat), p + k = s → p + d = st.length → ∀ w : Nat, w ≤ 400 → (fuB st wg s d p w = true ↔ inS (rdS (thL5 st wg s) (p : Int)) (w : Int))
 | 0, p, d, hk, hd, w, hw => by
  obtain rfl : p = s := by omega
  obtain ⟨d, rfl⟩ : ∃ e, d = e + 1 := ⟨d - 1, by omega⟩; exact fu_at hok hs hne hne2 d hd w hw
 | k + 1, p, d, hk, hd, w, hw => by
  obtain ⟨d, rfl⟩ : ∃ e, d = e + 1 := ⟨d - 1, by omega⟩; rw [th5_lt hs p (by omega)]; exact fu_step hok d p hd (by omega) _ _ (comeAt_ok hok p (by omega)) (rd5_ok hok hs (p + 1)) (fun v hv => fw_le hok hs p (by omega) v hv) (fun v hv => fu_le hok hs hne hne2 k (p + 1) d (by omega) (by omega) v hv) w hw
theorem any_none {L : List Sp} {n : Nat} (hl : L.length = n + 1) : L.any noneB = false ↔ ∀ p : Nat, p ≤ n → ¬ (rdS L (p : Int)).lo > (rdS L (p : Int)).hi := by
 rw [List.any_eq_false]
 constructor
 ·intro h p hp
  have h1 := h (rdS L (p : Int)) (by rw [rdS_nat _ _ (by omega)]; exact List.getElem_mem _)
  simpa [noneB] using h1
 ·intro h x hx
  obtain ⟨i, hi, rfl⟩ := List.getElem_of_mem hx; have h1 := h i (by omega); rw [rdS_nat _ _ hi] at h1
  simpa [noneB] using h1
theorem fu_fw (d : Nat) : ∀ (p w : Nat), fuB st wg s d p w = true → fwB st wg s p w = true := by
 intro p w h
 cases d with
 | zero => exact h
 | succ d => rw [fuB, Bool.and_eq_true] at h; exact h.1
theorem fu_chain : ∀ (d p w : Nat), w ≤ 400 → fuB st wg s d p w = true → ∀ q : Nat, p ≤ q → q ≤ p + d → ∃ v : Nat, v ≤ 400 ∧ fuB st wg s (p + d - q) q v = true
 | 0, p, w, hw, h, q, h1, h2 => by
  obtain rfl : q = p := by omega
  exact ⟨w, hw, by rw [show q + 0 - q = 0 by omega]; exact h⟩
 | d + 1, p, w, hw, h, q, h1, h2 => by
  by_cases e : q = p
  ·subst e
   exact ⟨w, hw, by rw [show q + (d + 1) - q = d + 1 by omega]; exact h⟩
  ·rw [fuB, Bool.and_eq_true, List.any_eq_true] at h
   obtain ⟨_, v, hv, h3⟩ := h; have hv4 := List.mem_range.1 hv; rw [Bool.and_eq_true] at h3; have := fu_chain d (p + 1) v (by omega) h3.1 q (by omega) (by omega); rw [show p + (d + 1) - q = p + 1 + d - q by omega]; exact this
theorem th_ok (hs : s < st.length) : thOk st wg s = true ↔ (∀ p : Nat, p ≤ st.length → ¬ (rdS (thL3 st wg s) (p : Int)).lo > (rdS (thL3 st wg s) (p : Int)).hi) ∧ ∀ p : Nat, p ≤ st.length → ¬ (rdS (thL5 st wg s) (p : Int)).lo > (rdS (thL5 st wg s) (p : Int)).hi := by
 rw [← any_none (thL3_len st wg s), ← any_none (thL5_len st wg s), thOk]
 simp
theorem th_in (hok : RdOk st wg) (hs : s < st.length) (h : thOk st wg s = true) (q : Nat) (hq : q ≤ st.length) (w : Nat) (hw : w ≤ 400) : fuB st wg s (st.length - q) q w = true ↔ inS (rdS (thL5 st wg s) (q : Int)) (w : Int) := by
 obtain ⟨h3, h5⟩ := (th_ok hs).1 h; have hne := h3 s (by omega); rw [th3_le hs s (Nat.le_refl _)] at hne
 by_cases e : s < q
 ·rw [th5_gt hs q e]
  exact fu_gt hok hs hne _ q (by omega) e w hw
 ·exact fu_le hok hs hne (h3 (s + 1) (by omega)) (s - q) q _ (by omega) (by omega) w hw
theorem th_is (hok : RdOk st wg) (hs : s < st.length) : thOk st wg s = true ↔ ∃ w : Nat, w ≤ 400 ∧ fuB st wg s st.length 0 w = true := by
 constructor
 ·intro h
  have h0 := ((th_ok hs).1 h).2 0 (by omega); have ho := rd5_ok hok hs 0; have hi := th_in hok hs h 0 (by omega); rw [Nat.sub_zero] at hi
  generalize rdS (thL5 st wg s) ((0 : Nat) : Int) = x at *
  have hb : 0 ≤ x.lo ∧ x.lo ≤ x.hi ∧ x.hi ≤ 400 := by unfold okS at ho; omega
  refine ⟨x.lo.toNat, by omega, (hi _ (by omega)).2 ?_⟩
  unfold inS
  omega
 ·rintro ⟨w, hw, h⟩
  have hc := fu_chain st.length 0 w hw h
  have hcome : ∀ q : Nat, q ≤ s → ¬ (comeAt st wg q).lo > (comeAt st wg q).hi := by
   intro q hq; obtain ⟨v, hv, h1⟩ := hc q (by omega) (by omega); have := (fw_le hok hs q hq v hv).1 (fu_fw _ _ _ h1)
   unfold inS at this
   omega
  have hne := hcome s (Nat.le_refl _)
  have h3 : ∀ p : Nat, p ≤ st.length → ¬ (rdS (thL3 st wg s) (p : Int)).lo > (rdS (thL3 st wg s) (p : Int)).hi := by
   intro p hp
   by_cases e : s < p
   ·obtain ⟨v, hv, h1⟩ := hc p (by omega) (by omega)
    have := (fu_gt hok hs hne _ p (by omega) e v hv).1 h1
    unfold inS at this
    omega
   ·rw [th3_le hs p (by omega)]
    exact hcome p (by omega)
  refine (th_ok hs).2 ⟨h3, fun p hp => ?_⟩
  by_cases e : s < p
  ·rw [th5_gt hs p e]
   exact h3 p hp
  ·obtain ⟨v, hv, h1⟩ := hc p (by omega) (by omega)
   have := (fu_le hok hs hne (h3 (s + 1) (by omega)) (s - p) p _ (by omega) (by omega) v hv).1 h1
   unfold inS at this
   omega
end
end Go.Proofs.YtemingmeidmjkaaDoor.Q
namespace Go.Proofs.YtemingmeidmjkaaDoor.Q
open Go.RowKit Go.Proofs.YtemingmeidmjkaaDoorW.PrintWords
set_option linter.unusedVariables false
set_option linter.unusedSimpArgs false
structure Pth (st : List Sp) (wg : List Wg) (th : Int) (A : Nat → Nat) : Prop where
 le : ∀ p, p ≤ st.length → A p ≤ 400
 fit : ∀ p : Nat, p ≤ st.length → fitB wg (p : Int) (A p : Int) = true
 dn : ∀ p, p < st.length → A (p + 1) ≤ A p
 stp : ∀ p, p < st.length → stpB st th p (A p) (A (p + 1)) = true
section
variable {st : List Sp} {wg : List Wg} {th : Int} {A : Nat → Nat}
theorem Pth.fw (h : Pth st wg th A) : ∀ p, p ≤ st.length → fwB st wg th p (A p) = true
 | 0, _ => h.fit 0 (Nat.zero_le _)
 | p + 1, hp => by
  rw [fwB, Bool.and_eq_true, List.any_eq_true]; refine ⟨h.fit (p + 1) hp, A p, List.mem_range.2 (by have := h.le p (by omega); omega), ?_⟩; simp only [Bool.and_eq_true, decide_eq_true_eq]; exact ⟨⟨h.dn p (by omega), h.fw p (by omega)⟩, h.stp p (by omega)⟩
theorem Pth.fu (h : Pth st wg th A) : ∀ d p, p + d = st.length → fuB st wg th d p (A p) = true
 | 0, p, hd => by rw [fuB]; exact h.fw p (by omega)
 | d + 1, p, hd => by
  rw [fuB, Bool.and_eq_true, List.any_eq_true]; refine ⟨h.fw p (by omega), A (p + 1), List.mem_range.2 (by have := h.dn p (by omega); omega), ?_⟩; rw [Bool.and_eq_true]; exact ⟨h.fu d (p + 1) (by omega), h.stp p (by omega)⟩
theorem LvP.path {g : Int} {B T : List Int} (h : LvP st th st.length g B T) (hst : ∀ s ∈ st, stB s) (hw : ∀ x ∈ wg, wHit B x) (th' : Int) (hth : (g = 0 ∧ th' = -1) ∨ (1 ≤ g ∧ th' = th ∧ 0 ≤ th)) : Pth st wg th' (fun p => (rd B (p : Int)).toNat) := by
 have key : ∀ p : Nat, p < st.length → (rd B ((p + 1 : Nat) : Int) = rd B (p : Int) - rd T (p : Int) - (if (p : Int) = th then g else 0)) ∧ loS (rdS st (p : Int)) (rd B (p : Int)) ≤ rd B (p : Int) - rd T (p : Int) ∧ rd B (p : Int) - rd T (p : Int) ≤ hiS (rdS st (p : Int)) (rd B (p : Int)) ∧ hiS (rdS st (p : Int)) (rd B (p : Int)) ≤ rd B (p : Int) ∧ 0 ≤ rd B (p : Int) ∧ 0 ≤ rd B ((p + 1 : Nat) : Int) := by
  intro p hp
  have hv : stB (rdS st (p : Int)) := by
   rw [rdS_nat _ _ hp]; exact hst _ (List.getElem_mem _)
  have h1 := h.bd p (by omega); have h2 := h.bd (p + 1) (by omega); obtain ⟨h3, h4, h5⟩ := h.step p hp; exact ⟨h5, h3, h4, hiS_le hv h1.1, h1.1, h2.1⟩
 have hgn := h.gn; refine ⟨fun p hp => ?_, fun p hp => ?_, fun p hp => ?_, fun p hp => ?_⟩
 ·have := h.bd p hp
  try simp only
  omega
 ·have hb := h.bd p hp
  rw [fitB_iff]; intro x hx hxp; have h2 := hw x hx
  unfold wHit at h2
  rw [hxp] at h2
  try simp only
  omega
 ·obtain ⟨h1, h2, h3, h4, h5, h6⟩ := key p hp
  try simp only
  by_cases e : (p : Int) = th
  ·rw [if_pos e] at h1; omega
  ·rw [if_neg e] at h1; omega
 ·obtain ⟨h1, h2, h3, h4, h5, h6⟩ := key p hp
  have e1 : (((rd B (p : Int)).toNat : Nat) : Int) = rd B (p : Int) := by omega
  have e2 : (((rd B ((p + 1 : Nat) : Int)).toNat : Nat) : Int) = rd B ((p + 1 : Nat) : Int) := by omega
  unfold stpB
  rcases hth with ⟨hg, ht⟩ | ⟨hg, ht, h0⟩
  ·rw [if_neg (by omega), inB_one, e1, e2]
   rw [hg] at h1; simp only [ite_self] at h1; omega
  ·rw [ht]
   by_cases e : (p : Int) = th
   ·rw [if_pos e] at h1
    rw [if_pos e, decide_eq_true_eq, e1, e2]; omega
   ·rw [if_neg e] at h1
    rw [if_neg e, inB_one, e1, e2]; omega
theorem fo_in {f : Nat → Option Sp} {j : Nat} {a : Sp} (ha : f j = some a) : ∀ {n : Nat}, j < n → ∃ s, fo f n = some s ∧ s.lo ≤ a.lo ∧ a.hi ≤ s.hi
 | 0, h => by omega
 | n + 1, h => by
  rw [fo_succ]
  by_cases e : j = n
  ·subst e
   rw [ha]
   cases fo f j with
   | none => exact ⟨a, rfl, Int.le_refl _, Int.le_refl _⟩
   | some b => exact ⟨_, rfl, by simp only; omega, by simp only; omega⟩
  ·obtain ⟨s, h1, h2, h3⟩ := fo_in ha (n := n) (by omega)
   rw [h1]
   cases f n with
   | none => exact ⟨s, rfl, h2, h3⟩
   | some b => exact ⟨_, rfl, by simp only; omega, by simp only; omega⟩
theorem fo_att {f : Nat → Option Sp} {s : Sp} : ∀ {n : Nat}, fo f n = some s → ∃ j a, j < n ∧ f j = some a ∧ a.lo = s.lo
 | 0, h => by cases h
 | n + 1, h => by
  rw [fo_succ] at h
  cases h1 : fo f n with
  | none =>
   rw [h1] at h; exact ⟨n, s, by omega, h, rfl⟩
  | some a =>
   obtain ⟨j, x, e1, e2, e3⟩ := fo_att h1; rw [h1] at h
   cases h2 : f n with
   | none =>
    rw [h2] at h; rw [← Option.some.inj h]; exact ⟨j, x, by omega, e2, e3⟩
   | some b =>
    rw [h2] at h; rw [← Option.some.inj h]
    by_cases c : a.lo ≤ b.lo
    ·exact ⟨j, x, by omega, e2, by simp only; omega⟩
    ·exact ⟨n, b, by omega, h2, by simp only; omega⟩
theorem bwN_succ (d p w : Nat) (hf : fitB wg (p : Int) (w : Int) = true) : bwN st wg (d + 1) p w = fo (fun v => sh (rdS st (p : Int)) (w : Int) (v : Int) (bwN st wg d (p + 1) v)) (hiS (rdS st (p : Int)) (w : Int) + 1).toNat := by
 rw [bwN, if_pos hf]
def gonF (th g : Int) (p : Nat) : Int := if (p : Int) ≤ th then g else 0
theorem Pth.bw (hok : RdOk st wg) (h : Pth st wg th A) (g : Int) (hg : ∀ p, p < st.length → (p : Int) = th → 0 ≤ g ∧ loS (rdS st (p : Int)) (A p : Int) - (A (p + 1) : Int) ≤ g ∧ g ≤ hiS (rdS st (p : Int)) (A p : Int) - (A (p + 1) : Int)) (hl : th < st.length) : ∀ d p, p + d = st.length → ∃ s, bwN st wg d p (A p) = some s ∧ 0 ≤ s.lo ∧ s.lo ≤ gonF th g p ∧ gonF th g p ≤ s.hi
 | 0, p, hd => by
  refine ⟨⟨0, 0⟩, ?_, ?_⟩
  ·rw [bwN, if_pos (h.fit p (by omega))]
  ·unfold gonF
   rw [if_neg (by omega)]; exact ⟨Int.le_refl _, Int.le_refl _, Int.le_refl _⟩
 | d + 1, p, hd => by
  have hv := hok.at (p : Int) (by omega) (by omega); obtain ⟨b, h1, h2, h3, h4⟩ := Pth.bw hok h g hg hl d (p + 1) (by omega); have hs := h.stp p (by omega)
  have hle : (A (p + 1) : Int) ≤ hiS (rdS st (p : Int)) (A p : Int) := by
   unfold stpB at hs
   by_cases e : (p : Int) = th
   ·rw [if_pos e, decide_eq_true_eq] at hs; omega
   ·rw [if_neg e, inB_one] at hs; omega
  obtain ⟨s, e1, e2, e3⟩ := fo_in (f := fun v => sh (rdS st (p : Int)) (A p : Int) (v : Int) (bwN st wg d (p + 1) v)) (j := A (p + 1)) (a := ⟨b.lo + max 0 (loS (rdS st (p : Int)) (A p : Int) - (A (p + 1) : Int)), b.hi + (hiS (rdS st (p : Int)) (A p : Int) - (A (p + 1) : Int))⟩) (by simp only [h1, sh]) (n := (hiS (rdS st (p : Int)) (A p : Int) + 1).toNat) (by omega)
  have e0 : bwN st wg (d + 1) p (A p) = some s := by rw [bwN_succ d p _ (h.fit p (by omega))]; exact e1
  have hb := (bwN_ok hok (d + 1) p (A p) hd (h.le p (by omega)) s e0).1; simp only at e2 e3
  unfold bdS at hb
  refine ⟨s, e0, by omega, ?_⟩
  unfold gonF at *
  unfold stpB at hs
  by_cases e : (p : Int) = th
  ·obtain ⟨g0, g1, g2⟩ := hg p (by omega) e
   rw [if_neg (by omega)] at h3 h4; rw [if_pos (by omega)]; omega
  ·rw [if_neg e, inB_one] at hs
   by_cases c : (p : Int) ≤ th
   ·rw [if_pos (by omega)] at h3 h4
    rw [if_pos c]; omega
   ·rw [if_neg (by omega)] at h3 h4
    rw [if_neg c]; omega
theorem ms_of {p0 : Nat} {s : Sp} (hok : RdOk st wg) (h4 : p0 ≤ 400) (h : bwN st wg st.length 0 p0 = some s) : ∃ m, msAll st wg = some m ∧ m.lo ≤ s.lo ∧ s.hi ≤ m.hi := by
 rw [← bw_eq hok]; exact fo_in h (by omega)
theorem ms_bd (hok : RdOk st wg) {m : Sp} (h : msAll st wg = some m) : 0 ≤ m.lo ∧ m.lo ≤ 400 ∧ 0 ≤ m.hi := by
 rw [← bw_eq hok] at h
 have key : ∀ j, j < 401 → ∀ s, bwN st wg st.length 0 j = some s → bdS 0 (400 * (st.length : Int)) s ∧ s.lo ≤ 400 := by
  intro j hj s hs; have := bwN_ok hok st.length 0 j (by omega) (by omega) s hs; exact ⟨this.1, by omega⟩
 have h1 := fo_bd (fun j hj s hs => (key j hj s hs).1) m h; have h2 := fo_lo (fun j hj s hs => (key j hj s hs).2) m h
 unfold bdS at h1
 omega
theorem bw_zero (hok : RdOk st wg) : ∀ (d p w : Nat), p + d = st.length → w ≤ 400 → fwB st wg (-1) p w = true → ∀ s, bwN st wg d p w = some s → s.lo = 0 → fuB st wg (-1) d p w = true
 | 0, p, w, hd, hw, hf, s, h, h0 => by rw [fuB]; exact hf
 | d + 1, p, w, hd, hw, hf, s, h, h0 => by
  have hv := hok.at (p : Int) (by omega) (by omega); have g3 := hiS_le hv (w := (w : Int)) (by omega)
  cases hfit : fitB wg (p : Int) (w : Int)
  ·rw [bwN_fit hfit] at h; cases h
  ·rw [bwN_succ d p w hfit] at h
   obtain ⟨j, a, e1, e2, e3⟩ := fo_att h
   try simp only at e2
   cases hb : bwN st wg d (p + 1) j with
   | none => rw [hb] at e2; cases e2
   | some b =>
    have hbd := (bwN_ok hok d (p + 1) j (by omega) (by omega) b hb).1
    unfold bdS at hbd
    rw [hb] at e2; simp only [sh, Option.some.injEq] at e2; rw [← e2] at e3; simp only at e3
    have hfj : fitB wg ((p + 1 : Nat) : Int) (j : Int) = true := by
     cases hq : fitB wg ((p + 1 : Nat) : Int) (j : Int)
     ·rw [bwN_fit hq] at hb; cases hb
     ·rfl
    have hst : stpB st (-1) p w j = true := by
     rw [stp_hon]; omega
    have hfwj : fwB st wg (-1) (p + 1) j = true := by
     rw [fwB, Bool.and_eq_true, List.any_eq_true]; refine ⟨hfj, w, List.mem_range.2 (by omega), ?_⟩; simp only [Bool.and_eq_true, decide_eq_true_eq]; exact ⟨⟨by omega, hf⟩, hst⟩
    have ih := bw_zero hok d (p + 1) j (by omega) (by omega) hfwj b hb (by omega); rw [fuB, Bool.and_eq_true, List.any_eq_true]; refine ⟨hf, j, List.mem_range.2 (by omega), ?_⟩; rw [Bool.and_eq_true]; exact ⟨ih, hst⟩
theorem ms_zero (hok : RdOk st wg) {m : Sp} (h : msAll st wg = some m) (h0 : m.lo = 0) : honB st wg = true := by
 rw [← bw_eq hok] at h; obtain ⟨j, a, e1, e2, e3⟩ := fo_att h; refine (hon_is hok).2 ⟨j, by omega, bw_zero hok st.length 0 j (by omega) (by omega) ?_ a e2 (by omega)⟩
 cases hq : fitB wg ((0 : Nat) : Int) (j : Int)
 ·rw [bwN_fit hq] at e2; cases e2
 ·exact hq
theorem Pth.thief (hok : RdOk st wg) {s : Nat} (hs : s < st.length) (h : Pth st wg (s : Int) A) : thOk st wg s = true := (th_is hok hs).2 ⟨A 0, h.le 0 (Nat.zero_le _), h.fu st.length 0 (by omega)⟩
theorem hon_ms (hok : RdOk st wg) (h : honB st wg = true) : ∃ m, msAll st wg = some m ∧ m.lo = 0 := by
 have key : ∀ (d p w : Nat), p + d = st.length → w ≤ 400 → fuB st wg (-1) d p w = true → ∃ s, bwN st wg d p w = some s ∧ s.lo = 0 := by
  intro d
  induction d with
  | zero =>
   intro p w hd hw hf; rw [fuB] at hf
   have hfit : fitB wg (p : Int) (w : Int) = true := by
    cases p with
    | zero => exact hf
    | succ p => rw [fwB, Bool.and_eq_true] at hf; exact hf.1
   exact ⟨⟨0, 0⟩, by rw [bwN, if_pos hfit], rfl⟩
  | succ d ih =>
   intro p w hd hw hf; have hv := hok.at (p : Int) (by omega) (by omega); rw [fuB, Bool.and_eq_true, List.any_eq_true] at hf; obtain ⟨hf, v, hv2, h2⟩ := hf; rw [Bool.and_eq_true] at h2; have hvw := List.mem_range.1 hv2; obtain ⟨b, hb, hb0⟩ := ih (p + 1) v (by omega) (by omega) h2.1; have hs := stp_hon.1 h2.2
   have hfit : fitB wg (p : Int) (w : Int) = true := by
    cases p with
    | zero => exact hf
    | succ p => rw [fwB, Bool.and_eq_true] at hf; exact hf.1
   obtain ⟨s, e1, e2, e3⟩ := fo_in (f := fun v => sh (rdS st (p : Int)) (w : Int) (v : Int) (bwN st wg d (p + 1) v)) (j := v) (a := ⟨b.lo + max 0 (loS (rdS st (p : Int)) (w : Int) - (v : Int)), b.hi + (hiS (rdS st (p : Int)) (w : Int) - (v : Int))⟩) (by simp only [hb, sh]) (n := (hiS (rdS st (p : Int)) (w : Int) + 1).toNat) (by omega)
   have e0 : bwN st wg (d + 1) p w = some s := by rw [bwN_succ d p _ hfit]; exact e1
   have hbd := (bwN_ok hok (d + 1) p w hd hw s e0).1
   unfold bdS at hbd
   simp only at e2; exact ⟨s, e0, by omega⟩
 obtain ⟨w, hw, hf⟩ := (hon_is hok).1 h; obtain ⟨s, e1, e2⟩ := key st.length 0 w (by omega) hw hf; obtain ⟨m, m1, m2, m3⟩ := ms_of hok hw e1; have := ms_bd hok m1; exact ⟨m, m1, by omega⟩
end
end Go.Proofs.YtemingmeidmjkaaDoor.Q
namespace Go.Proofs.YtemingmeidmjkaaDoor.Q
open Go.RowKit Go.Proofs.YtemingmeidmjkaaDoorW.PrintWords Go.Proofs.YtemingmeidmjkaaDoorW.PrintLast Go.Proofs.YtemingmeidmjkaaDoorW.PrintMore
attribute [local go_sem] max2_int min2_int max_two min_two max_three min_three max_four min_four   -- for this text's walks alone
set_option linter.unusedVariables false
set_option linter.unusedSimpArgs false
def wool_Wrong.f (l0_0 : List (S41)) (l0_1 : List (S80)) : Option (List Int × Int) := some (wrR (toSt l0_0) (toWg l0_1), wrE (toSt l0_0) (toWg l0_1))
theorem wool_Wrong.calls (A0_0 : Option Addr) (c0_0 : Nat) (l0_0 : List (S41)) (A0_1 : Option Addr) (c0_1 : Nat) (l0_1 : List (S80)) (r1 : List Int) (r2 : Int) (w : World) (hG : GL w) (hr0_0 : Kd.C k41 w A0_0 l0_0.length l0_0) (hc0_0 : l0_0.length ≤ c0_0) (hr0_1 : Kd.C k80 w A0_1 l0_1.length l0_1) (hc0_1 : l0_1.length ≤ c0_1) (h : wool_Wrong.f l0_0 l0_1 = some (r1, r2)) :
  Calls Tryd.prog 37 #[.agg #[.slice A0_0 l0_0.length c0_0, .slice A0_1 l0_1.length c0_1]] w fun e w' => ∃ v0_ : Value, e = .returned (.tuple #[v0_, .int .i64 r2]) ∧ Kd.R (Kd.int .i64) 3 w' w.heap.size (fun _ => True) v0_ r1 ∧ Below w.heap.size w w' := by
 simp only [wool_Wrong.f, Option.some.injEq, Prod.mk.injEq] at h; obtain ⟨rfl, rfl⟩ := h; have H := wrong_ A0_0 c0_0 (toSt l0_0) A0_1 c0_1 (toWg l0_1) w hG (toSt_C hr0_0) (toSt_c hc0_0) (toWg_C hr0_1) (toWg_c hc0_1); rw [toSt_len, toWg_len] at H; refine H.mono ?_; rintro e w' ⟨v, he, h1, h2⟩; exact ⟨v, he, ints_R h1, h2⟩
end Go.Proofs.YtemingmeidmjkaaDoor.Q
namespace Go.Proofs.YtemingmeidmjkaaDoor.Q
open Go.RowKit Go.Proofs.YtemingmeidmjkaaDoorW.PrintWords Go.Proofs.YtemingmeidmjkaaDoorW.PrintLast Go.Proofs.YtemingmeidmjkaaDoorW.PrintMore
attribute [local go_sem] max2_int min2_int max_two min_two max_three min_three max_four min_four   -- for this text's walks alone
set_option linter.unusedVariables false
set_option linter.unusedSimpArgs false
end Go.Proofs.YtemingmeidmjkaaDoor.Q
namespace Go.Proofs.YtemingmeidmjkaaDoor.Q
open Go.RowKit Go.Proofs.YtemingmeidmjkaaDoorW.PrintWords
set_option linter.unusedVariables false
set_option linter.unusedSimpArgs false
theorem in_f' {a l h : Int} (h1 : l ≤ a ∧ a ≤ h) : lw_in.f a l h = some true := by
 unfold lw_in.f
 rw [if_pos (by omega), decide_eq_true h1.2]
structure CtOk (st : List S41) (ws : List S80) : Prop where
 sts : ∀ s ∈ toSt st, stB s
 n1 : 1 ≤ st.length
 n4 : st.length ≤ 4
 w6 : ws.length ≤ 6
 wgs : ∀ x ∈ toWg ws, wOk st.length x
theorem CtOk.rd {st : List S41} {ws : List S80} (h : CtOk st ws) : RdOk (toSt st) (toWg ws) :=
 ⟨h.sts, fun x hx => by have := h.wgs x hx; unfold wOk at this; exact ⟨this.2.1, by omega⟩, by have := h.n4; rw [toSt_len]; omega⟩
theorem CtOk.e {st : List S41} {ws : List S80} (h : CtOk st ws) : roadE (toSt st) (toWg ws) = 0 := by
 have h1 := h.n1; have h2 := h.n4; have h3 := h.w6
 refine roadE_ok (by rw [toSt_len]; omega) (by rw [toSt_len]; omega) h.sts (by rw [toWg_len]; omega) fun x hx => ?_
 have := h.wgs x hx
 unfold wOk at this
 rw [toSt_len]; omega
theorem u16_wf {x : Int} (h : (Lit.int .u16 x).wf = true) : 0 ≤ x ∧ x ≤ 65535 := by
 simp only [Lit.wf, Bool.and_eq_true, decide_eq_true_eq] at h; exact h
end Go.Proofs.YtemingmeidmjkaaDoor.Q
namespace Go.Proofs.YtemingmeidmjkaaDoor.Q
open Go.RowKit Go.Proofs.YtemingmeidmjkaaDoorW.PrintWords Go.Proofs.YtemingmeidmjkaaDoorW.PrintLast Go.Proofs.YtemingmeidmjkaaDoorW.PrintMore
attribute [local go_sem] max2_int min2_int max_two min_two max_three min_three max_four min_four   -- for this text's walks alone
set_option linter.unusedVariables false
set_option linter.unusedSimpArgs false
end Go.Proofs.YtemingmeidmjkaaDoor.Q
namespace Go.Proofs.YtemingmeidmjkaaDoor.Q
open Go.RowKit Go.Proofs.YtemingmeidmjkaaDoorW.PrintWords Go.Proofs.YtemingmeidmjkaaDoorW.PrintLast Go.Proofs.YtemingmeidmjkaaDoorW.PrintMore
attribute [local go_sem] max2_int min2_int max_two min_two max_three min_three max_four min_four   -- for this text's walks alone
set_option linter.unusedVariables false
set_option linter.unusedSimpArgs false
end Go.Proofs.YtemingmeidmjkaaDoor.Q
namespace Go.Proofs.YtemingmeidmjkaaDoor.Q
open Go.RowKit Go.Proofs.YtemingmeidmjkaaDoorW.PrintWords Go.Proofs.YtemingmeidmjkaaDoorW.PrintLast Go.Proofs.YtemingmeidmjkaaDoorW.PrintMore
attribute [local go_sem] max2_int min2_int max_two min_two max_three min_three max_four min_four   -- for this text's walks alone
set_option linter.unusedVariables false
set_option linter.unusedSimpArgs false
end Go.Proofs.YtemingmeidmjkaaDoor.Q
namespace Go.Proofs.YtemingmeidmjkaaDoor.Q
open Go.RowKit Go.Proofs.YtemingmeidmjkaaDoorW.PrintWords Go.Proofs.YtemingmeidmjkaaDoorW.PrintLast Go.Proofs.YtemingmeidmjkaaDoorW.PrintMore
attribute [local go_sem] max2_int min2_int max_two min_two max_three min_three max_four min_four   -- for this text's walks alone
set_option linter.unusedVariables false
set_option linter.unusedSimpArgs false
def wool_Check.f (l0_0 : List (S41)) (l0_1 : List (S80)) : Option (Int) := some (roadE (toSt l0_0) (toWg l0_1))
theorem wool_Check.calls (A0_0 : Option Addr) (c0_0 : Nat) (l0_0 : List (S41)) (A0_1 : Option Addr) (c0_1 : Nat) (l0_1 : List (S80)) (r : Int) (w : World) (hr0_0 : Kd.C k41 w A0_0 l0_0.length l0_0) (hc0_0 : l0_0.length ≤ c0_0) (hr0_1 : Kd.C k80 w A0_1 l0_1.length l0_1) (hc0_1 : l0_1.length ≤ c0_1) (h : wool_Check.f l0_0 l0_1 = some r) :
  Calls Tryd.prog 19 #[.agg #[.slice A0_0 l0_0.length c0_0, .slice A0_1 l0_1.length c0_1]] w fun e w' => e = .returned (.int .i64 r) ∧ Below w.heap.size w w' := by
 simp only [wool_Check.f, Option.some.injEq, Prod.mk.injEq] at h; obtain rfl := h; have H := check_ A0_0 c0_0 (toSt l0_0) A0_1 c0_1 (toWg l0_1) w (toSt_C hr0_0) (toSt_c hc0_0) (toWg_C hr0_1) (toWg_c hc0_1); rw [toSt_len, toWg_len] at H; exact H
end Go.Proofs.YtemingmeidmjkaaDoor.Q
namespace Go.Proofs.YtemingmeidmjkaaDoor.Q
open Go.RowKit Go.Proofs.YtemingmeidmjkaaDoorW.PrintWords Go.Proofs.YtemingmeidmjkaaDoorW.PrintLast Go.Proofs.YtemingmeidmjkaaDoorW.PrintMore
attribute [local go_sem] max2_int min2_int max_two min_two max_three min_three max_four min_four   -- for this text's walks alone
set_option linter.unusedVariables false
set_option linter.unusedSimpArgs false
end Go.Proofs.YtemingmeidmjkaaDoor.Q
namespace Go.Proofs.YtemingmeidmjkaaDoor.Q
open Go.RowKit Go.Proofs.YtemingmeidmjkaaDoorW.PrintWords Go.Proofs.YtemingmeidmjkaaDoorW.PrintLast Go.Proofs.YtemingmeidmjkaaDoorW.PrintMore
attribute [local go_sem] max2_int min2_int max_two min_two max_three min_three max_four min_four   -- for this text's walks alone
set_option linter.unusedVariables false
set_option linter.unusedSimpArgs false
end Go.Proofs.YtemingmeidmjkaaDoor.Q
namespace Go.Proofs.YtemingmeidmjkaaDoor.Q
open Go.RowKit Go.Proofs.YtemingmeidmjkaaDoorW.PrintWords Go.Proofs.YtemingmeidmjkaaDoorW.PrintLast Go.Proofs.YtemingmeidmjkaaDoorW.PrintMore
attribute [local go_sem] max2_int min2_int max_two min_two max_three min_three max_four min_four   -- for this text's walks alone
set_option linter.unusedVariables false
set_option linter.unusedSimpArgs false
end Go.Proofs.YtemingmeidmjkaaDoor.Q
namespace Go.Proofs.YtemingmeidmjkaaDoor.Q
open Go.RowKit Go.Proofs.YtemingmeidmjkaaDoorW.PrintWords Go.Proofs.YtemingmeidmjkaaDoorW.PrintLast Go.Proofs.YtemingmeidmjkaaDoorW.PrintMore
attribute [local go_sem] max2_int min2_int max_two min_two max_three min_three max_four min_four   -- for this text's walks alone
set_option linter.unusedVariables false
set_option linter.unusedSimpArgs false
end Go.Proofs.YtemingmeidmjkaaDoor.Q
namespace Go.Proofs.YtemingmeidmjkaaDoor.Q
open Go.RowKit Go.Proofs.YtemingmeidmjkaaDoorW.PrintWords Go.Proofs.YtemingmeidmjkaaDoorW.PrintLast Go.Proofs.YtemingmeidmjkaaDoorW.PrintMore
attribute [local go_sem] max2_int min2_int max_two min_two max_three min_three max_four min_four   -- for this text's walks alone
set_option linter.unusedVariables false
set_option linter.unusedSimpArgs false
attribute [local go_sem high] eqA41
end Go.Proofs.YtemingmeidmjkaaDoor.Q
namespace Go.Proofs.YtemingmeidmjkaaDoor.Q
open Go.RowKit Go.Proofs.YtemingmeidmjkaaDoorW.PrintWords
set_option linter.unusedVariables false
set_option linter.unusedSimpArgs false
def amU (t : Sp) (w v : Nat) (a : Sp) : Sp := ⟨if a.lo < 0 then max 1 (loS t w - v) else if max 1 (loS t w - v) < a.lo then max 1 (loS t w - v) else a.lo, max a.hi (hiS t w - v)⟩
def amV (h : Nat → Bool) (t : Sp) (w : Nat) : Nat → Nat → Sp → Sp
 | 0, _, a => a
 | d + 1, v, a => amV h t w d (v + 1) (if h v && decide ((v : Int) < hiS t w) then amU t w v a else a)
def amW (g h : Nat → Bool) (t : Sp) : Nat → Nat → Sp → Sp
 | 0, _, a => a
 | d + 1, w, a => amW g h t d (w + 1) (if g w then amV h t w (w + 1) 0 a else a)
structure AmIs (t : Sp) (P : Nat → Nat → Prop) (a : Sp) : Prop where
 all : ∀ w v, P w v → 1 ≤ a.lo ∧ a.lo ≤ max 1 (loS t w - v) ∧ hiS t w - v ≤ a.hi
 some : (a = ⟨-1, -1⟩ ∧ ∀ w v, ¬ P w v) ∨ ((∃ w v, P w v ∧ a.lo = max 1 (loS t w - v)) ∧ ∃ w v, P w v ∧ a.hi = hiS t w - v)
theorem AmIs.congr {t : Sp} {P Q : Nat → Nat → Prop} {a : Sp} (h : AmIs t P a) (e : ∀ w v, P w v ↔ Q w v) : AmIs t Q a := by
 have : P = Q := by funext w v; exact propext (e w v)
 subst this; exact h
theorem AmIs.step {t : Sp} {P : Nat → Nat → Prop} {a : Sp} (h : AmIs t P a) (w v : Nat) (hv : 0 ≤ hiS t w - v) : AmIs t (fun w' v' => P w' v' ∨ (w' = w ∧ v' = v)) (amU t w v a) := by
 obtain ⟨h1, h2⟩ := h
 rcases h2 with ⟨rfl, h2⟩ | ⟨⟨w1, v1, p1, e1⟩, w2, v2, p2, e2⟩
 ·refine ⟨fun w' v' hp => ?_, .inr ⟨⟨w, v, .inr ⟨rfl, rfl⟩, ?_⟩, w, v, .inr ⟨rfl, rfl⟩, ?_⟩⟩
  ·rcases hp with hp | ⟨rfl, rfl⟩
   ·exact absurd hp (h2 _ _)
   ·simp only [amU]; omega
  ·simp only [amU]; omega
  ·simp only [amU]; omega
 ·have h3 := h1 w1 v1 p1
  have h4 := h1 w2 v2 p2; refine ⟨fun w' v' hp => ?_, .inr ⟨?_, ?_⟩⟩
  ·rcases hp with hp | ⟨rfl, rfl⟩
   ·have := h1 w' v' hp
    simp only [amU]; omega
   ·simp only [amU]; omega
  ·by_cases c : max 1 (loS t w - v) < a.lo
   ·exact ⟨w, v, .inr ⟨rfl, rfl⟩, by simp only [amU]; omega⟩
   ·exact ⟨w1, v1, .inl p1, by simp only [amU]; omega⟩
  ·by_cases c : hiS t w - v ≤ a.hi
   ·exact ⟨w2, v2, .inl p2, by simp only [amU]; omega⟩
   ·exact ⟨w, v, .inr ⟨rfl, rfl⟩, by simp only [amU]; omega⟩
theorem amV_is (h : Nat → Bool) (t : Sp) (w : Nat) (P : Nat → Nat → Prop) : ∀ (d i : Nat) (a : Sp), AmIs t (fun w' v => P w' v ∨ (w' = w ∧ v < i ∧ h v = true ∧ (v : Int) < hiS t w)) a → AmIs t (fun w' v => P w' v ∨ (w' = w ∧ v < i + d ∧ h v = true ∧ (v : Int) < hiS t w)) (amV h t w d i a)
 | 0, i, a, ha => ha
 | d + 1, i, a, ha => by
  rw [amV, show i + (d + 1) = i + 1 + d by omega]; refine amV_is h t w P d (i + 1) _ ?_
  by_cases hc : h i = true ∧ (i : Int) < hiS t w
  ·rw [if_pos (by rw [hc.1, decide_eq_true hc.2]; rfl)]
   refine (ha.step w i (by omega)).congr (fun w' v => ?_)
   constructor
   ·rintro ((h1 | ⟨h1, h2, h3, h4⟩) | ⟨rfl, rfl⟩)
    ·exact .inl h1
    ·exact .inr ⟨h1, by omega, h3, h4⟩
    ·exact .inr ⟨rfl, by omega, hc.1, hc.2⟩
   ·rintro (h1 | ⟨h1, h2, h3, h4⟩)
    ·exact .inl (.inl h1)
    ·by_cases e : v = i
     ·exact .inr ⟨h1, e⟩
     ·exact .inl (.inr ⟨h1, by omega, h3, h4⟩)
  ·have hf : ¬ ((h i && decide ((i : Int) < hiS t w)) = true) := by
    rw [Bool.and_eq_true, decide_eq_true_eq]; exact hc
   rw [if_neg hf]; refine ha.congr (fun w' v => ?_)
   constructor
   ·rintro (h1 | ⟨h1, h2, h3, h4⟩)
    ·exact .inl h1
    ·exact .inr ⟨h1, by omega, h3, h4⟩
   ·rintro (h1 | ⟨h1, h2, h3, h4⟩)
    ·exact .inl h1
    ·by_cases e : v = i
     ·subst e; exact absurd ⟨h3, h4⟩ hc
     ·exact .inr ⟨h1, by omega, h3, h4⟩
theorem amW_is (g h : Nat → Bool) (t : Sp) : ∀ (d i : Nat) (a : Sp), AmIs t (fun w v => w < i ∧ g w = true ∧ v ≤ w ∧ h v = true ∧ (v : Int) < hiS t w) a → AmIs t (fun w v => w < i + d ∧ g w = true ∧ v ≤ w ∧ h v = true ∧ (v : Int) < hiS t w) (amW g h t d i a)
 | 0, i, a, ha => ha
 | d + 1, i, a, ha => by
  rw [amW, show i + (d + 1) = i + 1 + d by omega]; refine amW_is g h t d (i + 1) _ ?_
  by_cases hg : g i = true
  ·rw [if_pos hg]
   refine (amV_is h t i (fun w v => w < i ∧ g w = true ∧ v ≤ w ∧ h v = true ∧ (v : Int) < hiS t w) (i + 1) 0 a (ha.congr fun w v => ?_)).congr (fun w v => ?_)
   ·constructor
    ·exact fun h1 => .inl h1
    ·rintro (h1 | ⟨_, h2, _⟩)
     ·exact h1
     ·omega
   ·constructor
    ·rintro (⟨h1, h2⟩ | ⟨rfl, h2, h3, h4⟩)
     ·exact ⟨by omega, h2⟩
     ·exact ⟨by omega, hg, by omega, h3, h4⟩
    ·rintro ⟨h1, h2, h3, h4, h5⟩
     by_cases e : w = i
     ·subst e; exact .inr ⟨rfl, by omega, h4, h5⟩
     ·exact .inl ⟨by omega, h2, h3, h4, h5⟩
  ·rw [if_neg hg]
   refine ha.congr (fun w v => ?_)
   constructor
   ·rintro ⟨h1, h2⟩; exact ⟨by omega, h2⟩
   ·rintro ⟨h1, h2, h3⟩
    by_cases e : w = i
    ·subst e; exact absurd h2 hg
    ·exact ⟨by omega, h2, h3⟩
theorem amW_spec (g h : Nat → Bool) (t : Sp) : AmIs t (fun w v => w < 401 ∧ g w = true ∧ v ≤ w ∧ h v = true ∧ (v : Int) < hiS t w) (amW g h t 401 0 ⟨-1, -1⟩) := by
 have h0 := amW_is g h t 401 0 ⟨-1, -1⟩ ⟨fun w v hp => by omega, .inl ⟨rfl, fun w v hp => by omega⟩⟩
 exact h0.congr fun w v => by rw [Nat.zero_add]
theorem thN_le (t x y : Sp) : ∀ n : Nat, thN t x y n ≤ 400 ∧ (∀ j : Nat, j < n → thN t x y n ≤ max 1 (loS t (x.lo + j) - min y.hi (hiS t (x.lo + j) - 1))) ∧ (thN t x y n = 400 ∨ ∃ j : Nat, j < n ∧ thN t x y n = max 1 (loS t (x.lo + j) - min y.hi (hiS t (x.lo + j) - 1)))
 | 0 => ⟨Int.le_refl _, fun j h => by omega, .inl rfl⟩
 | n + 1 => by
  obtain ⟨h1, h2, h3⟩ := thN_le t x y n; rw [thN_succ]
  generalize thN t x y n = a at *
  unfold thStep
  refine ⟨by omega, fun j hj => ?_, ?_⟩
  ·by_cases e : j = n
   ·subst e; omega
   ·have := h2 j (by omega); omega
  ·by_cases c : a ≤ max 1 (loS t (x.lo + n) - min y.hi (hiS t (x.lo + n) - 1))
   ·rw [show min a (max 1 (loS t (x.lo + n) - min y.hi (hiS t (x.lo + n) - 1))) = a by omega]
    rcases h3 with h3 | ⟨j, hj, h3⟩
    ·exact .inl h3
    ·exact .inr ⟨j, by omega, h3⟩
   ·exact .inr ⟨n, by omega, by omega⟩
theorem amW_span (g h : Nat → Bool) (t x y : Sp) (ht : stB t) (hx : fullS x) (hy : fullS y) (hg : ∀ w : Nat, w ≤ 400 → (g w = true ↔ inS x (w : Int))) (hh : ∀ w : Nat, w ≤ 400 → (h w = true ↔ inS y (w : Int))) (hxy : ∀ w : Int, inS x w → y.lo + 1 ≤ hiS t w) :
  amW g h t 401 0 ⟨-1, -1⟩ = ⟨thN t x y (x.hi + 1 - x.lo).toNat, hiS t x.hi - y.lo⟩ := by
 obtain ⟨s1, s2⟩ := amW_spec g h t; obtain ⟨n1, n2, n3⟩ := thN_le t x y (x.hi + 1 - x.lo).toNat
 unfold fullS at hx hy
 have hval : ∀ w v : Nat, (w < 401 ∧ g w = true ∧ v ≤ w ∧ h v = true ∧ (v : Int) < hiS t w) ↔ inS x (w : Int) ∧ inS y (v : Int) ∧ (v : Int) < hiS t w := by
  intro w v
  constructor
  ·rintro ⟨h1, h2, h3, h4, h5⟩
   exact ⟨(hg w (by omega)).1 h2, (hh v (by omega)).1 h4, h5⟩
  ·rintro ⟨h1, h2, h3⟩
   have h4 := hiS_le ht (w := (w : Int)) (by omega)
   unfold inS at h1 h2
   exact ⟨by omega, (hg w (by omega)).2 h1, by omega, (hh v (by omega)).2 h2, h3⟩
 generalize amW g h t 401 0 ⟨-1, -1⟩ = a at *
 obtain ⟨xl, hxl⟩ : ∃ n : Nat, x.lo = (n : Int) := ⟨x.lo.toNat, by omega⟩; obtain ⟨xh, hxh⟩ : ∃ n : Nat, x.hi = (n : Int) := ⟨x.hi.toNat, by omega⟩; obtain ⟨yl, hyl⟩ : ∃ n : Nat, y.lo = (n : Int) := ⟨y.lo.toNat, by omega⟩
 have ph : inS x (xh : Int) ∧ inS y (yl : Int) ∧ (yl : Int) < hiS t (xh : Int) := by
  have := hxy (xh : Int) (by unfold inS; omega)
  unfold inS
  omega
 have ha := s1 xh yl ((hval _ _).2 ph)
 rcases s2 with ⟨_, s2⟩ | ⟨⟨w1, v1, p1, e1⟩, w2, v2, p2, e2⟩
 ·exact absurd ((hval _ _).2 ph) (s2 _ _)
 ·have q1 := (hval _ _).1 p1
  have q2 := (hval _ _).1 p2
  have hhi : a.hi = hiS t x.hi - y.lo := by
   have m2 := hiS_mono ht (w := (w2 : Int)) (w' := x.hi) q2.1.2; have := q2.2.1.1; rw [hxh] at m2 ⊢; omega
  have best : ∀ j : Nat, j < (x.hi + 1 - x.lo).toNat → a.lo ≤ max 1 (loS t (x.lo + j) - min y.hi (hiS t (x.lo + j) - 1)) := by
   intro j hj
   have hin : inS x (x.lo + j) := by unfold inS; omega
   have hb := hxy _ hin; have h0 := hiS_le ht (w := x.lo + (j : Int)) (by omega); obtain ⟨v, hv⟩ : ∃ v : Nat, min y.hi (hiS t (x.lo + j) - 1) = (v : Int) := ⟨(min y.hi (hiS t (x.lo + j) - 1)).toNat, by omega⟩
   have ew : x.lo + (j : Int) = ((xl + j : Nat) : Int) := by omega
   rw [ew] at hin hb h0 hv ⊢; have := s1 (xl + j) v ((hval _ _).2 ⟨hin, by unfold inS; omega, by omega⟩); rw [hv]; omega
  have hlo : a.lo = thN t x y (x.hi + 1 - x.lo).toNat := by
   have l1 : thN t x y (x.hi + 1 - x.lo).toNat ≤ a.lo := by
    have hi1 := q1.1
    unfold inS at hi1
    have := n2 (w1 - xl) (by omega); rw [show x.lo + ((w1 - xl : Nat) : Int) = (w1 : Int) by omega] at this; have := q1.2.1.2; omega
   have l2 : a.lo ≤ thN t x y (x.hi + 1 - x.lo).toNat := by
    rcases n3 with n3 | ⟨j, hj, n3⟩
    ·rw [n3]
     have hi1 := q1.1
     unfold inS at hi1
     have g1 := loS_hiS ht (w := (w1 : Int)) (by omega); have g2 := hiS_le ht (w := (w1 : Int)) (by omega); omega
    ·rw [n3]
     exact best j hj
   omega
  cases a
  simp only at hlo hhi; rw [hlo, hhi]
section
variable (st : List S41) (wg : List S80)
end
end Go.Proofs.YtemingmeidmjkaaDoor.Q
namespace Go.Proofs.YtemingmeidmjkaaDoor.Q
open Go.RowKit Go.Proofs.YtemingmeidmjkaaDoorW.PrintWords
set_option linter.unusedVariables false
set_option linter.unusedSimpArgs false
theorem has_l0 (l : List Int) (hl : l.length ≤ 1000) (x : Int) : ∀ (d i : Nat), i + d = l.length → Ev (fun k => lw_has.l0 k l x (i : Int)) (decide (x ∈ l.drop i))
 | 0, i, hd => by
  refine Ev.up ?_; rw [List.drop_eq_nil_of_le (by omega)]; simp only [lw_has.l0, if_neg (show ¬ (i : Int) < (l.length : Int) by omega)]
  simpa using Ev.now false
 | d + 1, i, hd => by
  have ih := has_l0 l hl x d (i + 1) (by omega); refine Ev.up ?_; rw [List.drop_eq_getElem_cons (by omega)]; simp only [lw_has.l0, if_pos (show (i : Int) < (l.length : Int) by omega), if_pos (show (0 : Int) ≤ (i : Int) by omega), rdI l i (by omega), wi i (by omega)]
  by_cases c : l[i] = x
  ·simp only [if_pos c]
   rw [decide_eq_true (by rw [c]; simp)]; exact Ev.now _
  ·simp only [if_neg c]
   have e : decide (x ∈ l[i] :: l.drop (i + 1)) = decide (x ∈ l.drop (i + 1)) := by
    rw [Bool.eq_iff_iff]; simp only [decide_eq_true_eq, List.mem_cons]; exact ⟨fun h => h.resolve_left (fun e => c e.symm), .inr⟩
   rw [e]; exact ih
theorem has_f (l : List Int) (hl : l.length ≤ 1000) (x : Int) : Ev (fun k => lw_has.f k l x) (decide (x ∈ l)) := has_l0 l hl x l.length 0 (by omega)
section
variable {st : List Sp} {wg : List Wg} {s : Nat}
theorem fw_fit {th : Int} {p w : Nat} (h : fwB st wg th p w = true) : fitB wg (p : Int) (w : Int) = true := by
 cases p with
 | zero => exact h
 | succ p => rw [fwB, Bool.and_eq_true] at h; exact h.1
theorem fu_bw (hok : RdOk st wg) : ∀ (d p v : Nat), s < p → p + d = st.length → v ≤ 400 → fuB st wg s d p v = true → ∃ b, bwN st wg d p v = some b ∧ b.lo ≤ 0 ∧ 0 ≤ b.hi
 | 0, p, v, hp, hd, hv, h => by
  rw [fuB] at h; exact ⟨⟨0, 0⟩, by rw [bwN, if_pos (fw_fit h)], Int.le_refl _, Int.le_refl _⟩
 | d + 1, p, v, hp, hd, hv, h => by
  rw [fuB, Bool.and_eq_true, List.any_eq_true] at h; obtain ⟨h1, u, hu, h2⟩ := h; rw [Bool.and_eq_true] at h2; have hu2 := List.mem_range.1 hu; obtain ⟨b, b1, b2, b3⟩ := fu_bw hok d (p + 1) u (by omega) (by omega) (by omega) h2.1; have hs := (stp_ne (by omega)).1 h2.2; obtain ⟨x, e1, e2, e3⟩ := fo_in (f := fun v' => sh (rdS st (p : Int)) (v : Int) (v' : Int) (bwN st wg d (p + 1) v')) (j := u) (a := ⟨b.lo + max 0 (loS (rdS st (p : Int)) (v : Int) - (u : Int)), b.hi + (hiS (rdS st (p : Int)) (v : Int) - (u : Int))⟩) (by simp only [b1, sh]) (n := (hiS (rdS st (p : Int)) (v : Int) + 1).toNat) (by omega); simp only at e2 e3; exact ⟨x, by rw [bwN_succ d p _ (fw_fit h1)]; exact e1, by omega, by omega⟩
theorem fw_bw (hok : RdOk st wg) : ∀ (p d w : Nat) (b : Sp), p ≤ s → p + d = st.length → w ≤ 400 → fwB st wg s p w = true → bwN st wg d p w = some b → ∃ m, msAll st wg = some m ∧ m.lo ≤ b.lo ∧ b.hi ≤ m.hi
 | 0, d, w, b, hp, hd, hw, h, hb => by
  obtain rfl : d = st.length := by omega
  exact ms_of hok hw hb
 | p + 1, d, v, b, hp, hd, hv, h, hb => by
  rw [fwB, Bool.and_eq_true, List.any_eq_true] at h; obtain ⟨_, w, hw, h2⟩ := h; have hw2 := List.mem_range.1 hw; simp only [Bool.and_eq_true, decide_eq_true_eq] at h2; have hs := (stp_ne (by omega)).1 h2.2; obtain ⟨x, e1, e2, e3⟩ := fo_in (f := fun v' => sh (rdS st (p : Int)) (w : Int) (v' : Int) (bwN st wg d (p + 1) v')) (j := v) (a := ⟨b.lo + max 0 (loS (rdS st (p : Int)) (w : Int) - (v : Int)), b.hi + (hiS (rdS st (p : Int)) (w : Int) - (v : Int))⟩) (by simp only [hb, sh]) (n := (hiS (rdS st (p : Int)) (w : Int) + 1).toNat) (by omega); simp only at e2 e3; obtain ⟨m, m1, m2, m3⟩ := fw_bw hok p (d + 1) w x (by omega) (by omega) (by omega) h2.1.2 (by rw [bwN_succ d p _ (fw_fit h2.1.2)]; exact e1); exact ⟨m, m1, by omega, by omega⟩
def prB (st : List Sp) (wg : List Wg) (s : Nat) (w v : Nat) : Prop := w < 401 ∧ fuB st wg s (st.length - s) s w = true ∧ v ≤ w ∧ fuB st wg s (st.length - (s + 1)) (s + 1) v = true ∧ (v : Int) < hiS (rdS st s) w
theorem pr_ms (hok : RdOk st wg) (hs : s < st.length) {w v : Nat} (h : prB st wg s w v) : ∃ m, msAll st wg = some m ∧ m.lo ≤ max 0 (loS (rdS st s) w - v) ∧ hiS (rdS st s) w - v ≤ m.hi := by
 obtain ⟨h1, h2, h3, h4, h5⟩ := h; obtain ⟨b, b1, b2, b3⟩ := fu_bw hok (st.length - (s + 1)) (s + 1) v (by omega) (by omega) (by omega) h4; have hfw := fu_fw _ _ _ h2; obtain ⟨x, e1, e2, e3⟩ := fo_in (f := fun v' => sh (rdS st (s : Int)) (w : Int) (v' : Int) (bwN st wg (st.length - (s + 1)) (s + 1) v')) (j := v) (a := ⟨b.lo + max 0 (loS (rdS st (s : Int)) (w : Int) - (v : Int)), b.hi + (hiS (rdS st (s : Int)) (w : Int) - (v : Int))⟩) (by simp only [b1, sh]) (n := (hiS (rdS st (s : Int)) (w : Int) + 1).toNat) (by omega); simp only at e2 e3; obtain ⟨m, m1, m2, m3⟩ := fw_bw hok s (st.length - s) w x (Nat.le_refl _) (by omega) (by omega) hfw (by rw [show st.length - s = (st.length - (s + 1)) + 1 by omega, bwN_succ _ s _ (fw_fit hfw)]; exact e1); exact ⟨m, m1, by omega, by omega⟩
theorem pr_some (hok : RdOk st wg) (hs : s < st.length) (h : thOk st wg s = true) : ∃ w v, prB st wg s w v := by
 obtain ⟨w0, hw0, h0⟩ := (th_is hok hs).1 h; obtain ⟨w, hw, h1⟩ := fu_chain st.length 0 w0 hw0 h0 s (by omega) (by omega); rw [Nat.zero_add] at h1; have h2 := h1; rw [show st.length - s = (st.length - (s + 1)) + 1 by omega, fuB, Bool.and_eq_true, List.any_eq_true] at h2; obtain ⟨_, v, hv, h3⟩ := h2; rw [Bool.and_eq_true] at h3; have := List.mem_range.1 hv; exact ⟨w, v, by omega, h1, by omega, h3.1, stp_at.1 h3.2⟩
theorem am_is (hok : RdOk st wg) (hs : s < st.length) (h : thOk st wg s = true) : AmIs (rdS st s) (prB st wg s) (thAmt st wg s) := by
 have h35 := (th_ok hs).1 h; have ok5 := rd5_ok hok hs; have hin := th_in hok hs h
 have full : ∀ q : Nat, q ≤ st.length → fullS (rdS (thL5 st wg s) (q : Int)) := by
  intro q hq; have h1 := h35.2 q hq; have h2 := ok5 q
  unfold okS at h2
  unfold fullS
  omega
 have hst := hok.at (s : Int) (by omega) (by omega)
 have e := amW_span (fuB st wg s (st.length - s) s) (fuB st wg s (st.length - (s + 1)) (s + 1)) (rdS st s) _ _ hst (full s (by omega)) (full (s + 1) (by omega)) (hin s (by omega)) (hin (s + 1) (by omega)) (by
  intro w hw; have h5 := th5_at (wg := wg) hs; have f1 := full s (by omega)
  unfold fullS at f1
  have hw2 := hw
  unfold inS at hw2
  obtain ⟨m, rfl⟩ : ∃ m : Nat, w = (m : Int) := ⟨w.toNat, by omega⟩; have hf := (hin s (by omega) m (by omega)).2 hw; rw [show st.length - s = (st.length - (s + 1)) + 1 by omega, fuB, Bool.and_eq_true, List.any_eq_true] at hf; obtain ⟨_, v, hv, h3⟩ := hf; rw [Bool.and_eq_true] at h3; have := List.mem_range.1 hv; have h4 := (hin (s + 1) (by omega) v (by omega)).1 h3.1; have h6 := stp_at.1 h3.2
  unfold inS at h4
  omega)
 have hsp := amW_spec (fuB st wg s (st.length - s) s) (fuB st wg s (st.length - (s + 1)) (s + 1)) (rdS st s); rw [e] at hsp; exact hsp
theorem am_bd (hok : RdOk st wg) (hs : s < st.length) (h : thOk st wg s = true) {m : Sp} (hm : msAll st wg = some m) : 1 ≤ (thAmt st wg s).lo ∧ (thAmt st wg s).lo ≤ (thAmt st wg s).hi ∧ m.lo ≤ (thAmt st wg s).lo ∧ (thAmt st wg s).hi ≤ m.hi := by
 have ha := am_is hok hs h; obtain ⟨w0, v0, h0⟩ := pr_some hok hs h; have hst := hok.at (s : Int) (by omega) (by omega); have hall := ha.all w0 v0 h0
 rcases ha.some with ⟨_, hno⟩ | ⟨⟨w1, v1, p1, e1⟩, w2, v2, p2, e2⟩
 ·exact absurd h0 (hno _ _)
 ·obtain ⟨m1, q1, q2, q3⟩ := pr_ms hok hs p1
  obtain ⟨m2, r1, r2, r3⟩ := pr_ms hok hs p2; rw [hm] at q1 r1; obtain rfl := Option.some.inj q1; obtain rfl := Option.some.inj r1; have g1 := loS_hiS hst (w := (w0 : Int)) (by omega); have := h0.2.2.2.2
  generalize thAmt st wg s = a at *
  omega
end
section
variable (st : List S41) (ws : List S80)
theorem Th_l0 (hc : CtOk st ws) (th : Nat) (hth : th < st.length) (g : Int) (m : Sp) (hm : msAll (toSt st) (toWg ws) = some m) (hok1 : thOk (toSt st) (toWg ws) th = true) (hg : (thAmt (toSt st) (toWg ws) th).lo ≤ g ∧ g ≤ (thAmt (toSt st) (toWg ws) th).hi) (e : Int) (L : List Int) (hL : e = 0 → L = whereL (toSt st) (toWg ws)) : ∀ (d i : Nat), i + d = st.length → Ev (fun k => lw_WoolThief.l0 k (th : Int) g L e (i : Int) st ws m.lo m.hi) true
 | 0, i, hd => by
  refine Ev.up ?_; simp only [lw_WoolThief.l0, if_neg (show ¬ (i : Int) < (st.length : Int) by omega), lw_known.f, Option.bind_some]; exact Ev.now _
 | d + 1, i, hd => by
  have hn4 := hc.n4; have hw6 := hc.w6
  have hi : i < st.length := by omega
  have ih := Th_l0 hc th hth g m hm hok1 hg e L hL d (i + 1) (by omega); have hE := hc.e; have hin : inB 0 (((toSt st).length : Int) - 1) [(i : Int)] = true := (inB_one _ _ _).2 (by rw [toSt_len]; omega)
  have hlen : (whereL (toSt st) (toWg ws)).length ≤ 1000 := by
   have := whereL_len (toSt st) (toWg ws); rw [toSt_len] at this; omega
  have hmem : ((i : Int) ∈ whereL (toSt st) (toWg ws)) ↔ thOk (toSt st) (toWg ws) i = true := by
   unfold whereL
   rw [List.mem_map]
   constructor
   ·rintro ⟨j, hj, ej⟩
    have ej2 : (j : Int) = (i : Int) := ej
    obtain rfl : j = i := by omega
    exact (List.mem_filter.1 hj).2
   ·intro h
    exact ⟨i, List.mem_filter.2 ⟨List.mem_range.2 (by rw [toSt_len]; exact hi), h⟩, rfl⟩
  refine Ev.up ?_; simp only [lw_WoolThief.l0, if_pos (show (i : Int) < (st.length : Int) by omega), own_f st ws (by omega) (by omega), Option.bind_some, wool_Amount.f]
  cases ht : thOk (toSt st) (toWg ws) i
  ·have e1 : amE (toSt st) (toWg ws) (i : Int) = 9 := by rw [amE, if_pos hE, if_pos hin, Int.toNat_natCast, ht]; rfl
   have e2 : amS (toSt st) (toWg ws) (i : Int) = ⟨0, 0⟩ := by rw [amS, e1, if_neg (by omega)]
   have hne : ¬ (i : Int) = (th : Int) := by
    intro c
    obtain rfl : i = th := by omega
    rw [ht] at hok1
    cases hok1
   have hj : Ev (fun k => lw_WoolThief.j3 k (th : Int) g L e (i : Int) 9 false st ws m.lo m.hi 0 0) true := by
    refine Ev.up ?_; simp only [lw_WoolThief.j3, Bool.false_eq_true, if_false, if_neg (show ¬ (9 : Int) = 0 by omega), wi i (by omega)]; exact ih
   simp only [e1, e2, if_neg (show ¬ (9 : Int) = 0 by omega), if_true, beq_self_eq_true, Bool.not_true, Bool.or_self, Bool.false_eq_true, if_false, if_neg hne]
   by_cases c : e = 0
   ·simp only [if_pos c]
    rw [hL c]; refine Ev.bind (has_f _ hlen _) ?_; rw [decide_eq_false (by rw [hmem, ht]; simp)]; rw [hL c] at hj
    simpa using hj
   ·simp only [if_neg c]
    exact hj
  ·have e1 : amE (toSt st) (toWg ws) (i : Int) = 0 := by rw [amE, if_pos hE, if_pos hin, Int.toNat_natCast, ht]; rfl
   have e2 : amS (toSt st) (toWg ws) (i : Int) = thAmt (toSt st) (toWg ws) i := by rw [amS, if_pos e1, Int.toNat_natCast]
   obtain ⟨b1, b2, b3, b4⟩ := am_bd hc.rd (by rw [toSt_len]; exact hi) ht hm
   have hj : Ev (fun k => lw_WoolThief.j3 k (th : Int) g L e (i : Int) 0 false st ws m.lo m.hi (thAmt (toSt st) (toWg ws) i).lo (thAmt (toSt st) (toWg ws) i).hi) true := by
    refine Ev.up ?_; simp only [lw_WoolThief.j3, Bool.false_eq_true, if_false, if_true, if_neg (show ¬ (thAmt (toSt st) (toWg ws) i).lo < 1 by omega), if_neg (show ¬ (thAmt (toSt st) (toWg ws) i).lo > (thAmt (toSt st) (toWg ws) i).hi by omega), if_neg (show ¬ (thAmt (toSt st) (toWg ws) i).lo < m.lo by omega), if_neg (show ¬ (thAmt (toSt st) (toWg ws) i).hi > m.hi by omega), wi i (by omega)]; exact ih
   have hj2 : Ev (fun k => if e = 0 then (lw_has.f k L (i : Int)).bind fun t => lw_WoolThief.j3 k (th : Int) g L e (i : Int) 0 (t != ((0 : Int) == 0)) st ws m.lo m.hi (thAmt (toSt st) (toWg ws) i).lo (thAmt (toSt st) (toWg ws) i).hi else lw_WoolThief.j3 k (th : Int) g L e (i : Int) 0 false st ws m.lo m.hi (thAmt (toSt st) (toWg ws) i).lo (thAmt (toSt st) (toWg ws) i).hi) true := by
    by_cases c : e = 0
    ·simp only [if_pos c]
     rw [hL c] at hj ⊢; refine Ev.bind (has_f _ hlen _) ?_; rw [decide_eq_true (hmem.2 ht)]
     simpa using hj
    ·simp only [if_neg c]
     exact hj
   simp only [e1, e2, if_true]
   by_cases c : (i : Int) = (th : Int)
   ·obtain rfl : i = th := by omega
    simp only [if_true, in_f' hg, Option.bind_some]; exact hj2
   ·simp only [if_neg c]
    exact hj2
end
theorem WoolThief_ev (l0 : List S76) (a : Int) (l2 : List Int) (l3 : List S136) (v0 v1 : Int) (h0 : ∀ x ∈ l0, ub x.f0 ∧ ub x.f1) (ha : 0 ≤ a ∧ a ≤ 65535) (h2 : ∀ x ∈ l2, ub x) (h3 : ∀ x ∈ l3, ub x.f0 ∧ ub x.f1 ∧ ub x.f2) (hv0 : ub v0) (hv1 : ub v1) : Ev (fun k => lw_WoolThief.f k l0 a l2 l3 v0 v1) true := by
 obtain ⟨hv01, hv02⟩ := hv0; obtain ⟨hv11, hv12⟩ := hv1; obtain ⟨st, hr, hn1, hn4, hst⟩ := road_f l0 a l2 l3 h0; obtain ⟨th, hth⟩ : ∃ th : Nat, v0 % (st.length : Int) = (th : Int) := ⟨_, (Int.toNat_of_nonneg (Int.emod_nonneg _ (by omega))).symm⟩
 have hthn : th < st.length := by
  have := Int.emod_lt_of_pos v0 (show (0 : Int) < (st.length : Int) by omega); omega
 obtain ⟨A, T, g, q1, q2, q3⟩ := lived_f l0 a l2 l3 st [] (th : Int) (1 + v1) ha hst h2 (by omega) (by omega); have hla := q2.la; obtain ⟨ws, u1, u2, u3⟩ := weighed_f l0 a l2 l3 st st.length A [] h3 (by omega) hla (by omega) q2.bd (fun x h => by cases h); have hc : CtOk st ws := ⟨hst, hn1, hn4, u2, fun x hx => (u3 x hx).1⟩; have hok := hc.rd; have hE := hc.e; have hgn := q2.gn
 have q2' : LvP (toSt st) (th : Int) (toSt st).length g A T := by rw [toSt_len]; exact q2
 have hthn' : th < (toSt st).length := by rw [toSt_len]; exact hthn
 have hw : ∀ x ∈ toWg ws, wHit A x := fun x hx => (u3 x hx).2 rfl
 -- what is missing has what was stolen
 have hms : ∃ m, msAll (toSt st) (toWg ws) = some m ∧ 0 ≤ m.lo ∧ m.lo ≤ g ∧ g ≤ m.hi ∧ m.lo ≤ 400 := by
  have fin : ∀ s : Sp, bwN (toSt st) (toWg ws) (toSt st).length 0 (rd A 0).toNat = some s → s.lo ≤ g → g ≤ s.hi → ∃ m, msAll (toSt st) (toWg ws) = some m ∧ 0 ≤ m.lo ∧ m.lo ≤ g ∧ g ≤ m.hi ∧ m.lo ≤ 400 := by
   intro s hs h1 h2; have hb0 := q2.bd 0 (by omega); obtain ⟨m, m1, m2, m3⟩ := ms_of hok (by have : rd A ((0 : Nat) : Int) = rd A 0 := rfl; omega) hs; obtain ⟨m4, m5, m6⟩ := ms_bd hok m1; exact ⟨m, m1, m4, by omega, by omega, m5⟩
  by_cases hg0 : g = 0
  ·have hp := q2'.path hst hw (-1) (.inl ⟨hg0, rfl⟩)
   obtain ⟨s, s1, s2, s3, s4⟩ := hp.bw hok 0 (fun p hp he => by omega) (by omega) (toSt st).length 0 (by omega); rw [gonF, if_neg (by omega)] at s3 s4; exact fin s s1 (by omega) (by omega)
  ·have hp := q2'.path hst hw (th : Int) (.inr ⟨by omega, rfl, by omega⟩)
   obtain ⟨s, s1, s2, s3, s4⟩ := hp.bw hok g (fun p hp he => by
    have b1 := q2.bd p (by rw [toSt_len] at hp; omega); have b2 := q2.bd (p + 1) (by rw [toSt_len] at hp; omega); obtain ⟨c1, c2, c3⟩ := q2'.step p hp; rw [if_pos he] at c3
    have k1 : (((rd A (p : Int)).toNat : Nat) : Int) = rd A (p : Int) := by omega
    have k2 : (((rd A ((p + 1 : Nat) : Int)).toNat : Nat) : Int) = rd A ((p + 1 : Nat) : Int) := by omega
    simp only [k1, k2]
    omega) (by omega) (toSt st).length 0 (by omega)
   rw [gonF, if_pos (by omega)] at s3 s4; exact fin s s1 s3 s4
 obtain ⟨m, m1, m2, m3, m4, m5⟩ := hms
 have e7 : msE (toSt st) (toWg ws) = 0 := by rw [msE, if_pos hE, m1]; rfl
 have e8 : msS (toSt st) (toWg ws) = m := by
  rw [msS, if_pos e7, m1]
  show (⟨min 400 m.lo, max 0 m.hi⟩ : Sp) = m
  rw [show min 400 m.lo = m.lo by omega, show max 0 m.hi = m.hi by omega]
 -- the thief's station
 have hthf : 1 ≤ g → thOk (toSt st) (toWg ws) th = true ∧ (thAmt (toSt st) (toWg ws) th).lo ≤ g ∧ g ≤ (thAmt (toSt st) (toWg ws) th).hi := by
  intro hg1; have hp := q2'.path hst hw (th : Int) (.inr ⟨by omega, rfl, by omega⟩); have ht := hp.thief hok hthn'; have ha := am_is hok hthn' ht; have b1 := q2.bd th (by omega); have b2 := q2.bd (th + 1) (by omega); obtain ⟨c1, c2, c3⟩ := q2'.step th hthn'; rw [if_pos rfl] at c3
  have k1 : (((rd A (th : Int)).toNat : Nat) : Int) = rd A (th : Int) := by omega
  have k2 : (((rd A ((th + 1 : Nat) : Int)).toNat : Nat) : Int) = rd A ((th + 1 : Nat) : Int) := by omega
  have pr : prB (toSt st) (toWg ws) th (rd A (th : Int)).toNat (rd A ((th + 1 : Nat) : Int)).toNat := ⟨by omega, hp.fu _ th (by omega), hp.dn th hthn', hp.fu _ (th + 1) (by omega), by rw [k1, k2]; omega⟩; have hall := ha.all _ _ pr; rw [k1, k2] at hall; exact ⟨ht, by omega, by omega⟩
 unfold lw_WoolThief.f
 refine Ev.bind hr ?_; simp only [if_neg (show ¬ (st.length : Int) = 0 by omega), wr (x := v0) (by omega), wr (x := v1) (by omega), wr (x := 1 + v1) (by omega), tm hv01, hth]; refine Ev.bind q1 ?_; refine Ev.bind u1 ?_; simp only [own_f st ws (by omega) (by omega), Option.bind_some, wool_Weights.f, wool_Missing.f, wool_Where.f, e7, e8, if_true, in_f' ⟨m3, m4⟩, if_neg (show ¬ m.lo < 0 by omega)]
 cases hh : honB (toSt st) (toWg ws)
 ·have n1 : ¬ m.lo = 0 := fun c => by rw [ms_zero hok m1 c] at hh; cases hh
  have hg1 : 1 ≤ g := by
   by_cases c : g = 0
   ·exact absurd (show m.lo = 0 by omega) n1
   ·omega
  obtain ⟨t1, t2⟩ := hthf hg1
  have hmem : (th : Int) ∈ whereL (toSt st) (toWg ws) := by
   unfold whereL
   exact List.mem_map.2 ⟨th, List.mem_filter.2 ⟨List.mem_range.2 hthn', t1⟩, rfl⟩
  have e1 : ohE (toSt st) (toWg ws) = 9 := by rw [ohE, if_pos hE, hh]; rfl
  have e2 : owE (toSt st) (toWg ws) = 0 := by
   rw [owE, if_pos hE, hh]; simp only [Bool.false_eq_true, if_false]; rw [if_neg (fun c => by rw [c] at hmem; cases hmem)]
  have e3 : owL (toSt st) (toWg ws) = whereL (toSt st) (toWg ws) := by rw [owL, if_pos e2]
  have hlen : (whereL (toSt st) (toWg ws)).length ≤ 1000 := by
   have := whereL_len (toSt st) (toWg ws); rw [toSt_len] at this; omega
  have b1 : (m.lo == 0) = false := beq_eq_false_iff_ne.2 n1; simp only [e1, e2, e3, b1, show ((9 : Int) == 0) = false from rfl, show ((0 : Int) == 6) = false from rfl, bne_self_eq_false, Bool.false_eq_true, if_false, if_neg (show ¬ (9 : Int) = 0 by omega), if_true]; refine Ev.up ?_; simp only [lw_WoolThief.j0, Bool.false_eq_true, if_false, if_neg (show ¬ g = 0 by omega), if_true]; refine Ev.bind (has_f _ hlen _) ?_; rw [decide_eq_true hmem]; refine Ev.up ?_; simp only [lw_WoolThief.j1, Bool.not_true, Bool.false_eq_true, if_false]; exact Th_l0 st ws hc th hthn g m m1 t1 t2 0 _ (fun _ => rfl) st.length 0 (by omega)
 ·have n1 : m.lo = 0 := by
   obtain ⟨m', w1, w2⟩ := hon_ms hok hh; rw [m1] at w1; obtain rfl := Option.some.inj w1; exact w2
  have e1 : ohE (toSt st) (toWg ws) = 0 := by rw [ohE, if_pos hE, hh]; rfl
  have e2 : owE (toSt st) (toWg ws) = 6 := by rw [owE, if_pos hE, hh]; rfl
  have e3 : owL (toSt st) (toWg ws) = [] := by rw [owL, e2, if_neg (by omega)]
  have b1 : (m.lo == 0) = true := beq_iff_eq.2 n1; simp only [e1, e2, e3, b1, show ((0 : Int) == 0) = true from rfl, show ((6 : Int) == 6) = true from rfl, bne_self_eq_false, Bool.false_eq_true, if_false, if_true, if_neg (show ¬ (6 : Int) = 0 by omega)]; refine Ev.up ?_; simp only [lw_WoolThief.j0, List.length_nil, show ((((0 : Nat) : Int)) != 0) = false from rfl, Bool.false_eq_true, if_false]
  by_cases hg0 : g = 0
  ·simp only [if_pos hg0, lw_known.f, Option.bind_some]
   exact Ev.now _
  ·simp only [if_neg hg0, if_neg (show ¬ (6 : Int) = 0 by omega)]
   obtain ⟨t1, t2⟩ := hthf (by omega); refine Ev.up ?_; simp only [lw_WoolThief.j1, Bool.false_eq_true, if_false]; exact Th_l0 st ws hc th hthn g m m1 t1 t2 6 _ (fun c => by omega) st.length 0 (by omega)
theorem WoolThief_pure (l0_0 : List (S76)) (a0_1 : Int) (l0_2 : List Int) (l0_3 : List (S136)) (a1_0 : Int) (a1_1 : Int) (w0 : (∀ x_ ∈ l0_0, ((Lit.int .u8 x_.f0).wf = true) ∧ ((Lit.int .u8 x_.f1).wf = true)) ∧ (((Lit.int .u16 a0_1).wf = true) ∧ ((∀ x_ ∈ l0_2, (Lit.int .u8 x_).wf = true) ∧ (∀ x_ ∈ l0_3, ((Lit.int .u8 x_.f0).wf = true) ∧ (((Lit.int .u8 x_.f1).wf = true) ∧ ((Lit.int .u8 x_.f2).wf = true)))))) (w1 : ((Lit.int .u8 a1_0).wf = true) ∧ ((Lit.int .u8 a1_1).wf = true)) : ∃ k, lw_WoolThief.f k l0_0 a0_1 l0_2 l0_3 a1_0 a1_1 = some true :=
 (WoolThief_ev l0_0 a0_1 l0_2 l0_3 a1_0 a1_1 (fun x h => ⟨ub_wf (w0.1 x h).1, ub_wf (w0.1 x h).2⟩) (u16_wf w0.2.1) (fun x h => ub_wf (w0.2.2.1 x h)) (fun x h => ⟨ub_wf (w0.2.2.2 x h).1, ub_wf (w0.2.2.2 x h).2.1, ub_wf (w0.2.2.2 x h).2.2⟩) (ub_wf w1.1) (ub_wf w1.2)).rounds
end Go.Proofs.YtemingmeidmjkaaDoor.Q
namespace Go.Proofs.YtemingmeidmjkaaDoor
open Go.RowKit Go.ChangeShapes Go.Shelf Go.Proofs.YtemingmeidmjkaaDoorW.PrintWords
set_option linter.unusedVariables false
set_option maxRecDepth 100000
theorem glNamed : Tryd.prog.globalNamed "walkmill/wool.all" = some 0 := by kernel_rfl
theorem glType : (Tryd.prog.globals[0]?).map (·.type) = some 100 := by kernel_rfl
theorem cells3 : Tryd.prog.cellsOf 3 = 1 := by kernel_rfl
theorem cellsSome : Tryd.prog.cellsOf 100 = 2 := by kernel_rfl
theorem gl_of_laid {W : World} (h : laidMetH Tryd.prog [("walkmill/wool.all", Rows.laid_walkmill_wool_all)] W) : GL W := by
 have h' : laidMet Tryd.prog [("walkmill/wool.all", Rows.laid_walkmill_wool_all)] W := h; clear h; have h := h'; obtain ⟨ps, ⟨g, t, cs, fuel, p, q, e1, e2, e3, e4, _, _⟩, _⟩ := h; obtain rfl := Option.some.inj (glNamed.symm.trans e1); obtain rfl := Option.some.inj (glType.symm.trans e2); obtain ⟨xs, n, _, hx, hl, hlen, hf⟩ := DataW.trod_struct Tryd.underlying100 e4
 have hcell := fun i => World.var?_cell glNamed e3 i
 have hl2 : cs.toList.length = 2 := by rw [hl]; exact cellsSome
 match xs, hlen with
 | [y0, y1], _ =>
  have f0 := hf 0 _ rfl; have f1 := hf 1 _ rfl; simp only [List.getElem?_cons_zero, List.getElem?_cons_succ] at f0 f1; obtain ⟨a, ha, rfl, _⟩ := DataW.trod_int Tryd.underlying3 f0; obtain ⟨b, hb, rfl, _⟩ := DataW.trod_int Tryd.underlying3 f1; simp only [List.map_cons, List.map_nil, Rows.laid_walkmill_wool_all, Prod.mk.injEq, DataW.agg.injEq, List.cons.injEq, DataW.lit.injEq, Lit.int.injEq, true_and, and_true] at hx; obtain ⟨⟨rfl, rfl⟩, _⟩ := hx
  have hcs : cs = #[.int .i64 0, .int .i64 400] := by
   apply Array.toList_inj.1
   match hc : cs.toList, hl2 with
   | [u, v], _ =>
    rw [hc] at ha hb
    simp [cells3] at ha hb
    rw [ha, hb]
  refine ⟨rfl, by decide, fun _ => ⟨_, rfl, fun j x hj => ?_⟩⟩
  match j, hj with
  | 0, hj =>
   simp only [List.getElem?_cons_zero, Option.some.injEq] at hj; subst hj; refine ⟨[.int .i64 0, .int .i64 400], rfl, kSp_mk _ ⟨0, 400⟩, fun i u hi => ?_⟩; have h9 := hcell i; rw [hcs] at h9; rw [add_plain]; simp only [Nat.zero_mul, Nat.zero_add] at *; rw [h9]
   simpa using hi
def lay0 (w : World) : World := { w with heap := w.heap.modify 0 fun o => match o with
  | .cells _ t frozen => .cells #[.int .i64 0, .int .i64 400] t frozen
  | o => o }
theorem lay0_met (os : Os) (args : Array Value) : laidMetH Tryd.prog [("walkmill/wool.all", Rows.laid_walkmill_wool_all)] ((lay0 (World.holding Tryd.prog os ⟨#[], #[], []⟩)).forCall (fun _ _ => 0) ⟨#[], args, []⟩).memory := by
 show laidMet Tryd.prog [("walkmill/wool.all", Rows.laid_walkmill_wool_all)] _
 exact laidMet_of_run' 8 sqF sqF
end Go.Proofs.YtemingmeidmjkaaDoor
