/- Functions printed by the kit's printer over these walks, and the plain law. No condition. -/
import Derived.Test.YtemingmeidmjkaaDoorX0
import Derived.Test.YtemingmeidmjkaaDoorGWoolSpoilt0
import Derived.Test.YtemingmeidmjkaaDoorGWoolSpoilt1
import Derived.WalkKit
import Derived.ProofKit
import Derived.OpenShut
import Derived.ShutString
import Derived.ChangeOld
import Derived.Below
import Derived.SizedLaws
import Derived.ChangeArms
import Derived.WideShapes
import Derived.Carry
import Derived.Test.YtemingmeidmjkaaDoorX2
import Derived.Test.YtemingmeidmjkaaDoorX3
import Derived.Test.YtemingmeidmjkaaDoorX1
import Derived.Test.YtemingmeidmjkaaDoorProg
import Derived.Deep.Draws
import Derived.Deep.AppendLies
import Derived.Maps.AppendAt
import Derived.OwnWalk
import Derived.Laws.BytesArg
import Derived.Laws.MakeOwn
import Derived.Laws.OwnMore
import Derived.Deep.OwnRows
import Derived.Tactics
import Derived.Lib.ConvBytes
import Derived.Laws.Slices
import Derived.KernelRfl
import Derived.RowKit3
import Derived.Deep.LoopGhost
import Derived.Deep.QuietTactic
import Derived.BigQuiet
import Derived.WideLaws
import Derived.Deep.DeepCutAuto
import Derived.Deep.CutBlock
import Derived.Deep.RegionHeld3
import Derived.Laws.Rows
import Derived.Lib.AppendStr
import Derived.ArgAppend
import Derived.Laws.IdiomCopy
import Derived.OrdersHeld
import Derived.Laws.BitsLemmas
import Derived.RowKit
import Derived.Laws.Bits128
import Derived.Test.YtemingmeidmjkaaDoorRows
import Derived.LaidLaws
import Derived.LaidHandle
import Derived.Handed
import Derived.ChangeSame
set_option linter.unusedVariables false
set_option linter.unusedSimpArgs false
namespace Go.Proofs.YtemingmeidmjkaaDoor.Q
open Go.RowKit Go.Proofs.YtemingmeidmjkaaDoorW.PrintWords Go.Proofs.YtemingmeidmjkaaDoorW.PrintLast Go.Proofs.YtemingmeidmjkaaDoorW.PrintMore
attribute [local go_sem] max2_int min2_int max_two min_two max_three min_three max_four min_four   -- for this text's walks alone
set_option linter.unusedVariables false
set_option linter.unusedSimpArgs false
mutual
def lw_WoolSpoilt.l0 : Nat → List Int → Int → Int → List (S41) → List (S80) → Option (Bool)
 | 0, _, _, _, _, _ => none
 | k + 1, x6, x9, x10, x982000, x982001 => if x10 < (x982001.length : Int) then (if 0 ≤ x10 then (if 0 ≤ ((rd_T80 x982001 x10).f0) then (if ((rd_T80 x982001 x10).f0) < (x6.length : Int) then (if (mx (wrap64 ((rd x6 ((rd_T80 x982001 x10).f0)) - ((rd_T80 x982001 x10).f1))) (wrap64 (-(wrap64 ((rd x6 ((rd_T80 x982001 x10).f0)) - ((rd_T80 x982001 x10).f1)))))) > ((rd_T80 x982001 x10).f2) then (lw_WoolSpoilt.l0 k x6 (wrap64 (x9 + 1)) (wrap64 (x10 + 1)) x982000 x982001) else (lw_WoolSpoilt.l0 k x6 x9 (wrap64 (x10 + 1)) x982000 x982001)) else (none)) else (none)) else (none)) else ((lw_own.f x982000 x982001).bind fun bt998 => ((wool_Wrong.f bt998.1 bt998.2).bind fun bt1004 => ((lw_own.f x982000 x982001).bind fun bt1008 => ((wool_Weights.f bt1008.1 bt1008.2).bind fun bt1014 => (if bt1004.2 = 0 then (if ((bt1004.2 == 6) != (bt1014.2 == 0)) = true then (none) else (if (bt1004.1.length : Int) > x9 then (none) else (lw_WoolSpoilt.j1 k bt1004.1 bt1004.2 ((bt1004.1.length : Int) == 0) x982000 x982001))) else (if bt1004.2 = 6 then (if (bt1004.1.length : Int) = 0 then (if ((bt1004.2 == 6) != (bt1014.2 == 0)) = true then (none) else (if (bt1004.1.length : Int) > x9 then (none) else (lw_WoolSpoilt.j1 k bt1004.1 bt1004.2 false x982000 x982001))) else (none)) else (none)))))))
def lw_WoolSpoilt.j1 : Nat → List Int → Int → Bool → List (S41) → List (S80) → Option (Bool)
 | 0, _, _, _, _, _ => none
 | k + 1, x13, x14, x112, x982000, x982001 => if x112 = true then (none) else (lw_WoolSpoilt.l1 k x13 x14 (-1) x982000 x982001)
def lw_WoolSpoilt.l1 : Nat → List Int → Int → Int → List (S41) → List (S80) → Option (Bool)
 | 0, _, _, _, _, _ => none
 | k + 1, x13, x14, x17, x982000, x982001 => if x17 < (x13.length : Int) then (lw_WoolSpoilt.j3 k x13 x14 x17 (x14 == 0) x982000 x982001) else (lw_WoolSpoilt.j3 k x13 x14 x17 false x982000 x982001)
def lw_WoolSpoilt.j3 : Nat → List Int → Int → Int → Bool → List (S41) → List (S80) → Option (Bool)
 | 0, _, _, _, _, _, _ => none
 | k + 1, x13, x14, x17, x120, x982000, x982001 => if x120 = true then ((some (([] : List (S41)) : List (S41))).bind fun y1018 => (if y1018.length + x982000.length < 8796093022208 then (lw_WoolSpoilt.l2 k x13 x14 x17 0 x982000 x982001 (y1018 ++ x982000) ([] : List (S80))) else (none))) else (lw_WoolSpoilt.l4 k x13 0 x982000 x982001)
def lw_WoolSpoilt.l2 : Nat → List Int → Int → Int → Int → List (S41) → List (S80) → List (S41) → List (S80) → Option (Bool)
 | 0, _, _, _, _, _, _, _, _ => none
 | k + 1, x13, x14, x17, x19, x982000, x982001, x1025000, x1025001 => if x19 < (x982001.length : Int) then (lw_WoolSpoilt.l3 k x13 x14 x17 x19 false 0 x982000 x982001 x1025000 x1025001) else ((wool_Weights.f x1025000 x1025001).bind fun bt1025 => (if ((bt1025.2 == 0) != (decide (x17 < 0))) = true then (none) else (lw_WoolSpoilt.l1 k x13 x14 (wrap64 (x17 + 1)) x982000 x982001)))
def lw_WoolSpoilt.l3 : Nat → List Int → Int → Int → Int → Bool → Int → List (S41) → List (S80) → List (S41) → List (S80) → Option (Bool)
 | 0, _, _, _, _, _, _, _, _, _, _ => none
 | k + 1, x13, x14, x17, x19, x20, x21, x982000, x982001, x1025000, x1025001 => if x21 < (x13.length : Int) then (if x20 = true then (lw_WoolSpoilt.l3 k x13 x14 x17 x19 true (wrap64 (x21 + 1)) x982000 x982001 x1025000 x1025001) else (if 0 ≤ x21 then (if (rd x13 x21) = x19 then (lw_WoolSpoilt.l3 k x13 x14 x17 x19 (x21 != x17) (wrap64 (x21 + 1)) x982000 x982001 x1025000 x1025001) else (lw_WoolSpoilt.l3 k x13 x14 x17 x19 false (wrap64 (x21 + 1)) x982000 x982001 x1025000 x1025001)) else (none))) else (if x20 = true then (lw_WoolSpoilt.l2 k x13 x14 x17 (wrap64 (x19 + 1)) x982000 x982001 x1025000 x1025001) else (if 0 ≤ x19 then (if x19 < (x982001.length : Int) then (if x1025001.length < 5864062014805 then (lw_WoolSpoilt.l2 k x13 x14 x17 (wrap64 (x19 + 1)) x982000 x982001 x1025000 (x1025001 ++ [(⟨(rd_T80 x982001 x19).f0, (rd_T80 x982001 x19).f1, (rd_T80 x982001 x19).f2⟩ : S80)])) else (none)) else (none)) else (none)))
def lw_WoolSpoilt.l4 : Nat → List Int → Int → List (S41) → List (S80) → Option (Bool)
 | 0, _, _, _, _ => none
 | k + 1, x13, x24, x982000, x982001 => if x24 < (x13.length : Int) then (if 0 ≤ x24 then (if (rd x13 x24) < 0 then (none) else (if (rd x13 x24) ≥ (x982001.length : Int) then (none) else (if x24 > 0 then (if 0 ≤ (wrap64 (x24 - 1)) then (if (wrap64 (x24 - 1)) < (x13.length : Int) then (if (rd x13 x24) ≤ (rd x13 (wrap64 (x24 - 1))) then (none) else (lw_WoolSpoilt.l4 k x13 (wrap64 (x24 + 1)) x982000 x982001)) else (none)) else (none)) else (lw_WoolSpoilt.l4 k x13 (wrap64 (x24 + 1)) x982000 x982001)))) else (none)) else ((lw_known.f).bind fun t1038 => (some t1038))
end
def lw_WoolSpoilt.f (k : Nat) (l0_0 : List (S76)) (a0_1 : Int) (l0_2 : List Int) (l0_3 : List (S136)) (l1 : List Int) : Option (Bool) := (lw_Cart_road.f k l0_0 a0_1 l0_2 l0_3).bind fun bt975 => ((lw_Cart_lived.f k l0_0 a0_1 l0_2 l0_3 bt975.1 bt975.2 (-1) 0).bind fun bt982 => ((lw_Cart_weighed.f k l0_0 a0_1 l0_2 l0_3 bt975.1 bt975.2 bt982.1 l1).bind fun bt989 => (lw_WoolSpoilt.l0 k bt982.1 0 0 bt989.1 bt989.2)))
def lw_WoolSpoilt.T9 : Bool × List (List Nat × List Nat) := (true, [([], []), ([], []), ([1], [1]), ([0, 2], [0, 2]), ([3], [3]), ([], []), ([5], [5]), ([4, 6], [4, 6]), ([7, 0, 1, 2, 3, 4, 5, 6, 7], [7])])
def lw_WoolSpoilt.B9 : List Nat := [0, 0, 2, 7, 15, 0, 32, 127, 255]
theorem lw_WoolSpoilt.tab9 : rtab .any (opsOf Tryd.f13 9) = lw_WoolSpoilt.T9 := by kernel_rfl
theorem lw_WoolSpoilt.bits9 : waitsOk lw_WoolSpoilt.T9.2 lw_WoolSpoilt.B9 = true := by kernel_rfl
def lw_WoolSpoilt.T29 : Bool × List (List Nat × List Nat) := (true, [([], []), ([0], [0]), ([], []), ([2], [2]), ([], []), ([3, 4], [3, 4]), ([5], [5]), ([6], [6]), ([1, 7], [1, 7]), ([0, 1, 2, 3, 4, 5, 6, 7, 8], []), ([9, 8, 8, 0, 1, 2, 3, 4, 5, 6, 7, 8], [8, 9])])
def lw_WoolSpoilt.B29 : List Nat := [0, 1, 0, 4, 0, 28, 60, 124, 255, 511, 1023]
theorem lw_WoolSpoilt.tab29 : rtab .any (opsOf Tryd.f13 29) = lw_WoolSpoilt.T29 := by kernel_rfl
theorem lw_WoolSpoilt.bits29 : waitsOk lw_WoolSpoilt.T29.2 lw_WoolSpoilt.B29 = true := by kernel_rfl
def lw_WoolSpoilt.T36 : Bool × List (List Nat × List Nat) := (true, [([], []), ([], []), ([0, 1], [0, 1]), ([2], [2]), ([3], [3]), ([4], [4]), ([5], [5]), ([5], [5]), ([6, 7, 5], [5, 6, 7]), ([8, 5], [5, 8]), ([5], [5]), ([10, 5], [5, 10]), ([11, 5], [5, 11]), ([9, 12, 5], [5, 9, 12]), ([5, 13], [5, 13]), ([14, 5], [14]), ([15], [15]), ([16, 15], [15, 16]), ([17, 15, 15], [15, 17]), ([18], [18]), ([18], [18]), ([19, 20, 18], [18, 19, 20]), ([21, 18], [18, 21]), ([18], [18]), ([18], [18]), ([24, 18], [18, 24]), ([23, 25, 18], [18, 23, 25]), ([26, 18], [18, 26]), ([22, 27, 18], [18, 22, 27]), ([18, 28, 15], [15, 18, 28]), ([15, 29], [15, 29])])
def lw_WoolSpoilt.B36 : List Nat := [0, 0, 3, 7, 15, 31, 63, 63, 255, 511, 63, 1087, 3135, 8191, 16383, 32767, 65535, 131071, 262143, 524287, 524287, 2097151, 4194303, 524287, 524287, 17301503, 59244543, 126353407, 268435455, 536870911, 1073741823]
theorem lw_WoolSpoilt.tab36 : rtab .any (opsOf Tryd.f13 36) = lw_WoolSpoilt.T36 := by kernel_rfl
theorem lw_WoolSpoilt.bits36 : waitsOk lw_WoolSpoilt.T36.2 lw_WoolSpoilt.B36 = true := by kernel_rfl
set_option maxHeartbeats 8000000 in
set_option maxRecDepth 100000 in
theorem lw_WoolSpoilt.calls (k : Nat) (A0_0 : Option Addr) (c0_0 : Nat) (l0_0 : List (S76)) (a0_1 : Int) (A0_2 : Option Addr) (c0_2 : Nat) (l0_2 : List Int) (A0_3 : Option Addr) (c0_3 : Nat) (l0_3 : List (S136)) (A1 : Option Addr) (c1 : Nat) (l1 : List Int) (r : Bool) (w : World) (hG : GL w) (hr0_0 : Kd.C k76 w A0_0 l0_0.length l0_0) (hc0_0 : l0_0.length ≤ c0_0) (hr0_2 : Kd.C (Kd.int .u8) w A0_2 l0_2.length l0_2) (hc0_2 : l0_2.length ≤ c0_2) (hr0_3 : Kd.C k136 w A0_3 l0_3.length l0_3) (hc0_3 : l0_3.length ≤ c0_3) (hr1 : Kd.C (Kd.int .u8) w A1 l1.length l1) (hc1 : l1.length ≤ c1) (h : lw_WoolSpoilt.f k l0_0 a0_1 l0_2 l0_3 l1 = some r) :
  Calls Tryd.prog 13 #[.agg #[.slice A0_0 l0_0.length c0_0, .int .u16 a0_1, .slice A0_2 l0_2.length c0_2, .slice A0_3 l0_3.length c0_3], .slice A1 l1.length c1] w fun e w' => e = .returned (.bool r) ∧ Below w.heap.size w w' := by
 have hu69 := Tryd.underlying69; have hu25 := Tryd.underlying25; have hu80 := Tryd.underlying80; have HR0_0 := Aside0.mk hr0_0; have HC0_0 := Aside0.mk hc0_0; clear hr0_0 hc0_0; have HR0_2 := Aside0.mk hr0_2; have HC0_2 := Aside0.mk hc0_2; clear hr0_2 hc0_2; have HR0_3 := Aside0.mk hr0_3; have HC0_3 := Aside0.mk hc0_3; clear hr0_3 hc0_3; have HR1 := Aside0.mk hr1; have HC1 := Aside0.mk hc1; clear hr1 hc1; have HB := Aside0.mk (Below.refl w.heap.size w); have HGL := Aside0.mk hG; clear hG; have H : ((lw_Cart_road.f k l0_0 a0_1 l0_2 l0_3).bind fun bt975 => ((lw_Cart_lived.f k l0_0 a0_1 l0_2 l0_3 bt975.1 bt975.2 (-1) 0).bind fun bt982 => ((lw_Cart_weighed.f k l0_0 a0_1 l0_2 l0_3 bt975.1 bt975.2 bt982.1 l1).bind fun bt989 => (lw_WoolSpoilt.l0 k bt982.1 0 0 bt989.1 bt989.2)))) = some r := h; clear h; obtain ⟨⟨t975, t978⟩, A30, H⟩ := Option.bind_eq_some_iff.mp H; replace H : ((lw_Cart_lived.f k l0_0 a0_1 l0_2 l0_3 t975 t978 (-1) 0).bind fun bt982 => ((lw_Cart_weighed.f k l0_0 a0_1 l0_2 l0_3 t975 t978 bt982.1 l1).bind fun bt989 => (lw_WoolSpoilt.l0 k bt982.1 0 0 bt989.1 bt989.2))) = some r := H; have A3 := Aside0.mk A30; clear A30; obtain ⟨⟨t982, t985, t988⟩, A40, H⟩ := Option.bind_eq_some_iff.mp H; replace H : ((lw_Cart_weighed.f k l0_0 a0_1 l0_2 l0_3 t975 t978 t982 l1).bind fun bt989 => (lw_WoolSpoilt.l0 k t982 0 0 bt989.1 bt989.2)) = some r := H; have A4 := Aside0.mk A40; clear A40; obtain ⟨⟨t989, t992⟩, A50, H⟩ := Option.bind_eq_some_iff.mp H; replace H : (lw_WoolSpoilt.l0 k t982 0 0 t989 t992) = some r := H; have A5 := Aside0.mk A50; clear A50; have H' := Aside0.mk H; clear H; go_enter Tryd.func13, Tryd.ntmps13
 go_wp2_with (first | ((with_reducible refine gate_dst (N := 2) rfl ?_); (try (refine gate_guard (by rfl) ?_; dsimp only)); refine box_event ?hg (N := 2) ?hd (cs := #[.slice A0_0 l0_0.length c0_0, .int .u16 a0_1, .slice A0_2 l0_2.length c0_2, .slice A0_3 l0_3.length c0_3]) (t := 69) ?hr ?_; (case hd => rfl); (case hg => rfl); (case hr => first | (go_simp; done) | (go_simp; rfl)); intro gb974 hg w6 hbox hb; have BK974 := Aside0.mk (hbox); have GW974 := Aside0.mk (sqZ hg HB); have GE974 := Aside0.mk (sqZ hg HB); replace HB := sqb hb HB; clear hb hbox hg; have hcz7_0 := sqc0 BK974; have hcz7_1 := sqc1 BK974; have hcz7_2 := sqc2 BK974; have hcz7_3 : w6.cell? ⟨gb974, 3, none⟩ = some (.slice A0_3 l0_3.length c0_3) := (blk_cell BK974.out 3).trans rfl; have hfz7_0 := blk_frozen BK974.out 0; have hfz7_1 := blk_frozen BK974.out 1; have hfz7_2 := blk_frozen BK974.out 2; have hfz7_3 := blk_frozen BK974.out 3) | ((with_reducible refine gate_callee (f := 45) rfl ?_); refine goesL_ (some 26) rfl rfl Tryd.func45 sqF rfl #[.agg #[.slice A0_0 l0_0.length c0_0, .int .u16 a0_1, .slice A0_2 l0_2.length c0_2, .slice A0_3 l0_3.length c0_3]] rfl sqM ?_; (with_reducible refine (lw_Cart_road.calls k _ _ l0_0 a0_1 _ _ l0_2 _ _ l0_3 t975 t978 _ ?side1 ?side2 ?side3 ?side4 ?side5 ?side6 A3.out).mono ?_); (case side1 => exact sqQ HR0_0 HB); (case side2 => exact HC0_0.out); (case side3 => exact sqQ HR0_2 HB); (case side4 => exact HC0_2.out); (case side5 => exact sqQ HR0_3 HB); (case side6 => exact HC0_3.out); rintro e w8 ⟨v976, v979, rfl, ho0, ho1, hb⟩; refine ⟨_, rfl, ?_⟩; have HO977 := Aside0.mk (Kd.R_lower ho0 (below_size (sqB HB))); have HO980 := Aside0.mk (Kd.R_lower ho1 (below_size (sqB HB))); replace BK974 := sqk BK974 hb; replace HB := sqb hb HB; (try clear hb); (try clear hb2); (try clear hk); (try clear hi); (try clear ho0); (try clear ho1)) | ((with_reducible refine gate_dst (N := 5) rfl ?_); (try (refine gate_guard (by rfl) ?_; dsimp only)); refine box_event ?hg (N := 5) ?hd (cs := #[.slice none 0 0, .slice none 0 0]) (t := 25) ?hr ?_; (case hd => rfl); (case hg => rfl); (case hr => first | (go_simp; done) | (go_simp; rfl)); intro gb981 hg w9 hbox hb; replace HO977 := Aside0.mk (Kd.R_below (sqR HO977) hb); replace HO980 := Aside0.mk (Kd.R_below (sqR HO980) hb); have BK981 := Aside0.mk (hbox); have GW981 := Aside0.mk (sqZ hg HB); have GE981 := Aside0.mk (sqZ hg HB); replace HB := sqb hb HB; have NB974_981 := Aside0.mk (sqL hg BK974); have NB981_974 := Aside0.mk (sqG hg BK974); replace BK974 := sqk BK974 hb; clear hb hbox hg; obtain ⟨Ao10, co10, eo10⟩ := Kd.R_slice HO977.out; subst eo10; have hnb11 := NB981_974.out; have hnc11 := NB974_981.out; have hcz12_0 := sqc0 BK981; have hcz12_1 := sqc1 BK981; have hfz12_0 := blk_frozen BK981.out 0; have hfz12_1 := blk_frozen BK981.out 1; obtain ⟨Ao13, co13, eo13⟩ := Kd.R_slice HO980.out; subst eo13; have hcz14_0 := sqc0 BK974; have hcz14_1 := sqc1 BK974; have hcz14_2 := sqc2 BK974; have hcz14_3 : w9.cell? ⟨gb974, 3, none⟩ = some (.slice A0_3 l0_3.length c0_3) := (blk_cell BK974.out 3).trans rfl; have hfz14_0 := blk_frozen BK974.out 0; have hfz14_1 := blk_frozen BK974.out 1; have hfz14_2 := blk_frozen BK974.out 2; have hfz14_3 := blk_frozen BK974.out 3) | ((with_reducible refine gate_callee (f := 46) rfl ?_); refine goesL_ (some 30) rfl rfl Tryd.func46 sqF rfl #[.agg #[.slice A0_0 l0_0.length c0_0, .int .u16 a0_1, .slice A0_2 l0_2.length c0_2, .slice A0_3 l0_3.length c0_3], .agg #[.slice Ao10 t975.length co10, .slice Ao13 t978.length co13], .int .i64 (-1), .int .i64 0] rfl sqM ?_; (with_reducible refine (lw_Cart_lived.calls k _ _ l0_0 a0_1 _ _ l0_2 _ _ l0_3 _ _ t975 _ _ t978 (-1) 0 t982 t985 t988 _ ?side1 ?side2 ?side3 ?side4 ?side5 ?side6 ?side7 ?side8 ?side9 ?side10 A4.out).mono ?_); (case side1 => exact Kd.C_below HR0_0.out (sqB HB)); (case side2 => exact HC0_0.out); (case side3 => exact Kd.C_below HR0_2.out (sqB HB)); (case side4 => exact HC0_2.out); (case side5 => exact Kd.C_below HR0_3.out (sqB HB)); (case side6 => exact HC0_3.out); (case side7 => refine (Kd.R_reads' (e := 41) (base := w.heap.size) (ok := fun k_ => True) (n := t975.length) (c := co10) ?_).2.2; exact (by (with_reducible repeat (first | apply Kd.R_alloc | apply Kd.R_drewN | apply Kd.R_drew)); exact (Kd.R_mono (Kd.R_far (p := ⟨gb981, 1, none⟩) (Kd.R_far (p := ⟨gb981, 0, none⟩) (Kd.R_types HO977.out BK981.out (by decide)) (fun _ hk => hk.2) (.slice Ao10 t975.length co10)) (fun _ hk => hk.2) (.slice Ao13 t978.length co13)) (fun _ h_ => h_.1)))); (case side8 => exact (Kd.R_reads' HO977.out).2.1); (case side9 => refine (Kd.R_reads' (e := 80) (base := w.heap.size) (ok := fun k_ => True) (n := t978.length) (c := co13) ?_).2.2; exact (by (with_reducible repeat (first | apply Kd.R_alloc | apply Kd.R_drewN | apply Kd.R_drew)); exact (Kd.R_mono (Kd.R_far (p := ⟨gb981, 1, none⟩) (Kd.R_far (p := ⟨gb981, 0, none⟩) (Kd.R_types HO980.out BK981.out (by decide)) (fun _ hk => hk.2) (.slice Ao10 t975.length co10)) (fun _ hk => hk.2) (.slice Ao13 t978.length co13)) (fun _ h_ => h_.1)))); (case side10 => exact (Kd.R_reads' HO980.out).2.1); rintro e w15 ⟨v983, v986, rfl, ho0, ho1, hb⟩; refine ⟨_, rfl, ?_⟩; replace HO977 := Aside0.mk (Kd.R_below (by (with_reducible repeat (first | apply Kd.R_alloc | apply Kd.R_drewN | apply Kd.R_drew)); exact (Kd.R_mono (Kd.R_far (p := ⟨gb981, 1, none⟩) (Kd.R_far (p := ⟨gb981, 0, none⟩) (Kd.R_types HO977.out BK981.out (by decide)) (fun _ hk => hk.2) (.slice Ao10 t975.length co10)) (fun _ hk => hk.2) (.slice Ao13 t978.length co13)) (fun _ h_ => h_.1))) hb); replace HO980 := Aside0.mk (Kd.R_below (by (with_reducible repeat (first | apply Kd.R_alloc | apply Kd.R_drewN | apply Kd.R_drew)); exact (Kd.R_mono (Kd.R_far (p := ⟨gb981, 1, none⟩) (Kd.R_far (p := ⟨gb981, 0, none⟩) (Kd.R_types HO980.out BK981.out (by decide)) (fun _ hk => hk.2) (.slice Ao10 t975.length co10)) (fun _ hk => hk.2) (.slice Ao13 t978.length co13)) (fun _ h_ => h_.1))) hb); have HO984 := Aside0.mk (Kd.R_lower ho0 (below_size (sqB HB))); have HO987 := Aside0.mk (Kd.R_lower ho1 (below_size (sqB HB))); replace BK974 := Aside0.mk (blk_below (g := gb974) (o := .cells #[.slice A0_0 l0_0.length c0_0, .int .u16 a0_1, .slice A0_2 l0_2.length c0_2, .slice A0_3 l0_3.length c0_3] 69 (0, 0)) sqX hb); replace BK981 := Aside0.mk (blk_below (g := gb981) (o := .cells #[.slice Ao10 t975.length co10, .slice Ao13 t978.length co13] 25 (0, 0)) (by (with_reducible repeat (first | refine blk_drewN ?_ _ | refine blk_drew ?_ | refine blk_alloc ?_ _)); refine blk_put (cs := #[.slice Ao10 t975.length co10, .slice none 0 0]) ?_ 1 _ rfl; (with_reducible repeat (first | refine blk_drewN ?_ _ | refine blk_drew ?_ | refine blk_alloc ?_ _)); refine blk_put (cs := #[.slice none 0 0, .slice none 0 0]) ?_ 0 _ rfl; (with_reducible repeat (first | refine blk_drewN ?_ _ | refine blk_drew ?_ | refine blk_alloc ?_ _)); exact BK981.out) hb); replace HB := sqb hb HB; (try clear hb); (try clear hb2); (try clear hk); (try clear hi); (try clear ho0); (try clear ho1); have hcz16_0 := sqc0 BK974; have hcz16_1 := sqc1 BK974; have hcz16_2 := sqc2 BK974; have hcz16_3 : w15.cell? ⟨gb974, 3, none⟩ = some (.slice A0_3 l0_3.length c0_3) := (blk_cell BK974.out 3).trans rfl; have hfz16_0 := blk_frozen BK974.out 0; have hfz16_1 := blk_frozen BK974.out 1; have hfz16_2 := blk_frozen BK974.out 2; have hfz16_3 := blk_frozen BK974.out 3; have hcz17_0 := sqc0 BK981; have hcz17_1 := sqc1 BK981; have hfz17_0 := blk_frozen BK981.out 0; have hfz17_1 := blk_frozen BK981.out 1; obtain ⟨Ao18, co18, eo18⟩ := Kd.R_slice HO984.out; subst eo18) | ((with_reducible refine gate_callee (f := 47) rfl ?_); refine goesL_ (some 38) rfl rfl Tryd.func47 sqF rfl #[.agg #[.slice A0_0 l0_0.length c0_0, .int .u16 a0_1, .slice A0_2 l0_2.length c0_2, .slice A0_3 l0_3.length c0_3], .agg #[.slice Ao10 t975.length co10, .slice Ao13 t978.length co13], .slice Ao18 t982.length co18, .slice A1 l1.length c1] rfl sqM ?_; (with_reducible refine (lw_Cart_weighed.calls k _ _ l0_0 a0_1 _ _ l0_2 _ _ l0_3 _ _ t975 _ _ t978 _ _ t982 _ _ l1 t989 t992 _ ?side1 ?side2 ?side3 ?side4 ?side5 ?side6 ?side7 ?side8 ?side9 ?side10 ?side11 ?side12 ?side13 ?side14 A5.out).mono ?_); (case side1 => exact sqQ HR0_0 HB); (case side2 => exact HC0_0.out); (case side3 => exact sqQ HR0_2 HB); (case side4 => exact HC0_2.out); (case side5 => exact sqQ HR0_3 HB); (case side6 => exact HC0_3.out); (case side7 => repeat (first | exact (Kd.R_reads' HO977.out).2.2 | (with_reducible refine Kd.C_alloc ?_ _) | (with_reducible refine Kd.C_drewN ?_ _) | (with_reducible refine Kd.C_drew ?_))); (case side8 => exact (Kd.R_reads' HO977.out).2.1); (case side9 => repeat (first | exact (Kd.R_reads' HO980.out).2.2 | (with_reducible refine Kd.C_alloc ?_ _) | (with_reducible refine Kd.C_drewN ?_ _) | (with_reducible refine Kd.C_drew ?_))); (case side10 => exact (Kd.R_reads' HO980.out).2.1); (case side11 => repeat (first | exact (Kd.R_reads' HO984.out).2.2 | (with_reducible refine Kd.C_alloc ?_ _) | (with_reducible refine Kd.C_drewN ?_ _) | (with_reducible refine Kd.C_drew ?_))); (case side12 => exact (Kd.R_reads' HO984.out).2.1); (case side13 => exact sqQ HR1 HB); (case side14 => exact HC1.out); rintro e w19 ⟨v990, v993, rfl, ho0, ho1, hb⟩; refine ⟨_, rfl, ?_⟩; replace HO984 := Aside0.mk (Kd.R_below (sqR HO984) hb); replace HO987 := Aside0.mk (Kd.R_below (sqR HO987) hb); have HO991 := Aside0.mk (Kd.R_lower (Kd.R_new' ho0 (Kd.R_lt (sqR HO977))) (below_size (sqB HB))); replace HO977 := Aside0.mk (Kd.R_elder' (sqR HO977) (Kd.R_base ho0) hb); have HO994 := Aside0.mk (Kd.R_lower (Kd.R_new' ho1 (Kd.R_lt (sqR HO980))) (below_size (sqB HB))); replace HO980 := Aside0.mk (Kd.R_elder' (sqR HO980) (Kd.R_base ho1) hb); replace BK974 := sqk BK974 hb; replace BK981 := sqk BK981 hb; replace HB := sqb hb HB; (try clear hb); (try clear hb2); (try clear hk); (try clear hi); (try clear ho0); (try clear ho1); obtain ⟨Ao20, co20, eo20⟩ := Kd.R_slice HO991.out; subst eo20; have hcz21_0 := sqc0 BK981; have hcz21_1 := sqc1 BK981; have hfz21_0 := blk_frozen BK981.out 0; have hfz21_1 := blk_frozen BK981.out 1; obtain ⟨Ao22, co22, eo22⟩ := Kd.R_slice HO994.out; subst eo22))
 go_loopg [9, 10] k (fun kq v9 v10 w' => ∃ (x9_1 : Int) (x10_1 : Int), v9 = .int .i64 x9_1 ∧ v10 = .int .i64 x10_1 ∧ Aside0 (lw_WoolSpoilt.l0 kq t982 x9_1 x10_1 t989 t992 = some r) ∧ Aside0 (kq ≤ k) ∧ Aside0 (Kd.R (Kd.int .i64) 3 w' w.heap.size (fun _ => True) (.slice Ao18 t982.length co18) t982) ∧ Aside0 (Kd.R k41 41 w' w.heap.size (fun _ => True) (.slice Ao20 t989.length co20) t989) ∧ Aside0 (Kd.R k80 80 w' w.heap.size (fun _ => True) (.slice Ao22 t992.length co22) t992) ∧ Aside0 (w'.heap[gb974]? = some (.cells #[(.slice A0_0 l0_0.length c0_0), .int .u16 a0_1, (.slice A0_2 l0_2.length c0_2), (.slice A0_3 l0_3.length c0_3)] 69 (0, 0))) ∧ Aside0 (w'.heap[gb981]? = some (.cells #[(.slice Ao20 t989.length co20), (.slice Ao22 t992.length co22)] 25 (0, 0))) ∧ Aside0 (Below w.heap.size w w'))
 case atStart => exact ⟨(0), (0), sqE, sqE, H', ⟨Nat.le_refl _⟩, ⟨by (with_reducible repeat (first | apply Kd.R_alloc | apply Kd.R_drewN | apply Kd.R_drew)); exact Kd.R_mono (Kd.R_far (p := ⟨gb981, 1, none⟩) (Kd.R_far (p := ⟨gb981, 0, none⟩) (Kd.R_types HO984.out BK981.out (by decide)) (fun _ hk => hk.2) (.slice Ao20 t989.length co20)) (fun _ hk => hk.2) (.slice Ao22 t992.length co22)) (fun _ hk => trivial)⟩, ⟨by (with_reducible repeat (first | apply Kd.R_alloc | apply Kd.R_drewN | apply Kd.R_drew)); exact Kd.R_mono (Kd.R_far (p := ⟨gb981, 1, none⟩) (Kd.R_far (p := ⟨gb981, 0, none⟩) (Kd.R_types HO991.out BK981.out (by decide)) (fun _ hk => hk.2) (.slice Ao20 t989.length co20)) (fun _ hk => hk.2) (.slice Ao22 t992.length co22)) (fun _ hk => trivial)⟩, ⟨by (with_reducible repeat (first | apply Kd.R_alloc | apply Kd.R_drewN | apply Kd.R_drew)); exact Kd.R_mono (Kd.R_far (p := ⟨gb981, 1, none⟩) (Kd.R_far (p := ⟨gb981, 0, none⟩) (Kd.R_types HO994.out BK981.out (by decide)) (fun _ hk => hk.2) (.slice Ao20 t989.length co20)) (fun _ hk => hk.2) (.slice Ao22 t992.length co22)) (fun _ hk => trivial)⟩, ⟨sqX⟩, ⟨by (with_reducible repeat (first | refine blk_drewN ?_ _ | refine blk_drew ?_ | refine blk_alloc ?_ _)); refine blk_put (cs := #[.slice Ao20 t989.length co20, .slice Ao13 t978.length co13]) ?_ 1 _ rfl; (with_reducible repeat (first | refine blk_drewN ?_ _ | refine blk_drew ?_ | refine blk_alloc ?_ _)); refine blk_put (cs := #[.slice Ao10 t975.length co10, .slice Ao13 t978.length co13]) ?_ 0 _ rfl; (with_reducible repeat (first | refine blk_drewN ?_ _ | refine blk_drew ?_ | refine blk_alloc ?_ _)); exact BK981.out⟩, ⟨sqB HB⟩⟩
 case round =>
  clear H'; try clear c1
  (try clear hcz12_0); (try clear hcz12_1); (try clear hcz14_0); (try clear hcz14_1); (try clear hcz14_2); (try clear hcz14_3); (try clear hcz16_0); (try clear hcz16_1); (try clear hcz16_2); (try clear hcz16_3); (try clear hcz17_0); (try clear hcz17_1); (try clear hcz21_0); (try clear hcz21_1); (try clear hcz7_0); (try clear hcz7_1); (try clear hcz7_2); (try clear hcz7_3); (try clear hfz12_0); (try clear hfz12_1); (try clear hfz14_0); (try clear hfz14_1); (try clear hfz14_2); (try clear hfz14_3); (try clear hfz16_0); (try clear hfz16_1); (try clear hfz16_2); (try clear hfz16_3); (try clear hfz17_0); (try clear hfz17_1); (try clear hfz21_0); (try clear hfz21_1); (try clear hfz7_0); (try clear hfz7_1); (try clear hfz7_2); (try clear hfz7_3); obtain ⟨x9_1, x10_1, rfl, rfl, HA, HK1, HO_6, HO_982000, HO_982001, BK974, BK981, HB⟩ := hrel
  cases gk with
  | zero => exact absurd HA.out (by simp [lw_WoolSpoilt.l0])
  | succ k1 =>
   have H := HA.out; clear HA; simp only [lw_WoolSpoilt.l0] at H
   by_cases c23 : x10_1 < (t992.length : Int)
   ·rw [if_pos c23] at H
    have c23b0 : decide (x10_1 < (t992.length : Int)) = true := decide_eq_true c23; clear c23
    by_cases c24 : 0 ≤ x10_1
    ·rw [if_pos c24] at H
     have c24b0 : decide (0 ≤ x10_1) = true := decide_eq_true c24; clear c24
     by_cases c25 : 0 ≤ ((rd_T80 t992 x10_1).f0)
     ·rw [if_pos c25] at H
      have c25b0 : decide (0 ≤ ((rd_T80 t992 x10_1).f0)) = true := decide_eq_true c25; clear c25
      by_cases c26 : ((rd_T80 t992 x10_1).f0) < (t982.length : Int)
      ·rw [if_pos c26] at H
       have c26b0 : decide (((rd_T80 t992 x10_1).f0) < (t982.length : Int)) = true := decide_eq_true c26; clear c26; obtain ⟨ji27, hji27⟩ : ∃ j_ : Int, (mx (wrap64 ((rd t982 ((rd_T80 t992 x10_1).f0)) - ((rd_T80 t992 x10_1).f1))) (wrap64 (-(wrap64 ((rd t982 ((rd_T80 t992 x10_1).f0)) - ((rd_T80 t992 x10_1).f1)))))) = j_ := ⟨_, rfl⟩
       replace H : (if (ji27) > ((rd_T80 t992 x10_1).f2) then (lw_WoolSpoilt.l0 k1 t982 (wrap64 (x9_1 + 1)) (wrap64 (x10_1 + 1)) t989 t992) else (lw_WoolSpoilt.l0 k1 t982 x9_1 (wrap64 (x10_1 + 1)) t989 t992)) = some r := by first | (rw [hji27] at H; exact H) | (simp only [hji27] at H ⊢; exact H)
       have hji27_ : (if (wrap64 ((rd t982 ((rd_T80 t992 x10_1).f0)) - ((rd_T80 t992 x10_1).f1))) < (wrap64 (-(wrap64 ((rd t982 ((rd_T80 t992 x10_1).f0)) - ((rd_T80 t992 x10_1).f1))))) then (wrap64 (-(wrap64 ((rd t982 ((rd_T80 t992 x10_1).f0)) - ((rd_T80 t992 x10_1).f1))))) else (wrap64 ((rd t982 ((rd_T80 t992 x10_1).f0)) - ((rd_T80 t992 x10_1).f1)))) = ji27 := hji27
       by_cases c28 : (ji27) > ((rd_T80 t992 x10_1).f2)
       ·rw [if_pos c28] at H
        have c28b0 : decide (((rd_T80 t992 x10_1).f2) < (ji27)) = true := decide_eq_true c28; clear c28; have H' := Aside0.mk H; clear H; have hnb29 := NB981_974.out; have hnc29 := NB974_981.out; have hcz30_0 := sqc0 BK981; have hcz30_1 := sqc1 BK981; have hfz30_0 := blk_frozen BK981.out 0; have hfz30_1 := blk_frozen BK981.out 1; have p995 : 0 ≤ (x10_1 : Int) := sqD; have q995 : x10_1 < (t992.length : Int) := sqD; obtain ⟨ad995, e995, hx995_0, hx995_1, hx995_2⟩ := at_T80 (Kd.R_reads' HO_982001.out).2.2 x10_1 p995 q995
        cases e995
        replace p995 := eq_true p995; replace q995 := eq_true q995
        try go_wp2_with (first | ((with_reducible refine gate_dst (N := 11) rfl ?_); (try (refine gate_guard (by rfl) ?_; dsimp only)); refine box_event ?hg (N := 11) ?hd (cs := #[.int .i64 0, .int .i64 0, .int .i64 0]) (t := 80) ?hr ?_; (case hd => rfl); (case hg => rfl); (case hr => first | (go_simp; done) | (go_simp; rfl)); intro gb996 hg w31 hbox hb; replace HO_6 := Aside0.mk (Kd.R_below (sqR HO_6) hb); replace HO_982000 := Aside0.mk (Kd.R_below (sqR HO_982000) hb); replace HO_982001 := Aside0.mk (Kd.R_below (Kd.R_elderB (sqR HO_982001) gb996 (Nat.le_of_eq hg.symm)) hb); have BK996 := Aside0.mk (hbox); have GW996 := Aside0.mk (sqZ hg HB); have GE996 := Aside0.mk (sqZ hg HB); replace HB := sqb hb HB; have NB974_996 := Aside0.mk (sqL hg BK974); have NB996_974 := Aside0.mk (sqG hg BK974); replace BK974 := sqk BK974 hb; have NB981_996 := Aside0.mk (sqL hg BK981); have NB996_981 := Aside0.mk (sqG hg BK981); replace BK981 := sqk BK981 hb; clear hb hbox hg; have hnb32 := NB996_974.out; have hnc32 := NB974_996.out; have hnb33 := NB996_981.out; have hnc33 := NB981_996.out; have hcz34_0 := sqc0 BK996; have hcz34_1 := sqc1 BK996; have hcz34_2 := sqc2 BK996; have hfz34_0 := blk_frozen BK996.out 0; have hfz34_1 := blk_frozen BK996.out 1; have hfz34_2 := blk_frozen BK996.out 2))
        have n0_ : Aside0 (Kd.R (Kd.int .i64) 3 (((w31.setCell ⟨gb996, 0, none⟩ (.int .i64 ((rd_T80 t992 x10_1).f0))).setCell ⟨gb996, 1, none⟩ (.int .i64 ((rd_T80 t992 x10_1).f1))).setCell ⟨gb996, 2, none⟩ (.int .i64 ((rd_T80 t992 x10_1).f2))) w.heap.size (fun _ => True) (.slice Ao18 t982.length co18) t982) := ⟨by (with_reducible repeat (first | apply Kd.R_alloc | apply Kd.R_drewN | apply Kd.R_drew)); exact Kd.R_mono (Kd.R_far (p := ⟨gb996, 2, none⟩) (Kd.R_far (p := ⟨gb996, 1, none⟩) (Kd.R_far (p := ⟨gb996, 0, none⟩) (Kd.R_types HO_6.out BK996.out (by decide)) (fun _ hk => hk.2) (.int .i64 ((rd_T80 t992 x10_1).f0))) (fun _ hk => hk.2) (.int .i64 ((rd_T80 t992 x10_1).f1))) (fun _ hk => hk.2) (.int .i64 ((rd_T80 t992 x10_1).f2))) (fun _ hk => trivial)⟩; have n1_ : Aside0 (Kd.R k41 41 (((w31.setCell ⟨gb996, 0, none⟩ (.int .i64 ((rd_T80 t992 x10_1).f0))).setCell ⟨gb996, 1, none⟩ (.int .i64 ((rd_T80 t992 x10_1).f1))).setCell ⟨gb996, 2, none⟩ (.int .i64 ((rd_T80 t992 x10_1).f2))) w.heap.size (fun _ => True) (.slice Ao20 t989.length co20) t989) := ⟨by (with_reducible repeat (first | apply Kd.R_alloc | apply Kd.R_drewN | apply Kd.R_drew)); exact Kd.R_mono (Kd.R_far (p := ⟨gb996, 2, none⟩) (Kd.R_far (p := ⟨gb996, 1, none⟩) (Kd.R_far (p := ⟨gb996, 0, none⟩) (Kd.R_types HO_982000.out BK996.out (by decide)) (fun _ hk => hk.2) (.int .i64 ((rd_T80 t992 x10_1).f0))) (fun _ hk => hk.2) (.int .i64 ((rd_T80 t992 x10_1).f1))) (fun _ hk => hk.2) (.int .i64 ((rd_T80 t992 x10_1).f2))) (fun _ hk => trivial)⟩; have n2_ : Aside0 (Kd.R k80 80 (((w31.setCell ⟨gb996, 0, none⟩ (.int .i64 ((rd_T80 t992 x10_1).f0))).setCell ⟨gb996, 1, none⟩ (.int .i64 ((rd_T80 t992 x10_1).f1))).setCell ⟨gb996, 2, none⟩ (.int .i64 ((rd_T80 t992 x10_1).f2))) w.heap.size (fun k_ => k_ ≠ gb996) (.slice (some ad995) t992.length co22) t992) := ⟨by (with_reducible repeat (first | apply Kd.R_alloc | apply Kd.R_drewN | apply Kd.R_drew)); exact Kd.R_mono (Kd.R_far (p := ⟨gb996, 2, none⟩) (Kd.R_far (p := ⟨gb996, 1, none⟩) (Kd.R_far (p := ⟨gb996, 0, none⟩) (Kd.R_mono HO_982001.out (fun k_ hk => (⟨hk, hk.2⟩ : _ ∧ k_ ≠ gb996))) (fun _ hk => hk.2) (.int .i64 ((rd_T80 t992 x10_1).f0))) (fun _ hk => hk.2) (.int .i64 ((rd_T80 t992 x10_1).f1))) (fun _ hk => hk.2) (.int .i64 ((rd_T80 t992 x10_1).f2))) (fun _ hk => hk.1.2)⟩; have n3_ : Aside0 ((((w31.setCell ⟨gb996, 0, none⟩ (.int .i64 ((rd_T80 t992 x10_1).f0))).setCell ⟨gb996, 1, none⟩ (.int .i64 ((rd_T80 t992 x10_1).f1))).setCell ⟨gb996, 2, none⟩ (.int .i64 ((rd_T80 t992 x10_1).f2))).heap[gb974]? = some (.cells #[.slice A0_0 l0_0.length c0_0, .int .u16 a0_1, .slice A0_2 l0_2.length c0_2, .slice A0_3 l0_3.length c0_3] 69 (0, 0))) := ⟨sqX⟩; have n4_ : Aside0 ((((w31.setCell ⟨gb996, 0, none⟩ (.int .i64 ((rd_T80 t992 x10_1).f0))).setCell ⟨gb996, 1, none⟩ (.int .i64 ((rd_T80 t992 x10_1).f1))).setCell ⟨gb996, 2, none⟩ (.int .i64 ((rd_T80 t992 x10_1).f2))).heap[gb981]? = some (.cells #[.slice Ao20 t989.length co20, .slice (some ad995) t992.length co22] 25 (0, 0))) := ⟨sqX⟩
        have n5_ : Aside0 ((((w31.setCell ⟨gb996, 0, none⟩ (.int .i64 ((rd_T80 t992 x10_1).f0))).setCell ⟨gb996, 1, none⟩ (.int .i64 ((rd_T80 t992 x10_1).f1))).setCell ⟨gb996, 2, none⟩ (.int .i64 ((rd_T80 t992 x10_1).f2))).heap[gb996]? = some (.cells #[.int .i64 ((rd_T80 t992 x10_1).f0), .int .i64 ((rd_T80 t992 x10_1).f1), .int .i64 ((rd_T80 t992 x10_1).f2)] 80 (0, 0))) := ⟨by (with_reducible repeat (first | refine blk_drewN ?_ _ | refine blk_drew ?_ | refine blk_alloc ?_ _)); refine blk_put (cs := #[.int .i64 ((rd_T80 t992 x10_1).f0), .int .i64 ((rd_T80 t992 x10_1).f1), .int .i64 0]) ?_ 2 _ rfl; (with_reducible repeat (first | refine blk_drewN ?_ _ | refine blk_drew ?_ | refine blk_alloc ?_ _)); refine blk_put (cs := #[.int .i64 ((rd_T80 t992 x10_1).f0), .int .i64 0, .int .i64 0]) ?_ 1 _ rfl; (with_reducible repeat (first | refine blk_drewN ?_ _ | refine blk_drew ?_ | refine blk_alloc ?_ _)); refine blk_put (cs := #[.int .i64 0, .int .i64 0, .int .i64 0]) ?_ 0 _ rfl; (with_reducible repeat (first | refine blk_drewN ?_ _ | refine blk_drew ?_ | refine blk_alloc ?_ _)); exact BK996.out⟩; have n6_ : Aside0 (Below w.heap.size w (((w31.setCell ⟨gb996, 0, none⟩ (.int .i64 ((rd_T80 t992 x10_1).f0))).setCell ⟨gb996, 1, none⟩ (.int .i64 ((rd_T80 t992 x10_1).f1))).setCell ⟨gb996, 2, none⟩ (.int .i64 ((rd_T80 t992 x10_1).f2)))) := ⟨sqB HB⟩; (try clear HO_6); (try clear HO_982000); (try clear HO_982001); (try clear BK974); (try clear BK981); (try clear BK996); (try clear HB)
        generalize (((w31.setCell ⟨gb996, 0, none⟩ (.int .i64 ((rd_T80 t992 x10_1).f0))).setCell ⟨gb996, 1, none⟩ (.int .i64 ((rd_T80 t992 x10_1).f1))).setCell ⟨gb996, 2, none⟩ (.int .i64 ((rd_T80 t992 x10_1).f2))) = w35 at n0_ n1_ n2_ n3_ n4_ n5_ n6_ ⊢
        have HO_6 := n0_; have HO_982000 := n1_; have HO_982001 := n2_; have BK974 := n3_; have BK981 := n4_; have BK996 := n5_; have HB := n6_; clear n0_ n1_ n2_ n3_ n4_ n5_ n6_; have n0_ := Aside0.mk (Kd.R_drew HO_6.out); have n1_ := Aside0.mk (Kd.R_drew HO_982000.out); have n2_ := Aside0.mk (Kd.R_drew HO_982001.out); have n3_ := Aside0.mk (blk_drew BK974.out); have n4_ := Aside0.mk (blk_drew BK981.out); have n5_ := Aside0.mk (blk_drew BK996.out); have n6_ := Aside0.mk (below_drew1 HB.out); clear HO_6 HO_982000 HO_982001 BK974 BK981 BK996 HB; have HO_6 := n0_; have HO_982000 := n1_; have HO_982001 := n2_; have BK974 := n3_; have BK981 := n4_; have BK996 := n5_; have HB := n6_; clear n0_ n1_ n2_ n3_ n4_ n5_ n6_; have p997 : 0 ≤ (((rd_T80 t992 x10_1).f0) : Int) := sqD; have q997 : ((rd_T80 t992 x10_1).f0) < (t982.length : Int) := sqD; obtain ⟨ad997, e997, hx997_0⟩ := Kd.at_int (Kd.R_reads' HO_6.out).2.2 ((rd_T80 t992 x10_1).f0) p997 q997
        cases e997
        replace p997 := eq_true p997; replace q997 := eq_true q997; refine start_ (n := 9) (S := fun w' => w'.cell? ⟨gb996, 0, none⟩ = some (.int .i64 ((rd_T80 t992 x10_1).f0)) ∧ w'.cell? ⟨gb996, 1, none⟩ = some (.int .i64 ((rd_T80 t992 x10_1).f1)) ∧ w'.cell? ⟨gb996, 2, none⟩ = some (.int .i64 ((rd_T80 t992 x10_1).f2)) ∧ w'.cell? (ad997.add (((rd_T80 t992 x10_1).f0)).toNat) = some (.int .i64 (rd t982 ((rd_T80 t992 x10_1).f0)))) (ds := []) (bm 9 0) sqF rfl rfl ⟨(blk_cell BK996.out 0).trans rfl, (blk_cell BK996.out 1).trans rfl, (blk_cell BK996.out 2).trans rfl, hx997_0⟩ (fun hHeld => ?_); refine with_tabW lw_WoolSpoilt.tab9 lw_WoolSpoilt.bits9 (fun HT_ HW_ => ?_)
        generalize w35.drew = w36 at HO_6 HO_982000 HO_982001 BK974 BK981 BK996 HB hx997_0 hHeld ⊢
        refine pure_ (i := 0) (N := some 51) (v := ?_) (a' := ?_) (bm 9 1) rfl rfl (any_of HT_.out sqF) (fun _ _ _ h => h) (Or.inl ⟨by rfl, ?_⟩) ?_ ?_; rotate_left; intro w'; go_simp; (with_reducible rfl); rotate_left; simp only [Act.put, sqA, i64_w, i32_w]; rfl; refine pure_ (i := 1) (N := some 52) (v := ?_) (a' := ?_) (bm 9 3) rfl rfl (any_of HT_.out sqF) (fun _ _ _ h => h) (Or.inl ⟨by rfl, ?_⟩) ?_ ?_; rotate_left; intro w'; go_simp; (with_reducible rfl); rotate_left; simp only [Act.put, sqA, i64_w, i32_w]; rfl; refine pure_ (i := 5) (N := some 56) (v := ?_) (a' := ?_) (bm 9 35) rfl rfl (any_of HT_.out sqF) (fun _ _ _ h => h) (Or.inl ⟨by rfl, ?_⟩) ?_ ?_; rotate_left; intro w'; go_simp; (with_reducible rfl); rotate_left; simp only [Act.put, sqA, i64_w, i32_w]; rfl; refine take_ (i := 2) (N := some 53) (v := ?_) (a' := ?_) (bm 9 39) rfl rfl (take_ofW HT_.out HW_.out sqF) (fun _ _ _ h => h) (Or.inl ⟨by rfl, ?_⟩) hHeld ?_ ?_; rotate_left; rintro w' ⟨s0, s1, s2, s3⟩; go_simp; (with_reducible rfl); rotate_left; simp only [Act.put, sqA, i64_w, i32_w]; rfl; refine pure_ (i := 3) (N := some 54) (v := ?_) (a' := ?_) (bm 9 47) rfl rfl (any_of HT_.out sqF) (fun _ _ _ h => h) (Or.inl ⟨by rfl, ?_⟩) ?_ ?_; rotate_left; intro w'; go_simp; (with_reducible rfl); rotate_left; simp only [Act.put, sqA, i64_w, i32_w]; rfl; refine take_ (i := 4) (N := some 55) (v := ?_) (a' := ?_) (bm 9 63) rfl rfl (take_ofW HT_.out HW_.out sqF) (fun _ _ _ h => h) (Or.inl ⟨by rfl, ?_⟩) hHeld ?_ ?_; rotate_left; rintro w' ⟨s0, s1, s2, s3⟩; go_simp; (with_reducible rfl); rotate_left; simp only [Act.put, sqA, i64_w, i32_w]; rfl; refine take_ (i := 6) (N := some 57) (v := ?_) (a' := ?_) (bm 9 127) rfl rfl (take_ofW HT_.out HW_.out sqF) (fun _ _ _ h => h) (Or.inl ⟨by rfl, ?_⟩) hHeld ?_ ?_; rotate_left; rintro w' ⟨s0, s1, s2, s3⟩; go_simp; (with_reducible rfl); rotate_left; simp only [Act.put, sqA, i64_w, i32_w]; rfl; refine pure_ (i := 7) (N := some 58) (v := ?_) (a' := ?_) (bm 9 255) rfl rfl (any_of HT_.out sqF) (fun _ _ _ h => h) (Or.inl ⟨by rfl, ?_⟩) ?_ ?_; rotate_left; intro w'; go_simp; (with_reducible rfl); rotate_left; simp only [Act.put, sqA, i64_w, i32_w]; rfl; refine pure_ (i := 8) (N := some 12) (v := ?_) (a' := ?_) (bm 9 511) rfl rfl (any_of HT_.out sqF) (fun _ _ _ h => h) (Or.inl ⟨by rfl, ?_⟩) ?_ ?_; rotate_left; intro w'; go_simp; (with_reducible rfl); rotate_left; simp only [Act.put, sqA, i64_w, i32_w]; rfl
        refine done_ (done_of HT_.out sqF) ?_; have hcz37_0 : w36.cell? ⟨gb996, 0, none⟩ = some (.int .i64 ((rd_T80 t992 x10_1).f0)) := (blk_cell BK996.out 0).trans rfl; have hcz37_1 : w36.cell? ⟨gb996, 1, none⟩ = some (.int .i64 ((rd_T80 t992 x10_1).f1)) := (blk_cell BK996.out 1).trans rfl; have hcz37_2 : w36.cell? ⟨gb996, 2, none⟩ = some (.int .i64 ((rd_T80 t992 x10_1).f2)) := (blk_cell BK996.out 2).trans rfl; have hfz37_0 := blk_frozen BK996.out 0; have hfz37_1 := blk_frozen BK996.out 1; have hfz37_2 := blk_frozen BK996.out 2
        try go_wp2
        go_roundg k1
        case measure => have := HK1.out; omega
        case rel => exact ⟨(wrap64 (x9_1 + 1)), (wrap64 (x10_1 + 1)), sqE, sqE, H', ⟨by have := HK1.out; omega⟩, ⟨sqR HO_6⟩, ⟨sqR HO_982000⟩, ⟨by (with_reducible repeat (first | apply Kd.R_alloc | apply Kd.R_drewN | apply Kd.R_drew)); exact Kd.R_mono HO_982001.out (fun _ hk => trivial)⟩, ⟨sqK BK974⟩, ⟨sqK BK981⟩, ⟨sqB HB⟩⟩
       ·rw [if_neg c28] at H
        have c28b0 : decide (((rd_T80 t992 x10_1).f2) < (ji27)) = false := decide_eq_false c28; clear c28; have H' := Aside0.mk H; clear H; have hnb38 := NB981_974.out; have hnc38 := NB974_981.out; have hcz39_0 := sqc0 BK981; have hcz39_1 := sqc1 BK981; have hfz39_0 := blk_frozen BK981.out 0; have hfz39_1 := blk_frozen BK981.out 1; have p995 : 0 ≤ (x10_1 : Int) := sqD; have q995 : x10_1 < (t992.length : Int) := sqD; obtain ⟨ad995, e995, hx995_0, hx995_1, hx995_2⟩ := at_T80 (Kd.R_reads' HO_982001.out).2.2 x10_1 p995 q995
        cases e995
        replace p995 := eq_true p995; replace q995 := eq_true q995
        try go_wp2_with (first | ((with_reducible refine gate_dst (N := 11) rfl ?_); (try (refine gate_guard (by rfl) ?_; dsimp only)); refine box_event ?hg (N := 11) ?hd (cs := #[.int .i64 0, .int .i64 0, .int .i64 0]) (t := 80) ?hr ?_; (case hd => rfl); (case hg => rfl); (case hr => first | (go_simp; done) | (go_simp; rfl)); intro gb996 hg w40 hbox hb; replace HO_6 := Aside0.mk (Kd.R_below (sqR HO_6) hb); replace HO_982000 := Aside0.mk (Kd.R_below (sqR HO_982000) hb); replace HO_982001 := Aside0.mk (Kd.R_below (Kd.R_elderB (sqR HO_982001) gb996 (Nat.le_of_eq hg.symm)) hb); have BK996 := Aside0.mk (hbox); have GW996 := Aside0.mk (sqZ hg HB); have GE996 := Aside0.mk (sqZ hg HB); replace HB := sqb hb HB; have NB974_996 := Aside0.mk (sqL hg BK974); have NB996_974 := Aside0.mk (sqG hg BK974); replace BK974 := sqk BK974 hb; have NB981_996 := Aside0.mk (sqL hg BK981); have NB996_981 := Aside0.mk (sqG hg BK981); replace BK981 := sqk BK981 hb; clear hb hbox hg; have hnb41 := NB996_974.out; have hnc41 := NB974_996.out; have hnb42 := NB996_981.out; have hnc42 := NB981_996.out; have hcz43_0 := sqc0 BK996; have hcz43_1 := sqc1 BK996; have hcz43_2 := sqc2 BK996; have hfz43_0 := blk_frozen BK996.out 0; have hfz43_1 := blk_frozen BK996.out 1; have hfz43_2 := blk_frozen BK996.out 2))
        have n0_ : Aside0 (Kd.R (Kd.int .i64) 3 (((w40.setCell ⟨gb996, 0, none⟩ (.int .i64 ((rd_T80 t992 x10_1).f0))).setCell ⟨gb996, 1, none⟩ (.int .i64 ((rd_T80 t992 x10_1).f1))).setCell ⟨gb996, 2, none⟩ (.int .i64 ((rd_T80 t992 x10_1).f2))) w.heap.size (fun _ => True) (.slice Ao18 t982.length co18) t982) := ⟨by (with_reducible repeat (first | apply Kd.R_alloc | apply Kd.R_drewN | apply Kd.R_drew)); exact Kd.R_mono (Kd.R_far (p := ⟨gb996, 2, none⟩) (Kd.R_far (p := ⟨gb996, 1, none⟩) (Kd.R_far (p := ⟨gb996, 0, none⟩) (Kd.R_types HO_6.out BK996.out (by decide)) (fun _ hk => hk.2) (.int .i64 ((rd_T80 t992 x10_1).f0))) (fun _ hk => hk.2) (.int .i64 ((rd_T80 t992 x10_1).f1))) (fun _ hk => hk.2) (.int .i64 ((rd_T80 t992 x10_1).f2))) (fun _ hk => trivial)⟩; have n1_ : Aside0 (Kd.R k41 41 (((w40.setCell ⟨gb996, 0, none⟩ (.int .i64 ((rd_T80 t992 x10_1).f0))).setCell ⟨gb996, 1, none⟩ (.int .i64 ((rd_T80 t992 x10_1).f1))).setCell ⟨gb996, 2, none⟩ (.int .i64 ((rd_T80 t992 x10_1).f2))) w.heap.size (fun _ => True) (.slice Ao20 t989.length co20) t989) := ⟨by (with_reducible repeat (first | apply Kd.R_alloc | apply Kd.R_drewN | apply Kd.R_drew)); exact Kd.R_mono (Kd.R_far (p := ⟨gb996, 2, none⟩) (Kd.R_far (p := ⟨gb996, 1, none⟩) (Kd.R_far (p := ⟨gb996, 0, none⟩) (Kd.R_types HO_982000.out BK996.out (by decide)) (fun _ hk => hk.2) (.int .i64 ((rd_T80 t992 x10_1).f0))) (fun _ hk => hk.2) (.int .i64 ((rd_T80 t992 x10_1).f1))) (fun _ hk => hk.2) (.int .i64 ((rd_T80 t992 x10_1).f2))) (fun _ hk => trivial)⟩; have n2_ : Aside0 (Kd.R k80 80 (((w40.setCell ⟨gb996, 0, none⟩ (.int .i64 ((rd_T80 t992 x10_1).f0))).setCell ⟨gb996, 1, none⟩ (.int .i64 ((rd_T80 t992 x10_1).f1))).setCell ⟨gb996, 2, none⟩ (.int .i64 ((rd_T80 t992 x10_1).f2))) w.heap.size (fun k_ => k_ ≠ gb996) (.slice (some ad995) t992.length co22) t992) := ⟨by (with_reducible repeat (first | apply Kd.R_alloc | apply Kd.R_drewN | apply Kd.R_drew)); exact Kd.R_mono (Kd.R_far (p := ⟨gb996, 2, none⟩) (Kd.R_far (p := ⟨gb996, 1, none⟩) (Kd.R_far (p := ⟨gb996, 0, none⟩) (Kd.R_mono HO_982001.out (fun k_ hk => (⟨hk, hk.2⟩ : _ ∧ k_ ≠ gb996))) (fun _ hk => hk.2) (.int .i64 ((rd_T80 t992 x10_1).f0))) (fun _ hk => hk.2) (.int .i64 ((rd_T80 t992 x10_1).f1))) (fun _ hk => hk.2) (.int .i64 ((rd_T80 t992 x10_1).f2))) (fun _ hk => hk.1.2)⟩; have n3_ : Aside0 ((((w40.setCell ⟨gb996, 0, none⟩ (.int .i64 ((rd_T80 t992 x10_1).f0))).setCell ⟨gb996, 1, none⟩ (.int .i64 ((rd_T80 t992 x10_1).f1))).setCell ⟨gb996, 2, none⟩ (.int .i64 ((rd_T80 t992 x10_1).f2))).heap[gb974]? = some (.cells #[.slice A0_0 l0_0.length c0_0, .int .u16 a0_1, .slice A0_2 l0_2.length c0_2, .slice A0_3 l0_3.length c0_3] 69 (0, 0))) := ⟨sqX⟩; have n4_ : Aside0 ((((w40.setCell ⟨gb996, 0, none⟩ (.int .i64 ((rd_T80 t992 x10_1).f0))).setCell ⟨gb996, 1, none⟩ (.int .i64 ((rd_T80 t992 x10_1).f1))).setCell ⟨gb996, 2, none⟩ (.int .i64 ((rd_T80 t992 x10_1).f2))).heap[gb981]? = some (.cells #[.slice Ao20 t989.length co20, .slice (some ad995) t992.length co22] 25 (0, 0))) := ⟨sqX⟩
        have n5_ : Aside0 ((((w40.setCell ⟨gb996, 0, none⟩ (.int .i64 ((rd_T80 t992 x10_1).f0))).setCell ⟨gb996, 1, none⟩ (.int .i64 ((rd_T80 t992 x10_1).f1))).setCell ⟨gb996, 2, none⟩ (.int .i64 ((rd_T80 t992 x10_1).f2))).heap[gb996]? = some (.cells #[.int .i64 ((rd_T80 t992 x10_1).f0), .int .i64 ((rd_T80 t992 x10_1).f1), .int .i64 ((rd_T80 t992 x10_1).f2)] 80 (0, 0))) := ⟨by (with_reducible repeat (first | refine blk_drewN ?_ _ | refine blk_drew ?_ | refine blk_alloc ?_ _)); refine blk_put (cs := #[.int .i64 ((rd_T80 t992 x10_1).f0), .int .i64 ((rd_T80 t992 x10_1).f1), .int .i64 0]) ?_ 2 _ rfl; (with_reducible repeat (first | refine blk_drewN ?_ _ | refine blk_drew ?_ | refine blk_alloc ?_ _)); refine blk_put (cs := #[.int .i64 ((rd_T80 t992 x10_1).f0), .int .i64 0, .int .i64 0]) ?_ 1 _ rfl; (with_reducible repeat (first | refine blk_drewN ?_ _ | refine blk_drew ?_ | refine blk_alloc ?_ _)); refine blk_put (cs := #[.int .i64 0, .int .i64 0, .int .i64 0]) ?_ 0 _ rfl; (with_reducible repeat (first | refine blk_drewN ?_ _ | refine blk_drew ?_ | refine blk_alloc ?_ _)); exact BK996.out⟩; have n6_ : Aside0 (Below w.heap.size w (((w40.setCell ⟨gb996, 0, none⟩ (.int .i64 ((rd_T80 t992 x10_1).f0))).setCell ⟨gb996, 1, none⟩ (.int .i64 ((rd_T80 t992 x10_1).f1))).setCell ⟨gb996, 2, none⟩ (.int .i64 ((rd_T80 t992 x10_1).f2)))) := ⟨sqB HB⟩; (try clear HO_6); (try clear HO_982000); (try clear HO_982001); (try clear BK974); (try clear BK981); (try clear BK996); (try clear HB)
        generalize (((w40.setCell ⟨gb996, 0, none⟩ (.int .i64 ((rd_T80 t992 x10_1).f0))).setCell ⟨gb996, 1, none⟩ (.int .i64 ((rd_T80 t992 x10_1).f1))).setCell ⟨gb996, 2, none⟩ (.int .i64 ((rd_T80 t992 x10_1).f2))) = w44 at n0_ n1_ n2_ n3_ n4_ n5_ n6_ ⊢
        have HO_6 := n0_; have HO_982000 := n1_; have HO_982001 := n2_; have BK974 := n3_; have BK981 := n4_; have BK996 := n5_; have HB := n6_; clear n0_ n1_ n2_ n3_ n4_ n5_ n6_; have n0_ := Aside0.mk (Kd.R_drew HO_6.out); have n1_ := Aside0.mk (Kd.R_drew HO_982000.out); have n2_ := Aside0.mk (Kd.R_drew HO_982001.out); have n3_ := Aside0.mk (blk_drew BK974.out); have n4_ := Aside0.mk (blk_drew BK981.out); have n5_ := Aside0.mk (blk_drew BK996.out); have n6_ := Aside0.mk (below_drew1 HB.out); clear HO_6 HO_982000 HO_982001 BK974 BK981 BK996 HB; have HO_6 := n0_; have HO_982000 := n1_; have HO_982001 := n2_; have BK974 := n3_; have BK981 := n4_; have BK996 := n5_; have HB := n6_; clear n0_ n1_ n2_ n3_ n4_ n5_ n6_; have p997 : 0 ≤ (((rd_T80 t992 x10_1).f0) : Int) := sqD; have q997 : ((rd_T80 t992 x10_1).f0) < (t982.length : Int) := sqD; obtain ⟨ad997, e997, hx997_0⟩ := Kd.at_int (Kd.R_reads' HO_6.out).2.2 ((rd_T80 t992 x10_1).f0) p997 q997
        cases e997
        replace p997 := eq_true p997; replace q997 := eq_true q997; refine start_ (n := 9) (S := fun w' => w'.cell? ⟨gb996, 0, none⟩ = some (.int .i64 ((rd_T80 t992 x10_1).f0)) ∧ w'.cell? ⟨gb996, 1, none⟩ = some (.int .i64 ((rd_T80 t992 x10_1).f1)) ∧ w'.cell? ⟨gb996, 2, none⟩ = some (.int .i64 ((rd_T80 t992 x10_1).f2)) ∧ w'.cell? (ad997.add (((rd_T80 t992 x10_1).f0)).toNat) = some (.int .i64 (rd t982 ((rd_T80 t992 x10_1).f0)))) (ds := []) (bm 9 0) sqF rfl rfl ⟨(blk_cell BK996.out 0).trans rfl, (blk_cell BK996.out 1).trans rfl, (blk_cell BK996.out 2).trans rfl, hx997_0⟩ (fun hHeld => ?_); refine with_tabW lw_WoolSpoilt.tab9 lw_WoolSpoilt.bits9 (fun HT_ HW_ => ?_)
        generalize w44.drew = w45 at HO_6 HO_982000 HO_982001 BK974 BK981 BK996 HB hx997_0 hHeld ⊢
        refine pure_ (i := 0) (N := some 51) (v := ?_) (a' := ?_) (bm 9 1) rfl rfl (any_of HT_.out sqF) (fun _ _ _ h => h) (Or.inl ⟨by rfl, ?_⟩) ?_ ?_; rotate_left; intro w'; go_simp; (with_reducible rfl); rotate_left; simp only [Act.put, sqA, i64_w, i32_w]; rfl; refine pure_ (i := 1) (N := some 52) (v := ?_) (a' := ?_) (bm 9 3) rfl rfl (any_of HT_.out sqF) (fun _ _ _ h => h) (Or.inl ⟨by rfl, ?_⟩) ?_ ?_; rotate_left; intro w'; go_simp; (with_reducible rfl); rotate_left; simp only [Act.put, sqA, i64_w, i32_w]; rfl; refine pure_ (i := 5) (N := some 56) (v := ?_) (a' := ?_) (bm 9 35) rfl rfl (any_of HT_.out sqF) (fun _ _ _ h => h) (Or.inl ⟨by rfl, ?_⟩) ?_ ?_; rotate_left; intro w'; go_simp; (with_reducible rfl); rotate_left; simp only [Act.put, sqA, i64_w, i32_w]; rfl; refine take_ (i := 2) (N := some 53) (v := ?_) (a' := ?_) (bm 9 39) rfl rfl (take_ofW HT_.out HW_.out sqF) (fun _ _ _ h => h) (Or.inl ⟨by rfl, ?_⟩) hHeld ?_ ?_; rotate_left; rintro w' ⟨s0, s1, s2, s3⟩; go_simp; (with_reducible rfl); rotate_left; simp only [Act.put, sqA, i64_w, i32_w]; rfl; refine pure_ (i := 3) (N := some 54) (v := ?_) (a' := ?_) (bm 9 47) rfl rfl (any_of HT_.out sqF) (fun _ _ _ h => h) (Or.inl ⟨by rfl, ?_⟩) ?_ ?_; rotate_left; intro w'; go_simp; (with_reducible rfl); rotate_left; simp only [Act.put, sqA, i64_w, i32_w]; rfl; refine take_ (i := 4) (N := some 55) (v := ?_) (a' := ?_) (bm 9 63) rfl rfl (take_ofW HT_.out HW_.out sqF) (fun _ _ _ h => h) (Or.inl ⟨by rfl, ?_⟩) hHeld ?_ ?_; rotate_left; rintro w' ⟨s0, s1, s2, s3⟩; go_simp; (with_reducible rfl); rotate_left; simp only [Act.put, sqA, i64_w, i32_w]; rfl; refine take_ (i := 6) (N := some 57) (v := ?_) (a' := ?_) (bm 9 127) rfl rfl (take_ofW HT_.out HW_.out sqF) (fun _ _ _ h => h) (Or.inl ⟨by rfl, ?_⟩) hHeld ?_ ?_; rotate_left; rintro w' ⟨s0, s1, s2, s3⟩; go_simp; (with_reducible rfl); rotate_left; simp only [Act.put, sqA, i64_w, i32_w]; rfl; refine pure_ (i := 7) (N := some 58) (v := ?_) (a' := ?_) (bm 9 255) rfl rfl (any_of HT_.out sqF) (fun _ _ _ h => h) (Or.inl ⟨by rfl, ?_⟩) ?_ ?_; rotate_left; intro w'; go_simp; (with_reducible rfl); rotate_left; simp only [Act.put, sqA, i64_w, i32_w]; rfl; refine pure_ (i := 8) (N := some 12) (v := ?_) (a' := ?_) (bm 9 511) rfl rfl (any_of HT_.out sqF) (fun _ _ _ h => h) (Or.inl ⟨by rfl, ?_⟩) ?_ ?_; rotate_left; intro w'; go_simp; (with_reducible rfl); rotate_left; simp only [Act.put, sqA, i64_w, i32_w]; rfl
        refine done_ (done_of HT_.out sqF) ?_; have hcz46_0 : w45.cell? ⟨gb996, 0, none⟩ = some (.int .i64 ((rd_T80 t992 x10_1).f0)) := (blk_cell BK996.out 0).trans rfl; have hcz46_1 : w45.cell? ⟨gb996, 1, none⟩ = some (.int .i64 ((rd_T80 t992 x10_1).f1)) := (blk_cell BK996.out 1).trans rfl; have hcz46_2 : w45.cell? ⟨gb996, 2, none⟩ = some (.int .i64 ((rd_T80 t992 x10_1).f2)) := (blk_cell BK996.out 2).trans rfl; have hfz46_0 := blk_frozen BK996.out 0; have hfz46_1 := blk_frozen BK996.out 1; have hfz46_2 := blk_frozen BK996.out 2
        try go_wp2
        go_roundg k1
        case measure => have := HK1.out; omega
        case rel => exact ⟨(x9_1), (wrap64 (x10_1 + 1)), sqE, sqE, H', ⟨by have := HK1.out; omega⟩, ⟨sqR HO_6⟩, ⟨sqR HO_982000⟩, ⟨by (with_reducible repeat (first | apply Kd.R_alloc | apply Kd.R_drewN | apply Kd.R_drew)); exact Kd.R_mono HO_982001.out (fun _ hk => trivial)⟩, ⟨sqK BK974⟩, ⟨sqK BK981⟩, ⟨sqB HB⟩⟩
      ·rw [if_neg c26] at H
       exact absurd H (by simp)
     ·rw [if_neg c25] at H
      exact absurd H (by simp)
    ·rw [if_neg c24] at H
     exact absurd H (by simp)
   ·rw [if_neg c23] at H
    have c23b0 : decide (x10_1 < (t992.length : Int)) = false := decide_eq_false c23; clear c23; obtain ⟨⟨t998, t1001⟩, A470, H⟩ := Option.bind_eq_some_iff.mp H; replace H : ((wool_Wrong.f t998 t1001).bind fun bt1004 => ((lw_own.f t989 t992).bind fun bt1008 => ((wool_Weights.f bt1008.1 bt1008.2).bind fun bt1014 => (if bt1004.2 = 0 then (if ((bt1004.2 == 6) != (bt1014.2 == 0)) = true then (none) else (if (bt1004.1.length : Int) > x9_1 then (none) else (lw_WoolSpoilt.j1 k1 bt1004.1 bt1004.2 ((bt1004.1.length : Int) == 0) t989 t992))) else (if bt1004.2 = 6 then (if (bt1004.1.length : Int) = 0 then (if ((bt1004.2 == 6) != (bt1014.2 == 0)) = true then (none) else (if (bt1004.1.length : Int) > x9_1 then (none) else (lw_WoolSpoilt.j1 k1 bt1004.1 bt1004.2 false t989 t992))) else (none)) else (none)))))) = some r := H; have A47 := Aside0.mk A470; clear A470; obtain ⟨⟨t1004, t1007⟩, A480, H⟩ := Option.bind_eq_some_iff.mp H; replace H : ((lw_own.f t989 t992).bind fun bt1008 => ((wool_Weights.f bt1008.1 bt1008.2).bind fun bt1014 => (if t1007 = 0 then (if ((t1007 == 6) != (bt1014.2 == 0)) = true then (none) else (if (t1004.length : Int) > x9_1 then (none) else (lw_WoolSpoilt.j1 k1 t1004 t1007 ((t1004.length : Int) == 0) t989 t992))) else (if t1007 = 6 then (if (t1004.length : Int) = 0 then (if ((t1007 == 6) != (bt1014.2 == 0)) = true then (none) else (if (t1004.length : Int) > x9_1 then (none) else (lw_WoolSpoilt.j1 k1 t1004 t1007 false t989 t992))) else (none)) else (none))))) = some r := H; have A48 := Aside0.mk A480; clear A480; obtain ⟨⟨t1008, t1011⟩, A490, H⟩ := Option.bind_eq_some_iff.mp H; replace H : ((wool_Weights.f t1008 t1011).bind fun bt1014 => (if t1007 = 0 then (if ((t1007 == 6) != (bt1014.2 == 0)) = true then (none) else (if (t1004.length : Int) > x9_1 then (none) else (lw_WoolSpoilt.j1 k1 t1004 t1007 ((t1004.length : Int) == 0) t989 t992))) else (if t1007 = 6 then (if (t1004.length : Int) = 0 then (if ((t1007 == 6) != (bt1014.2 == 0)) = true then (none) else (if (t1004.length : Int) > x9_1 then (none) else (lw_WoolSpoilt.j1 k1 t1004 t1007 false t989 t992))) else (none)) else (none)))) = some r := H; have A49 := Aside0.mk A490; clear A490; obtain ⟨⟨t1014, t1017⟩, A500, H⟩ := Option.bind_eq_some_iff.mp H; replace H : (if t1007 = 0 then (if ((t1007 == 6) != (t1017 == 0)) = true then (none) else (if (t1004.length : Int) > x9_1 then (none) else (lw_WoolSpoilt.j1 k1 t1004 t1007 ((t1004.length : Int) == 0) t989 t992))) else (if t1007 = 6 then (if (t1004.length : Int) = 0 then (if ((t1007 == 6) != (t1017 == 0)) = true then (none) else (if (t1004.length : Int) > x9_1 then (none) else (lw_WoolSpoilt.j1 k1 t1004 t1007 false t989 t992))) else (none)) else (none))) = some r := H; have A50 := Aside0.mk A500; clear A500; have HC51 := Aside0.mk H; clear H; have hnb52 := NB981_974.out; have hnc52 := NB974_981.out; have hcz53_0 := sqc0 BK981; have hcz53_1 := sqc1 BK981; have hfz53_0 := blk_frozen BK981.out 0; have hfz53_1 := blk_frozen BK981.out 1
    go_upto_region 14 with (first | ((with_reducible refine gate_callee (f := 48) rfl ?_); refine goesL_ (some 70) rfl rfl Tryd.func48 sqF rfl #[.agg #[.slice Ao20 t989.length co20, .slice Ao22 t992.length co22]] rfl sqM ?_; (with_reducible refine (lw_own.calls _ _ t989 _ _ t992 t998 t1001 _ ?side1 ?side2 ?side3 ?side4 A47.out).mono ?_); (case side1 => repeat (first | exact (Kd.R_reads' HO_982000.out).2.2 | (with_reducible refine Kd.C_alloc ?_ _) | (with_reducible refine Kd.C_drewN ?_ _) | (with_reducible refine Kd.C_drew ?_))); (case side2 => exact (Kd.R_reads' HO_982000.out).2.1); (case side3 => repeat (first | exact (Kd.R_reads' HO_982001.out).2.2 | (with_reducible refine Kd.C_alloc ?_ _) | (with_reducible refine Kd.C_drewN ?_ _) | (with_reducible refine Kd.C_drew ?_))); (case side4 => exact (Kd.R_reads' HO_982001.out).2.1); rintro e w54 ⟨v999, v1002, rfl, ho0, ho1, hb⟩; refine ⟨_, rfl, ?_⟩; replace HO_6 := Aside0.mk (Kd.R_below (sqR HO_6) hb); have HO1000 := Aside0.mk (Kd.R_lower (Kd.R_new' ho0 (Kd.R_lt (sqR HO_982000))) (below_size (sqB HB))); replace HO_982000 := Aside0.mk (Kd.R_elder' (sqR HO_982000) (Kd.R_base ho0) hb); have HO1003 := Aside0.mk (Kd.R_lower (Kd.R_new' ho1 (Kd.R_lt (sqR HO_982001))) (below_size (sqB HB))); replace HO_982001 := Aside0.mk (Kd.R_elder' (sqR HO_982001) (Kd.R_base ho1) hb); replace BK974 := sqk BK974 hb; replace BK981 := sqk BK981 hb; replace HB := sqb hb HB; (try clear hb); (try clear hb2); (try clear hk); (try clear hi); (try clear ho0); (try clear ho1); obtain ⟨Ao55, co55, eo55⟩ := Kd.R_slice HO1000.out; subst eo55; obtain ⟨Ao56, co56, eo56⟩ := Kd.R_slice HO1003.out; subst eo56) | ((with_reducible refine gate_callee (f := 37) rfl ?_); refine goesL_ (some 71) rfl rfl Tryd.func37 sqF rfl #[.agg #[.slice Ao55 t998.length co55, .slice Ao56 t1001.length co56]] rfl sqM ?_; (with_reducible refine (wool_Wrong.calls _ _ t998 _ _ t1001 t1004 t1007 _ ?sideG ?side1 ?side2 ?side3 ?side4 A48.out).mono ?_); (case sideG => exact (Kd.C_below HGL.out (sqB HB))); (case side1 => repeat (first | exact (Kd.R_reads' HO1000.out).2.2 | (with_reducible refine Kd.C_alloc ?_ _) | (with_reducible refine Kd.C_drewN ?_ _) | (with_reducible refine Kd.C_drew ?_))); (case side2 => exact (Kd.R_reads' HO1000.out).2.1); (case side3 => repeat (first | exact (Kd.R_reads' HO1003.out).2.2 | (with_reducible refine Kd.C_alloc ?_ _) | (with_reducible refine Kd.C_drewN ?_ _) | (with_reducible refine Kd.C_drew ?_))); (case side4 => exact (Kd.R_reads' HO1003.out).2.1); rintro e w57 ⟨v1005, rfl, ho0, hb⟩; refine ⟨_, rfl, ?_⟩; replace HO_982000 := Aside0.mk (Kd.R_below (sqR HO_982000) hb); replace HO_982001 := Aside0.mk (Kd.R_below (sqR HO_982001) hb); replace HO1000 := Aside0.mk (Kd.R_below (sqR HO1000) hb); replace HO1003 := Aside0.mk (Kd.R_below (sqR HO1003) hb); have HO1006 := Aside0.mk (Kd.R_lower (Kd.R_new' ho0 (Kd.R_lt (sqR HO_6))) (below_size (sqB HB))); replace HO_6 := Aside0.mk (Kd.R_elder' (sqR HO_6) (Kd.R_base ho0) hb); replace BK974 := sqk BK974 hb; replace BK981 := sqk BK981 hb; replace HB := sqb hb HB; (try clear hb); (try clear hb2); (try clear hk); (try clear hi); (try clear ho0); have hcz58_0 := sqc0 BK981; have hcz58_1 := sqc1 BK981; have hfz58_0 := blk_frozen BK981.out 0; have hfz58_1 := blk_frozen BK981.out 1) | ((with_reducible refine gate_callee (f := 48) rfl ?_); refine goesL_ (some 76) rfl rfl Tryd.func48 sqF rfl #[.agg #[.slice Ao20 t989.length co20, .slice Ao22 t992.length co22]] rfl sqM ?_; (with_reducible refine (lw_own.calls _ _ t989 _ _ t992 t1008 t1011 _ ?side1 ?side2 ?side3 ?side4 A49.out).mono ?_); (case side1 => repeat (first | exact (Kd.R_reads' HO_982000.out).2.2 | (with_reducible refine Kd.C_alloc ?_ _) | (with_reducible refine Kd.C_drewN ?_ _) | (with_reducible refine Kd.C_drew ?_))); (case side2 => exact (Kd.R_reads' HO_982000.out).2.1); (case side3 => repeat (first | exact (Kd.R_reads' HO_982001.out).2.2 | (with_reducible refine Kd.C_alloc ?_ _) | (with_reducible refine Kd.C_drewN ?_ _) | (with_reducible refine Kd.C_drew ?_))); (case side4 => exact (Kd.R_reads' HO_982001.out).2.1); rintro e w59 ⟨v1009, v1012, rfl, ho0, ho1, hb⟩; refine ⟨_, rfl, ?_⟩; replace HO_6 := Aside0.mk (Kd.R_below (sqR HO_6) hb); replace HO1006 := Aside0.mk (Kd.R_below (sqR HO1006) hb); have HO1010 := Aside0.mk (Kd.R_lower (Kd.R_new' (Kd.R_new' ho0 (Kd.R_lt (sqR HO_982000))) (Kd.R_lt (sqR HO1000))) (below_size (sqB HB))); replace HO_982000 := Aside0.mk (Kd.R_elder' (sqR HO_982000) (Kd.R_base ho0) hb); replace HO1000 := Aside0.mk (Kd.R_elder' (sqR HO1000) (Kd.R_base ho0) hb); have HO1013 := Aside0.mk (Kd.R_lower (Kd.R_new' (Kd.R_new' ho1 (Kd.R_lt (sqR HO_982001))) (Kd.R_lt (sqR HO1003))) (below_size (sqB HB))); replace HO_982001 := Aside0.mk (Kd.R_elder' (sqR HO_982001) (Kd.R_base ho1) hb); replace HO1003 := Aside0.mk (Kd.R_elder' (sqR HO1003) (Kd.R_base ho1) hb); replace BK974 := sqk BK974 hb; replace BK981 := sqk BK981 hb; replace HB := sqb hb HB; (try clear hb); (try clear hb2); (try clear hk); (try clear hi); (try clear ho0); (try clear ho1); obtain ⟨Ao60, co60, eo60⟩ := Kd.R_slice HO1010.out; subst eo60; obtain ⟨Ao61, co61, eo61⟩ := Kd.R_slice HO1013.out; subst eo61) | ((with_reducible refine gate_callee (f := 20) rfl ?_); refine goesL_ (some 77) rfl rfl Tryd.func20 sqF rfl #[.agg #[.slice Ao60 t1008.length co60, .slice Ao61 t1011.length co61]] rfl sqM ?_; (with_reducible refine (wool_Weights.calls _ _ t1008 _ _ t1011 t1014 t1017 _ ?sideG ?side1 ?side2 ?side3 ?side4 A50.out).mono ?_); (case sideG => exact (Kd.C_below HGL.out (sqB HB))); (case side1 => repeat (first | exact (Kd.R_reads' HO1010.out).2.2 | (with_reducible refine Kd.C_alloc ?_ _) | (with_reducible refine Kd.C_drewN ?_ _) | (with_reducible refine Kd.C_drew ?_))); (case side2 => exact (Kd.R_reads' HO1010.out).2.1); (case side3 => repeat (first | exact (Kd.R_reads' HO1013.out).2.2 | (with_reducible refine Kd.C_alloc ?_ _) | (with_reducible refine Kd.C_drewN ?_ _) | (with_reducible refine Kd.C_drew ?_))); (case side4 => exact (Kd.R_reads' HO1013.out).2.1); rintro e w62 ⟨v1015, rfl, ho0, hb⟩; refine ⟨_, rfl, ?_⟩; replace HO_6 := Aside0.mk (Kd.R_below (sqR HO_6) hb); replace HO_982001 := Aside0.mk (Kd.R_below (sqR HO_982001) hb); replace HO1003 := Aside0.mk (Kd.R_below (sqR HO1003) hb); replace HO1006 := Aside0.mk (Kd.R_below (sqR HO1006) hb); replace HO1013 := Aside0.mk (Kd.R_below (sqR HO1013) hb); have HO1016 := Aside0.mk (Kd.R_lower (Kd.R_new' (Kd.R_new' (Kd.R_new' ho0 (Kd.R_lt (sqR HO_982000))) (Kd.R_lt (sqR HO1000))) (Kd.R_lt (sqR HO1010))) (below_size (sqB HB))); replace HO_982000 := Aside0.mk (Kd.R_elder' (sqR HO_982000) (Kd.R_base ho0) hb); replace HO1000 := Aside0.mk (Kd.R_elder' (sqR HO1000) (Kd.R_base ho0) hb); replace HO1010 := Aside0.mk (Kd.R_elder' (sqR HO1010) (Kd.R_base ho0) hb); replace BK974 := sqk BK974 hb; replace BK981 := sqk BK981 hb; replace HB := sqb hb HB; (try clear hb); (try clear hb2); (try clear hk); (try clear hi); (try clear ho0)))
    (try simp only [Act.put, sqA])
    go_cut [112] (fun v112 wc => ∃ (kq : Nat) (x112_50 : Bool), v112 = .bool x112_50 ∧ Aside0 (lw_WoolSpoilt.j1 kq t1004 t1007 x112_50 t989 t992 = some r) ∧ Aside0 (kq ≤ k1) ∧ Aside0 (Kd.R (Kd.int .i64) 3 wc w.heap.size (fun _ => True) v1005 t1004) ∧ Aside0 (Kd.R k41 41 wc w.heap.size (fun _ => True) (.slice Ao20 t989.length co20) t989) ∧ Aside0 (Kd.R k80 80 wc w.heap.size (fun _ => True) (.slice Ao22 t992.length co22) t992) ∧ Aside0 (wc.heap[gb974]? = some (.cells #[(.slice A0_0 l0_0.length c0_0), .int .u16 a0_1, (.slice A0_2 l0_2.length c0_2), (.slice A0_3 l0_3.length c0_3)] 69 (0, 0))) ∧ Aside0 (wc.heap[gb981]? = some (.cells #[(.slice Ao20 t989.length co20), (.slice Ao22 t992.length co22)] 25 (0, 0))) ∧ Aside0 (Below w.heap.size w wc))
    case first =>
     have H := HC51.out; clear HC51
     by_cases c63 : t1007 = 0
     ·rw [if_pos c63] at H
      have c63b0 : (t1007 == 0) = true := beq_iff_eq.mpr c63
      have z_c63_n6 : (t1007 == 6) = false := by rw [eq_of_beq c63b0]; rfl
      have z_c63_m6 : (t1007 != 6) = true := by rw [eq_of_beq c63b0]; rfl
      have c63b1 : (t1007 != 0) = false := bne_eq_false_iff_eq.mpr c63; clear c63
      (first | rw [c63b0] | (simp only [i64_w, i32_w]; rw [c63b0]) | skip)
      by_cases c64 : ((t1007 == 6) != (t1017 == 0)) = true
      ·rw [if_pos c64] at H
       exact absurd H (by simp)
      ·rw [if_neg c64] at H
       have c64b0 : ((t1007 == 6) != (t1017 == 0)) = false := by simpa using c64
       have z_c64_c63 : (t1017 == 0) = false := by have h_ := c64b0; rw [show (t1007 == 6) = false from by rw [eq_of_beq c63b0]; rfl] at h_; simpa using h_
       (try (have c64b1 : decide ((t1007 == 6) = (t1017 == 0)) = true := by simpa using c64))
       (try (have c64b2 : ((t1007 == 6) == (t1017 == 0)) = true := by simpa using c64))
       clear c64
       by_cases c65 : (t1004.length : Int) > x9_1
       ·rw [if_pos c65] at H
        exact absurd H (by simp)
       ·rw [if_neg c65] at H
        have c65b0 : decide (x9_1 < (t1004.length : Int)) = false := decide_eq_false c65; clear c65; have H' := Aside0.mk H; clear H; obtain ⟨Ao66, co66, eo66⟩ := Kd.R_slice HO1006.out; subst eo66
        go_wp2
        go_meet
        case rel => exact ⟨_, (((t1004.length : Int) == 0)), sqE, H', ⟨by have := HK1.out; first | omega | exact Nat.le_refl _⟩, ⟨by (with_reducible repeat (first | apply Kd.R_alloc | apply Kd.R_drewN | apply Kd.R_drew)); exact Kd.R_mono HO1006.out (fun _ hk => trivial)⟩, ⟨by (with_reducible repeat (first | apply Kd.R_alloc | apply Kd.R_drewN | apply Kd.R_drew)); exact Kd.R_mono HO_982000.out (fun _ hk => trivial)⟩, ⟨by (with_reducible repeat (first | apply Kd.R_alloc | apply Kd.R_drewN | apply Kd.R_drew)); exact Kd.R_mono HO_982001.out (fun _ hk => trivial)⟩, ⟨sqK BK974⟩, ⟨sqK BK981⟩, ⟨sqB HB⟩⟩
     ·rw [if_neg c63] at H
      have c63b0 : (t1007 == 0) = false := beq_eq_false_iff_ne.mpr c63; have c63b1 : (t1007 != 0) = true := bne_iff_ne.mpr c63
      (first | rw [c63b0] | (simp only [i64_w, i32_w]; rw [c63b0]) | skip)
      by_cases c67 : t1007 = 6
      ·rw [if_pos c67] at H
       have c67b0 : (t1007 == 6) = true := beq_iff_eq.mpr c67
       have z_c67_n0 : (t1007 == 0) = false := by rw [eq_of_beq c67b0]; rfl
       have z_c67_m0 : (t1007 != 0) = true := by rw [eq_of_beq c67b0]; rfl
       have c67b1 : (t1007 != 6) = false := bne_eq_false_iff_eq.mpr c67; clear c67
       by_cases c68 : (t1004.length : Int) = 0
       ·rw [if_pos c68] at H
        have c68b0 : ((t1004.length : Int) == 0) = true := beq_iff_eq.mpr c68; have c68b1 : ((t1004.length : Int) != 0) = false := bne_eq_false_iff_eq.mpr c68; clear c68
        by_cases c69 : ((t1007 == 6) != (t1017 == 0)) = true
        ·rw [if_pos c69] at H
         exact absurd H (by simp)
        ·rw [if_neg c69] at H
         have c69b0 : ((t1007 == 6) != (t1017 == 0)) = false := by simpa using c69
         have z_c69_c67 : (t1017 == 0) = true := by have h_ := c69b0; rw [c67b0] at h_; simpa using h_
         (try (have c69b1 : decide ((t1007 == 6) = (t1017 == 0)) = true := by simpa using c69))
         (try (have c69b2 : ((t1007 == 6) == (t1017 == 0)) = true := by simpa using c69))
         clear c69
         by_cases c70 : (t1004.length : Int) > x9_1
         ·rw [if_pos c70] at H
          exact absurd H (by simp)
         ·rw [if_neg c70] at H
          have c70b0 : decide (x9_1 < (t1004.length : Int)) = false := decide_eq_false c70; clear c70; have H' := Aside0.mk H; clear H; obtain ⟨Ao71, co71, eo71⟩ := Kd.R_slice HO1006.out; subst eo71
          go_wp2
          go_meet
          case rel => exact ⟨_, (false), sqE, H', ⟨by have := HK1.out; first | omega | exact Nat.le_refl _⟩, ⟨by (with_reducible repeat (first | apply Kd.R_alloc | apply Kd.R_drewN | apply Kd.R_drew)); exact Kd.R_mono HO1006.out (fun _ hk => trivial)⟩, ⟨by (with_reducible repeat (first | apply Kd.R_alloc | apply Kd.R_drewN | apply Kd.R_drew)); exact Kd.R_mono HO_982000.out (fun _ hk => trivial)⟩, ⟨by (with_reducible repeat (first | apply Kd.R_alloc | apply Kd.R_drewN | apply Kd.R_drew)); exact Kd.R_mono HO_982001.out (fun _ hk => trivial)⟩, ⟨sqK BK974⟩, ⟨sqK BK981⟩, ⟨sqB HB⟩⟩
       ·rw [if_neg c68] at H
        exact absurd H (by simp)
      ·rw [if_neg c67] at H
       exact absurd H (by simp)
    case rest =>
     clear HC51; try clear c23b0
     (try clear hcz53_0); (try clear hcz53_1); (try clear hcz58_0); (try clear hcz58_1); (try clear hfz53_0); (try clear hfz53_1); (try clear hfz58_0); (try clear hfz58_1); obtain ⟨kq, x112_50, rfl, HA, HJ50, HO_13, HO_982000, HO_982001, BK974, BK981, HB⟩ := hcut
     cases kq with
     | zero => exact absurd HA.out (by simp [lw_WoolSpoilt.j1])
     | succ kj50 =>
      have H := HA.out; clear HA; simp only [lw_WoolSpoilt.j1] at H
      by_cases c72 : x112_50 = true
      ·subst c72
       rw [if_pos rfl] at H; exact absurd H (by simp)
      ·replace c72 := Bool.eq_false_iff.mpr c72
       subst c72; rw [if_neg Bool.false_ne_true] at H; have H' := Aside0.mk H; clear H; go_wp2
       go_loopg [17] kj50 (fun kq v17 w' => ∃ (x17_3 : Int), v17 = .int .i64 x17_3 ∧ Aside0 (lw_WoolSpoilt.l1 kq t1004 t1007 x17_3 t989 t992 = some r) ∧ Aside0 (kq ≤ kj50) ∧ Aside0 (Kd.R (Kd.int .i64) 3 w' w.heap.size (fun _ => True) v1005 t1004) ∧ Aside0 (Kd.R k41 41 w' w.heap.size (fun _ => True) (.slice Ao20 t989.length co20) t989) ∧ Aside0 (Kd.R k80 80 w' w.heap.size (fun _ => True) (.slice Ao22 t992.length co22) t992) ∧ Aside0 (w'.heap[gb974]? = some (.cells #[(.slice A0_0 l0_0.length c0_0), .int .u16 a0_1, (.slice A0_2 l0_2.length c0_2), (.slice A0_3 l0_3.length c0_3)] 69 (0, 0))) ∧ Aside0 (w'.heap[gb981]? = some (.cells #[(.slice Ao20 t989.length co20), (.slice Ao22 t992.length co22)] 25 (0, 0))) ∧ Aside0 (Below w.heap.size w w'))
       case atStart => exact ⟨((-1)), sqE, H', ⟨Nat.le_refl _⟩, ⟨sqR HO_13⟩, ⟨sqR HO_982000⟩, ⟨sqR HO_982001⟩, ⟨sqK BK974⟩, ⟨sqK BK981⟩, ⟨sqB HB⟩⟩
       case round =>
        clear H'; try clear c72
        obtain ⟨x17_3, rfl, HA, HK3, HO_13, HO_982000, HO_982001, BK974, BK981, HB⟩ := hrel
        cases gk with
        | zero => exact absurd HA.out (by simp [lw_WoolSpoilt.l1])
        | succ k3 =>
         have H := HA.out; clear HA; simp only [lw_WoolSpoilt.l1] at H; have HC73 := Aside0.mk H
         clear H; go_upto_region 17 with (fail)
         go_cut [120] (fun v120 wc => ∃ (kq : Nat) (x120_72 : Bool), v120 = .bool x120_72 ∧ Aside0 (lw_WoolSpoilt.j3 kq t1004 t1007 x17_3 x120_72 t989 t992 = some r) ∧ Aside0 (kq ≤ k3) ∧ Aside0 (Kd.R (Kd.int .i64) 3 wc w.heap.size (fun _ => True) v1005 t1004) ∧ Aside0 (Kd.R k41 41 wc w.heap.size (fun _ => True) (.slice Ao20 t989.length co20) t989) ∧ Aside0 (Kd.R k80 80 wc w.heap.size (fun _ => True) (.slice Ao22 t992.length co22) t992) ∧ Aside0 (wc.heap[gb974]? = some (.cells #[(.slice A0_0 l0_0.length c0_0), .int .u16 a0_1, (.slice A0_2 l0_2.length c0_2), (.slice A0_3 l0_3.length c0_3)] 69 (0, 0))) ∧ Aside0 (wc.heap[gb981]? = some (.cells #[(.slice Ao20 t989.length co20), (.slice Ao22 t992.length co22)] 25 (0, 0))) ∧ Aside0 (Below w.heap.size w wc))
         case first =>
          have H := HC73.out; clear HC73
          by_cases c74 : x17_3 < (t1004.length : Int)
          ·rw [if_pos c74] at H
           have c74b0 : decide (x17_3 < (t1004.length : Int)) = true := decide_eq_true c74; clear c74
           (first | rw [c74b0] | (simp only [i64_w, i32_w]; rw [c74b0]) | skip)
           have H' := Aside0.mk H; clear H; obtain ⟨Ao75, co75, eo75⟩ := Kd.R_slice HO_13.out; subst eo75
           go_wp2
           go_meet
           case rel => exact ⟨_, ((t1007 == 0)), sqE, H', ⟨by have := HK1.out; have := HJ50.out; have := HK3.out; first | omega | exact Nat.le_refl _⟩, ⟨sqR HO_13⟩, ⟨sqR HO_982000⟩, ⟨sqR HO_982001⟩, ⟨sqK BK974⟩, ⟨sqK BK981⟩, ⟨sqB HB⟩⟩
          ·rw [if_neg c74] at H
           have c74b0 : decide (x17_3 < (t1004.length : Int)) = false := decide_eq_false c74; clear c74
           (first | rw [c74b0] | (simp only [i64_w, i32_w]; rw [c74b0]) | skip)
           have H' := Aside0.mk H; clear H; obtain ⟨Ao76, co76, eo76⟩ := Kd.R_slice HO_13.out; subst eo76
           go_wp2
           go_meet
           case rel => exact ⟨_, (false), sqE, H', ⟨by have := HK1.out; have := HJ50.out; have := HK3.out; first | omega | exact Nat.le_refl _⟩, ⟨sqR HO_13⟩, ⟨sqR HO_982000⟩, ⟨sqR HO_982001⟩, ⟨sqK BK974⟩, ⟨sqK BK981⟩, ⟨sqB HB⟩⟩
         case rest =>
          clear HC73; obtain ⟨kq, x120_72, rfl, HA, HJ72, HO_13, HO_982000, HO_982001, BK974, BK981, HB⟩ := hcut
          cases kq with
          | zero => exact absurd HA.out (by simp [lw_WoolSpoilt.j3])
          | succ kj72 =>
           have H := HA.out; clear HA; simp only [lw_WoolSpoilt.j3] at H
           by_cases c77 : x120_72 = true
           ·subst c77
            rw [if_pos rfl] at H; replace H : ∃ y_ : List (S41), y_ = (([] : List (S41))) ∧ (if y_.length + t989.length < 8796093022208 then (lw_WoolSpoilt.l2 kj72 t1004 t1007 x17_3 0 t989 t992 (y_ ++ t989) ([] : List (S80))) else (none)) = some r := ⟨_, rfl, sqJ H⟩; obtain ⟨y1018, hy1018, H⟩ := H; have Ny1018 := Aside0.mk hy1018; clear hy1018
            by_cases c78 : y1018.length + t989.length < 8796093022208
            ·rw [if_pos c78] at H
             have LMc78 := Aside0.mk c78; clear c78; replace H : ∃ y_ : List (S41), y_ = (y1018 ++ t989) ∧ (lw_WoolSpoilt.l2 kj72 t1004 t1007 x17_3 0 t989 t992 y_ ([] : List (S80))) = some r := ⟨_, rfl, sqJ H⟩; obtain ⟨y1021, hy1021, H⟩ := H; have Ny1021 := Aside0.mk hy1021; clear hy1021; have H' := Aside0.mk H; clear H; go_wp2_with (first | ((with_reducible refine gate_dst (N := 123) rfl ?_); (try (refine gate_guard (by rfl) ?_; dsimp only)); refine Kd.R_lit k41 _ 41 ?hg (N := 123) ?hd (xs := ([] : List (S41))) (inner := []) (ok := fun _ => True) (okp := fun _ => True) ?hr ?hp (fun _ hk => hk) trivial (Below.refl _ _) (Nat.le_refl _) (by simp) ?_; (case hd => rfl); (case hg => rfl); (case hr => first | (go_simp; done) | (go_simp; rfl)); (case hp => exact (Reps.none _ _)); intro v1019 w79 ho80 hb hg_ hnew_; clear hg_ hnew_; (first | rw [← Ny1018.out] at ho80 | (simp only [Int.reduceToNat] at ho80; rw [← Ny1018.out] at ho80)); replace HO_13 := Aside0.mk (Kd.R_below (sqR HO_13) hb); replace HO_982001 := Aside0.mk (Kd.R_below (sqR HO_982001) hb); have HO1020 := Aside0.mk (Kd.R_lower (Kd.R_new' ho80 (Kd.R_lt (sqR HO_982000))) (below_size (sqB HB))); replace HO_982000 := Aside0.mk (Kd.R_elder' (sqR HO_982000) (Kd.R_base ho80) hb); replace BK974 := sqk BK974 hb; replace BK981 := sqk BK981 hb; replace HB := sqb hb HB; clear hb ho80; have hnb81 := NB981_974.out; have hnc81 := NB974_981.out; have hcz82_0 := sqc0 BK981; have hcz82_1 := sqc1 BK981; have hfz82_0 := blk_frozen BK981.out 0; have hfz82_1 := blk_frozen BK981.out 1) | ((with_reducible refine gate_builtin (b := .append) (xs := #[.tmp 123, .tmp 125]) rfl ?_); (try (refine gate_guard (by rfl) ?_; dsimp only)); at_builtin; refine Kd.R_append_rows k41 (w0 := w) w.heap.size rfl (.tmp 123) (.tmp 125) 22 41 (.agg #[(.int .i64 0), (.int .i64 0)]) 16 rfl Tryd.underlying22 info41 rfl (by decide) (by omega) v1019 y1018 t989 _ _ _ (fun k_ => some k_ ≠ (.slice Ao20 t989.length co20 : Value).ownBlock) (fun _ => False) rfl rfl ?aO ?aR (fun _ _ h => h) (fun _ h => h.elim) ?aF ?aB ?aS ?aL ?_; (case aR => repeat (first | exact (Kd.R_reads' HO_982000.out).2.2 | (with_reducible refine Kd.C_alloc ?_ _) | (with_reducible refine Kd.C_drewN ?_ _) | (with_reducible refine Kd.C_drew ?_))); (case aB => exact (sqB HB)); (case aF => exact (fun k_ hk => Kd.fresh' (Kd.R_lt (sqR HO_982000)) k_ hk)); (case aO => exact (by (with_reducible repeat (first | apply Kd.R_alloc | apply Kd.R_drewN | apply Kd.R_drew)); exact Kd.R_mono HO1020.out (fun _ hk => hk.2))); (case aS => exact (below_size (sqB HB))); (case aL => have := LMc78.out; omega); intro v1022 w83 ho hb hg hat; rw [← Ny1021.out] at ho; replace HO_13 := Aside0.mk (Kd.R_over' (sqR HO_13) (Kd.R_typed (sqR HO1020)) (by decide) hg); replace HO_982000 := Aside0.mk (Kd.R_after (ok := (fun _ => True)) (sqR HO_982000) hg hat); replace HO_982001 := Aside0.mk (Kd.R_over' (sqR HO_982001) (Kd.R_typed (sqR HO1020)) (by decide) hg); replace BK974 := Aside0.mk (blk_grown (g := gb974) (o := .cells #[.slice A0_0 l0_0.length c0_0, .int .u16 a0_1, .slice A0_2 l0_2.length c0_2, .slice A0_3 l0_3.length c0_3] 69 (0, 0)) (sqK BK974) hg (Kd.R_ne HO1020.out BK974.out (by decide))); replace BK981 := Aside0.mk (blk_grown (g := gb981) (o := .cells #[.slice Ao20 t989.length co20, .slice Ao22 t992.length co22] 25 (0, 0)) (sqK BK981) hg (Kd.R_ne HO1020.out BK981.out (by decide))); replace HB := Aside0.mk (hb); have HO1023 := Aside0.mk (ho); clear HO1020; clear ho hb hg hat; obtain ⟨Ao84, co84, eo84⟩ := Kd.R_slice HO1023.out; subst eo84) | ((with_reducible refine gate_dst (N := 18) rfl ?_); (try (refine gate_guard (by rfl) ?_; dsimp only)); refine box_event ?hg (N := 18) ?hd (cs := #[.slice none 0 0, .slice none 0 0]) (t := 25) ?hr ?_; (case hd => rfl); (case hg => rfl); (case hr => first | (go_simp; done) | (go_simp; rfl)); intro gb1024 hg w85 hbox hb; replace HO_13 := Aside0.mk (Kd.R_below (sqR HO_13) hb); replace HO_982000 := Aside0.mk (Kd.R_below (sqR HO_982000) hb); replace HO_982001 := Aside0.mk (Kd.R_below (sqR HO_982001) hb); replace HO1023 := Aside0.mk (Kd.R_below (sqR HO1023) hb); have BK1024 := Aside0.mk (hbox); have GW1024 := Aside0.mk (sqZ hg HB); have GE1024 := Aside0.mk (sqZ hg HB); replace HB := sqb hb HB; have NB974_1024 := Aside0.mk (sqL hg BK974); have NB1024_974 := Aside0.mk (sqG hg BK974); replace BK974 := sqk BK974 hb; have NB981_1024 := Aside0.mk (sqL hg BK981); have NB1024_981 := Aside0.mk (sqG hg BK981); replace BK981 := sqk BK981 hb; clear hb hbox hg; have hnb86 := NB1024_974.out; have hnc86 := NB974_1024.out; have hnb87 := NB1024_981.out; have hnc87 := NB981_1024.out; have hcz88_0 := sqc0 BK1024; have hcz88_1 := sqc1 BK1024; have hfz88_0 := blk_frozen BK1024.out 0; have hfz88_1 := blk_frozen BK1024.out 1))
             go_loopg [19] kj72 (fun kq v19 w' => ∃ (x19_5 : Int) (x1025001_5 : List (S80)) (u1025001 : Value), v19 = .int .i64 x19_5 ∧ Aside0 (lw_WoolSpoilt.l2 kq t1004 t1007 x17_3 x19_5 t989 t992 y1021 x1025001_5 = some r) ∧ Aside0 (kq ≤ kj72) ∧ Aside0 (Kd.R (Kd.int .i64) 3 w' w.heap.size (fun _ => True) v1005 t1004) ∧ Aside0 (Kd.R k41 41 w' w.heap.size (fun k_ => some k_ ≠ ((.slice Ao84 y1021.length co84) : Value).ownBlock) (.slice Ao20 t989.length co20) t989) ∧ Aside0 (Kd.R k80 80 w' w.heap.size (fun k_ => some k_ ≠ (u1025001 : Value).ownBlock) (.slice Ao22 t992.length co22) t992) ∧ Aside0 (Kd.R k41 41 w' w.heap.size (fun k_ => some k_ ≠ ((.slice Ao20 t989.length co20) : Value).ownBlock) (.slice Ao84 y1021.length co84) y1021) ∧ Aside0 (Kd.R k80 80 w' w.heap.size (fun k_ => some k_ ≠ ((.slice Ao22 t992.length co22) : Value).ownBlock) u1025001 x1025001_5) ∧ Aside0 (w'.heap[gb974]? = some (.cells #[(.slice A0_0 l0_0.length c0_0), .int .u16 a0_1, (.slice A0_2 l0_2.length c0_2), (.slice A0_3 l0_3.length c0_3)] 69 (0, 0))) ∧ Aside0 (w'.heap[gb981]? = some (.cells #[(.slice Ao20 t989.length co20), (.slice Ao22 t992.length co22)] 25 (0, 0))) ∧ Aside0 (w'.heap[gb1024]? = some (.cells #[(.slice Ao84 y1021.length co84), u1025001] 25 (0, 0))) ∧ Aside0 (Below w.heap.size w w'))
             case atStart => exact ⟨(0), (([] : List (S80))), (.slice none 0 0), sqE, H', ⟨Nat.le_refl _⟩, ⟨by (with_reducible repeat (first | apply Kd.R_alloc | apply Kd.R_drewN | apply Kd.R_drew)); exact Kd.R_mono (Kd.R_far (p := ⟨gb1024, 1, none⟩) (Kd.R_far (p := ⟨gb1024, 0, none⟩) (Kd.R_types HO_13.out BK1024.out (by decide)) (fun _ hk => hk.2) (.slice Ao84 y1021.length co84)) (fun _ hk => hk.2) (.slice none 0 0)) (fun _ hk => trivial)⟩, ⟨by (with_reducible repeat (first | apply Kd.R_alloc | apply Kd.R_drewN | apply Kd.R_drew)); exact Kd.R_mono (Kd.R_far (p := ⟨gb1024, 1, none⟩) (Kd.R_far (p := ⟨gb1024, 0, none⟩) (Kd.R_types HO_982000.out BK1024.out (by decide)) (fun _ hk => hk.2) (.slice Ao84 y1021.length co84)) (fun _ hk => hk.2) (.slice none 0 0)) (fun _ hk => hk.1.2)⟩, ⟨by (with_reducible repeat (first | apply Kd.R_alloc | apply Kd.R_drewN | apply Kd.R_drew)); exact Kd.R_mono (Kd.R_far (p := ⟨gb1024, 1, none⟩) (Kd.R_far (p := ⟨gb1024, 0, none⟩) (Kd.R_types HO_982001.out BK1024.out (by decide)) (fun _ hk => hk.2) (.slice Ao84 y1021.length co84)) (fun _ hk => hk.2) (.slice none 0 0)) (fun _ hk => (by simp [Value.ownBlock]))⟩, ⟨by (with_reducible repeat (first | apply Kd.R_alloc | apply Kd.R_drewN | apply Kd.R_drew)); exact Kd.R_mono (Kd.R_far (p := ⟨gb1024, 1, none⟩) (Kd.R_far (p := ⟨gb1024, 0, none⟩) (Kd.R_types HO1023.out BK1024.out (by decide)) (fun _ hk => hk.2) (.slice Ao84 y1021.length co84)) (fun _ hk => hk.2) (.slice none 0 0)) (fun _ hk => hk.1)⟩, ⟨by first | exact Kd.R_nil _ _ _ _ _ | exact Kd.N_nil _ _ _ _ _ | exact Kd.V_nil _ _ _ _ _ | exact Kd.Q_nil _ _ _ _ _ | exact Kd.S_nil _ _ _ _ _⟩, ⟨sqX⟩, ⟨sqX⟩, ⟨by (with_reducible repeat (first | refine blk_drewN ?_ _ | refine blk_drew ?_ | refine blk_alloc ?_ _)); refine blk_put (cs := #[.slice Ao84 y1021.length co84, .slice none 0 0]) ?_ 1 _ rfl; (with_reducible repeat (first | refine blk_drewN ?_ _ | refine blk_drew ?_ | refine blk_alloc ?_ _)); refine blk_put (cs := #[.slice none 0 0, .slice none 0 0]) ?_ 0 _ rfl; (with_reducible repeat (first | refine blk_drewN ?_ _ | refine blk_drew ?_ | refine blk_alloc ?_ _)); exact BK1024.out⟩, ⟨sqB HB⟩⟩
             case round =>
              clear H'; try clear c77
              (try clear hcz82_0); (try clear hcz82_1); (try clear hcz88_0); (try clear hcz88_1); (try clear hfz82_0); (try clear hfz82_1); (try clear hfz88_0); (try clear hfz88_1); obtain ⟨x19_5, x1025001_5, u1025001, rfl, HA, HK5, HO_13, HO_982000, HO_982001, HO_1025000, HO_1025001, BK974, BK981, BK1024, HB⟩ := hrel
              cases gk with
              | zero => exact absurd HA.out (by simp [lw_WoolSpoilt.l2])
              | succ k5 =>
               have H := HA.out; clear HA; simp only [lw_WoolSpoilt.l2] at H
               by_cases c89 : x19_5 < (t992.length : Int)
               ·rw [if_pos c89] at H
                have c89b0 : decide (x19_5 < (t992.length : Int)) = true := decide_eq_true c89; clear c89; have H' := Aside0.mk H; clear H; have hnb90 := NB981_974.out; have hnc90 := NB974_981.out; have hnb91 := NB981_1024.out; have hnc91 := NB1024_981.out; have hcz92_0 := sqc0 BK981; have hcz92_1 := sqc1 BK981; have hfz92_0 := blk_frozen BK981.out 0; have hfz92_1 := blk_frozen BK981.out 1
                go_wp2
                go_loopg [20, 21] k5 (fun kq v20 v21 w' => ∃ (x20_6 : Bool) (x21_6 : Int), v20 = .bool x20_6 ∧ v21 = .int .i64 x21_6 ∧ Aside0 (lw_WoolSpoilt.l3 kq t1004 t1007 x17_3 x19_5 x20_6 x21_6 t989 t992 y1021 x1025001_5 = some r) ∧ Aside0 (kq ≤ k5) ∧ Aside0 (Kd.R (Kd.int .i64) 3 w' w.heap.size (fun _ => True) v1005 t1004) ∧ Aside0 (Kd.R k41 41 w' w.heap.size (fun k_ => some k_ ≠ ((.slice Ao84 y1021.length co84) : Value).ownBlock) (.slice Ao20 t989.length co20) t989) ∧ Aside0 (Kd.R k80 80 w' w.heap.size (fun k_ => some k_ ≠ (u1025001 : Value).ownBlock) (.slice Ao22 t992.length co22) t992) ∧ Aside0 (Kd.R k41 41 w' w.heap.size (fun k_ => some k_ ≠ ((.slice Ao20 t989.length co20) : Value).ownBlock) (.slice Ao84 y1021.length co84) y1021) ∧ Aside0 (Kd.R k80 80 w' w.heap.size (fun k_ => some k_ ≠ ((.slice Ao22 t992.length co22) : Value).ownBlock) u1025001 x1025001_5) ∧ Aside0 (w'.heap[gb974]? = some (.cells #[(.slice A0_0 l0_0.length c0_0), .int .u16 a0_1, (.slice A0_2 l0_2.length c0_2), (.slice A0_3 l0_3.length c0_3)] 69 (0, 0))) ∧ Aside0 (w'.heap[gb981]? = some (.cells #[(.slice Ao20 t989.length co20), (.slice Ao22 t992.length co22)] 25 (0, 0))) ∧ Aside0 (w'.heap[gb1024]? = some (.cells #[(.slice Ao84 y1021.length co84), u1025001] 25 (0, 0))) ∧ Aside0 (Below w.heap.size w w'))
                case atStart => exact ⟨(false), (0), sqE, sqE, H', ⟨Nat.le_refl _⟩, ⟨sqR HO_13⟩, ⟨sqR HO_982000⟩, ⟨sqR HO_982001⟩, ⟨sqR HO_1025000⟩, ⟨sqR HO_1025001⟩, ⟨sqK BK974⟩, ⟨sqK BK981⟩, ⟨sqK BK1024⟩, ⟨sqB HB⟩⟩
                case round =>
                 clear H'; try clear c89b0
                 (try clear hcz92_0); (try clear hcz92_1); (try clear hfz92_0); (try clear hfz92_1); obtain ⟨x20_6, x21_6, rfl, rfl, HA, HK6, HO_13, HO_982000, HO_982001, HO_1025000, HO_1025001, BK974, BK981, BK1024, HB⟩ := hrel
                 cases gk with
                 | zero => exact absurd HA.out (by simp [lw_WoolSpoilt.l3])
                 | succ k6 =>
                  have H := HA.out; clear HA; simp only [lw_WoolSpoilt.l3] at H
                  by_cases c93 : x21_6 < (t1004.length : Int)
                  ·rw [if_pos c93] at H
                   have c93b0 : decide (x21_6 < (t1004.length : Int)) = true := decide_eq_true c93; clear c93
                   by_cases c94 : x20_6 = true
                   ·subst c94
                    rw [if_pos rfl] at H; have H' := Aside0.mk H; clear H; obtain ⟨Ao95, co95, eo95⟩ := Kd.R_slice HO_13.out; subst eo95
                    go_wp2
                    go_roundg k6
                    case measure => have := HK1.out; have := HJ50.out; have := HK3.out; have := HJ72.out; have := HK5.out; have := HK6.out; omega
                    case rel => exact ⟨(true), (wrap64 (x21_6 + 1)), sqE, sqE, H', ⟨by have := HK1.out; have := HJ50.out; have := HK3.out; have := HJ72.out; have := HK5.out; have := HK6.out; omega⟩, ⟨sqR HO_13⟩, ⟨sqR HO_982000⟩, ⟨sqR HO_982001⟩, ⟨sqR HO_1025000⟩, ⟨sqR HO_1025001⟩, ⟨sqK BK974⟩, ⟨sqK BK981⟩, ⟨sqK BK1024⟩, ⟨sqB HB⟩⟩
                   ·replace c94 := Bool.eq_false_iff.mpr c94
                    subst c94; rw [if_neg Bool.false_ne_true] at H
                    by_cases c96 : 0 ≤ x21_6
                    ·rw [if_pos c96] at H
                     have c96b0 : decide (0 ≤ x21_6) = true := decide_eq_true c96; clear c96
                     by_cases c97 : (rd t1004 x21_6) = x19_5
                     ·rw [if_pos c97] at H
                      have c97b0 : ((rd t1004 x21_6) == x19_5) = true := beq_iff_eq.mpr c97; have c97b1 : ((rd t1004 x21_6) != x19_5) = false := bne_eq_false_iff_eq.mpr c97; clear c97; have H' := Aside0.mk H; clear H; obtain ⟨Ao98, co98, eo98⟩ := Kd.R_slice HO_13.out; subst eo98; have p1029 : 0 ≤ (x21_6 : Int) := sqD; have q1029 : x21_6 < (t1004.length : Int) := sqD; obtain ⟨ad1029, e1029, hx1029_0⟩ := Kd.at_int (Kd.R_reads' HO_13.out).2.2 x21_6 p1029 q1029
                      cases e1029
                      replace p1029 := eq_true p1029; replace q1029 := eq_true q1029
                      go_wp2
                      go_roundg k6
                      case measure => have := HK1.out; have := HJ50.out; have := HK3.out; have := HJ72.out; have := HK5.out; have := HK6.out; omega
                      case rel => exact ⟨((x21_6 != x17_3)), (wrap64 (x21_6 + 1)), sqE, sqE, H', ⟨by have := HK1.out; have := HJ50.out; have := HK3.out; have := HJ72.out; have := HK5.out; have := HK6.out; omega⟩, ⟨sqR HO_13⟩, ⟨sqR HO_982000⟩, ⟨sqR HO_982001⟩, ⟨sqR HO_1025000⟩, ⟨sqR HO_1025001⟩, ⟨sqK BK974⟩, ⟨sqK BK981⟩, ⟨sqK BK1024⟩, ⟨sqB HB⟩⟩
                     ·rw [if_neg c97] at H
                      have c97b0 : ((rd t1004 x21_6) == x19_5) = false := beq_eq_false_iff_ne.mpr c97; have c97b1 : ((rd t1004 x21_6) != x19_5) = true := bne_iff_ne.mpr c97; have H' := Aside0.mk H; clear H; obtain ⟨Ao99, co99, eo99⟩ := Kd.R_slice HO_13.out; subst eo99; have p1029 : 0 ≤ (x21_6 : Int) := sqD; have q1029 : x21_6 < (t1004.length : Int) := sqD; obtain ⟨ad1029, e1029, hx1029_0⟩ := Kd.at_int (Kd.R_reads' HO_13.out).2.2 x21_6 p1029 q1029
                      cases e1029
                      replace p1029 := eq_true p1029; replace q1029 := eq_true q1029
                      go_wp2
                      go_roundg k6
                      case measure => have := HK1.out; have := HJ50.out; have := HK3.out; have := HJ72.out; have := HK5.out; have := HK6.out; omega
                      case rel => exact ⟨(false), (wrap64 (x21_6 + 1)), sqE, sqE, H', ⟨by have := HK1.out; have := HJ50.out; have := HK3.out; have := HJ72.out; have := HK5.out; have := HK6.out; omega⟩, ⟨sqR HO_13⟩, ⟨sqR HO_982000⟩, ⟨sqR HO_982001⟩, ⟨sqR HO_1025000⟩, ⟨sqR HO_1025001⟩, ⟨sqK BK974⟩, ⟨sqK BK981⟩, ⟨sqK BK1024⟩, ⟨sqB HB⟩⟩
                    ·rw [if_neg c96] at H
                     exact absurd H (by simp)
                  ·rw [if_neg c93] at H
                   have c93b0 : decide (x21_6 < (t1004.length : Int)) = false := decide_eq_false c93; clear c93
                   by_cases c100 : x20_6 = true
                   ·subst c100
                    rw [if_pos rfl] at H; have H' := Aside0.mk H; clear H; obtain ⟨Ao101, co101, eo101⟩ := Kd.R_slice HO_13.out; subst eo101
                    go_wp2
                    go_roundg k6
                    case measure => have := HK1.out; have := HJ50.out; have := HK3.out; have := HJ72.out; have := HK5.out; have := HK6.out; omega
                    case rel => exact ⟨(wrap64 (x19_5 + 1)), (x1025001_5), (u1025001), sqE, H', ⟨by have := HK1.out; have := HJ50.out; have := HK3.out; have := HJ72.out; have := HK5.out; have := HK6.out; omega⟩, ⟨sqR HO_13⟩, ⟨sqR HO_982000⟩, ⟨sqR HO_982001⟩, ⟨sqR HO_1025000⟩, ⟨sqR HO_1025001⟩, ⟨sqK BK974⟩, ⟨sqK BK981⟩, ⟨sqK BK1024⟩, ⟨sqB HB⟩⟩
                   ·replace c100 := Bool.eq_false_iff.mpr c100
                    subst c100; rw [if_neg Bool.false_ne_true] at H
                    by_cases c102 : 0 ≤ x19_5
                    ·rw [if_pos c102] at H
                     have c102b0 : decide (0 ≤ x19_5) = true := decide_eq_true c102; clear c102
                     by_cases c103 : x19_5 < (t992.length : Int)
                     ·rw [if_pos c103] at H
                      have c103b0 : decide (x19_5 < (t992.length : Int)) = true := decide_eq_true c103; clear c103
                      by_cases c104 : x1025001_5.length < 5864062014805
                      ·rw [if_pos c104] at H
                       have LMc104 := Aside0.mk c104; clear c104; replace H : ∃ y_ : List (S80), y_ = (x1025001_5 ++ [(⟨(rd_T80 t992 x19_5).f0, (rd_T80 t992 x19_5).f1, (rd_T80 t992 x19_5).f2⟩ : S80)]) ∧ (lw_WoolSpoilt.l2 k6 t1004 t1007 x17_3 (wrap64 (x19_5 + 1)) t989 t992 y1021 y_) = some r := ⟨_, rfl, sqJ H⟩; obtain ⟨y1031, hy1031, H⟩ := H; have Ny1031 := Aside0.mk hy1031; clear hy1031; have H' := Aside0.mk H; clear H; obtain ⟨Ao105, co105, eo105⟩ := Kd.R_slice HO_13.out; subst eo105
                       try go_wp2
                       have n0_ := Aside0.mk (Kd.R_drew HO_13.out); have n1_ := Aside0.mk (Kd.R_drew HO_982000.out); have n2_ := Aside0.mk (Kd.R_drew HO_982001.out); have n3_ := Aside0.mk (Kd.R_drew HO_1025000.out); have n4_ := Aside0.mk (Kd.R_drew HO_1025001.out); have n5_ := Aside0.mk (blk_drew BK974.out); have n6_ := Aside0.mk (blk_drew BK981.out); have n7_ := Aside0.mk (blk_drew BK1024.out); have n8_ := Aside0.mk (below_drew1 HB.out); clear HO_13 HO_982000 HO_982001 HO_1025000 HO_1025001 BK974 BK981 BK1024 HB; have HO_13 := n0_; have HO_982000 := n1_; have HO_982001 := n2_; have HO_1025000 := n3_; have HO_1025001 := n4_; have BK974 := n5_; have BK981 := n6_; have BK1024 := n7_; have HB := n8_; clear n0_ n1_ n2_ n3_ n4_ n5_ n6_ n7_ n8_; have p1030 : 0 ≤ (x19_5 : Int) := sqD; have q1030 : x19_5 < (t992.length : Int) := sqD; obtain ⟨ad1030, e1030, hx1030_0, hx1030_1, hx1030_2⟩ := at_T80 (Kd.R_reads' HO_982001.out).2.2 x19_5 p1030 q1030
                       cases e1030
                       replace p1030 := eq_true p1030; replace q1030 := eq_true q1030; refine start_ (n := 11) (S := fun w' => w'.cell? ⟨gb1024, 0, none⟩ = some (.slice Ao84 y1021.length co84) ∧ w'.cell? ⟨gb1024, 1, none⟩ = some (u1025001) ∧ w'.cell? ⟨gb981, 0, none⟩ = some (.slice Ao20 t989.length co20) ∧ w'.cell? ⟨gb981, 1, none⟩ = some (.slice (some ad1030) t992.length co22) ∧ w'.cell? (ad1030.add ((x19_5).toNat * 3)) = some (.int .i64 ((rd_T80 t992 x19_5).f0)) ∧ w'.cell? ⟨(ad1030.add ((x19_5).toNat * 3)).block, (ad1030.add ((x19_5).toNat * 3)).off + 1, none⟩ = some (.int .i64 ((rd_T80 t992 x19_5).f1)) ∧ w'.cell? ⟨(ad1030.add ((x19_5).toNat * 3)).block, (ad1030.add ((x19_5).toNat * 3)).off + 2, none⟩ = some (.int .i64 ((rd_T80 t992 x19_5).f2))) (ds := [8, 10]) (bm 11 0) sqF rfl rfl ⟨(blk_cell BK1024.out 0).trans rfl, (blk_cell BK1024.out 1).trans rfl, (blk_cell BK981.out 0).trans rfl, (blk_cell BK981.out 1).trans rfl, hx1030_0, hx1030_1, hx1030_2⟩ (fun hHeld => ?_); refine with_tabW lw_WoolSpoilt.tab29 lw_WoolSpoilt.bits29 (fun HT_ HW_ => ?_)
                       generalize wr.drew = w106 at HO_13 HO_982000 HO_982001 HO_1025000 HO_1025001 BK974 BK981 BK1024 HB hx1030_0 hx1030_1 hx1030_2 hHeld ⊢
                       refine pure_ (i := 0) (N := some 157) (v := ?_) (a' := ?_) (bm 11 1) rfl rfl (any_of HT_.out sqF) (fun _ _ _ h => h) (Or.inl ⟨by rfl, ?_⟩) ?_ ?_; rotate_left; intro w'; go_simp; (with_reducible rfl); rotate_left; simp only [Act.put, sqA, i64_w, i32_w]; rfl; refine pure_ (i := 2) (N := some 159) (v := ?_) (a' := ?_) (bm 11 5) rfl rfl (any_of HT_.out sqF) (fun _ _ _ h => h) (Or.inl ⟨by rfl, ?_⟩) ?_ ?_; rotate_left; intro w'; go_simp; (with_reducible rfl); rotate_left; simp only [Act.put, sqA, i64_w, i32_w]; rfl; refine pure_ (i := 4) (N := some 161) (v := ?_) (a' := ?_) (bm 11 21) rfl rfl (any_of HT_.out sqF) (fun _ _ _ h => h) (Or.inl ⟨by rfl, ?_⟩) ?_ ?_; rotate_left; intro w'; go_simp; (with_reducible rfl); rotate_left; simp only [Act.put, sqA, i64_w, i32_w]; rfl; refine take_ (i := 1) (N := some 158) (v := ?_) (a' := ?_) (bm 11 23) rfl rfl (take_ofW HT_.out HW_.out sqF) (fun _ _ _ h => h) (Or.inl ⟨by rfl, ?_⟩) hHeld ?_ ?_; rotate_left; rintro w' ⟨s0, s1, s2, s3, s4, s5, s6⟩; go_simp; (with_reducible rfl); rotate_left; simp only [Act.put, sqA, i64_w, i32_w]; rfl; refine take_ (i := 3) (N := some 160) (v := ?_) (a' := ?_) (bm 11 31) rfl rfl (take_ofW HT_.out HW_.out sqF) (fun _ _ _ h => h) (Or.inl ⟨by rfl, ?_⟩) hHeld ?_ ?_; rotate_left; rintro w' ⟨s0, s1, s2, s3, s4, s5, s6⟩; go_simp; (with_reducible rfl); rotate_left; simp only [Act.put, sqA, i64_w, i32_w]; rfl; refine pure_ (i := 5) (N := some 162) (v := ?_) (a' := ?_) (bm 11 63) rfl rfl (any_of HT_.out sqF) (fun _ _ _ h => h) (Or.inl ⟨by rfl, ?_⟩) ?_ ?_; rotate_left; intro w'; go_simp; (with_reducible rfl); rotate_left; simp only [Act.put, sqA, i64_w, i32_w]; rfl; refine take_ (i := 6) (N := some 163) (v := ?_) (a' := ?_) (bm 11 127) rfl rfl (take_ofW HT_.out HW_.out sqF) (fun _ _ _ h => h) (Or.inl ⟨by rfl, ?_⟩) hHeld ?_ ?_; rotate_left; rintro w' ⟨s0, s1, s2, s3, s4, s5, s6⟩; go_simp; (with_reducible rfl); rotate_left; simp only [Act.put, sqA, i64_w, i32_w]; rfl
                       refine one_ (i := 7) (N := some 164) (bm 11 255) rfl rfl (one_of HT_.out sqF) (by decide) (fun K hK => ?_); refine value_ (w1 := ?_) (v := ?_) (by rfl) rfl ?_ ?_
                       rotate_left 2
                       ·go_simp
                        constructor
                        ·rfl
                        ·rfl
                       refine hK.out _ _ ⟨(blk_cell (blk_alloc BK1024.out _) 0).trans rfl, (blk_cell (blk_alloc BK1024.out _) 1).trans rfl, (blk_cell (blk_alloc BK981.out _) 0).trans rfl, (blk_cell (blk_alloc BK981.out _) 1).trans rfl, (World.cell?_alloc_lt _ _ _ (World.block_lt_of_cell? _ _ (hHeld.2.2.2.2.1))).trans (hHeld.2.2.2.2.1), (World.cell?_alloc_lt _ _ _ (World.block_lt_of_cell? _ _ (hHeld.2.2.2.2.2.1))).trans (hHeld.2.2.2.2.2.1), (World.cell?_alloc_lt _ _ _ (World.block_lt_of_cell? _ _ (hHeld.2.2.2.2.2.2))).trans (hHeld.2.2.2.2.2.2)⟩ (fun hHeld => ?_); clear hK K; refine norm_ (a' := ?_) ?_ ?_
                       rotate_left
                       ·show Act.put _ (some 164) _ = _
                        simp only [Act.put, sqA, i64_w, i32_w]; rfl
                       refine last_ (i := 8) (N := some 165) (bm 11 511) rfl rfl (one_of HT_.out sqF) (by decide) (fun K hK => ?_); refine Kd.R_append_step k80 (w0 := w) w.heap.size (by rfl) (.tmp 158) (.tmp 164) 23 80 (.agg #[(.int .i64 0), (.int .i64 0), (.int .i64 0)]) 24 rfl Tryd.underlying23 info80 rfl (by decide) (by omega) u1025001 x1025001_5 (⟨(rd_T80 t992 x19_5).f0, (rd_T80 t992 x19_5).f1, (rd_T80 t992 x19_5).f2⟩ : S80) [.int .i64 ((rd_T80 t992 x19_5).f0), .int .i64 ((rd_T80 t992 x19_5).f1), .int .i64 ((rd_T80 t992 x19_5).f2)] (fun k_ => some k_ ≠ (.slice (some ad1030) t992.length co22 : Value).ownBlock) (fun _ => False) rfl rfl ?aP (fun _ hk => hk.elim) ?aF ?aO ?aB ?aS ?aL ?_
                       (case aP => exact k80_mkM _ _ _ (⟨(rd_T80 t992 x19_5).f0, (rd_T80 t992 x19_5).f1, (rd_T80 t992 x19_5).f2⟩ : S80))
                       (case aB => exact (sqB HB))
                       (case aF => exact (fun k_ hk => Kd.fresh' (Kd.R_lt (sqR HO_982001)) k_ hk))
                       (case aO => exact (sqR HO_1025001))
                       (case aS => exact (below_size (sqB HB)))
                       (case aL => have := LMc104.out; omega)
                       intro v1032 w107 ho hb hg hat; rw [← Ny1031.out] at ho; have n0_ := Aside0.mk (Kd.R_over' (sqR HO_13) (Kd.R_typed (sqR HO_1025001)) (by decide) hg); have n1_ := Aside0.mk (Kd.R_over' (sqR HO_982000) (Kd.R_typed (sqR HO_1025001)) (by decide) hg); have n2_ := Aside0.mk (Kd.R_after (ok := (fun _ => True)) (by (with_reducible repeat (first | apply Kd.R_alloc | apply Kd.R_drewN | apply Kd.R_drew)); exact Kd.R_mono HO_982001.out (fun _ hk => ⟨trivial, hk⟩)) hg hat); have n3_ := Aside0.mk (Kd.R_over' (sqR HO_1025000) (Kd.R_typed (sqR HO_1025001)) (by decide) hg); have n4_ := Aside0.mk (blk_grown (g := gb974) (o := .cells #[.slice A0_0 l0_0.length c0_0, .int .u16 a0_1, .slice A0_2 l0_2.length c0_2, .slice A0_3 l0_3.length c0_3] 69 (0, 0)) (sqK BK974) hg (Kd.R_ne HO_1025001.out BK974.out (by decide))); have n5_ := Aside0.mk (blk_grown (g := gb981) (o := .cells #[.slice Ao20 t989.length co20, .slice (some ad1030) t992.length co22] 25 (0, 0)) (sqK BK981) hg (Kd.R_ne HO_1025001.out BK981.out (by decide))); have n6_ := Aside0.mk (blk_grown (g := gb1024) (o := .cells #[.slice Ao84 y1021.length co84, u1025001] 25 (0, 0)) (sqK BK1024) hg (Kd.R_ne HO_1025001.out BK1024.out (by decide))); have n7_ := Aside0.mk (hb); have n8_ := Aside0.mk (ho); clear HO_13 HO_982000 HO_982001 HO_1025000 BK974 BK981 BK1024 HB HO_1025001; have HO_13 := n0_; have HO_982000 := n1_; have HO_982001 := n2_; have HO_1025000 := n3_; have BK974 := n4_; have BK981 := n5_; have BK1024 := n6_; have HB := n7_; have HO1033 := n8_; clear n0_ n1_ n2_ n3_ n4_ n5_ n6_ n7_ n8_ ho hb hg hat; obtain ⟨Ao108, co108, eo108⟩ := Kd.R_slice HO1033.out
                       (first | subst eo108 | (injection eo108 with f1_ f2_ f3_; have f4_ := f1_.symm; have f5_ := f3_.symm; clear f1_ f2_ f3_; subst f4_; subst f5_))
                       refine hK.out _ _ ?_; clear hK K; refine norm_ (a' := ?_) ?_ ?_
                       rotate_left
                       ·show Act.put _ (some 165) _ = _
                        simp only [Act.put, sqA, i64_w, i32_w]; rfl
                       refine pure_ (i := 9) (N := some 166) (v := ?_) (a' := ?_) (bm 11 1023) rfl rfl (any_of HT_.out sqF) (fun _ _ _ h => h) (Or.inl ⟨by rfl, ?_⟩) ?_ ?_; rotate_left; intro w'; go_simp; (with_reducible rfl); rotate_left; simp only [Act.put, sqA, i64_w, i32_w]; rfl
                       refine last_ (i := 10) (N := none) (bm 11 2047) rfl rfl (one_of HT_.out sqF) (by decide) (fun K hK => ?_); have hs109 : w107.cell? ⟨gb1024, 1, none⟩ = some (u1025001) := (blk_cell BK1024.out 1).trans rfl; have hfs109 := blk_frozen BK1024.out 1; have hns109_0 := NB974_1024.out; have hns109_1 := NB981_1024.out; have hms109_0 := NB1024_974.out; have hms109_1 := NB1024_981.out; refine skip_ (w1 := ?_) (by rfl) rfl ?_ ?_
                       rotate_left
                       ·go_simp
                        rfl
                       refine hK.out _ _ ?_; clear hK K; refine done_ (done_of HT_.out sqF) ?_
                       try go_wp2
                       go_roundg k6
                       case measure => have := HK1.out; have := HJ50.out; have := HK3.out; have := HJ72.out; have := HK5.out; have := HK6.out; omega
                       case rel => exact ⟨(wrap64 (x19_5 + 1)), (y1031), (.slice Ao108 y1031.length co108), sqE, H', ⟨by have := HK1.out; have := HJ50.out; have := HK3.out; have := HJ72.out; have := HK5.out; have := HK6.out; omega⟩, ⟨by (with_reducible repeat (first | apply Kd.R_alloc | apply Kd.R_drewN | apply Kd.R_drew)); exact Kd.R_mono (Kd.R_far (p := ⟨gb1024, 1, none⟩) (Kd.R_types HO_13.out BK1024.out (by decide)) (fun _ hk => hk.2) (.slice Ao108 y1031.length co108)) (fun _ hk => trivial)⟩, ⟨by (with_reducible repeat (first | apply Kd.R_alloc | apply Kd.R_drewN | apply Kd.R_drew)); exact Kd.R_mono (Kd.R_far (p := ⟨gb1024, 1, none⟩) (Kd.R_types HO_982000.out BK1024.out (by decide)) (fun _ hk => hk.2) (.slice Ao108 y1031.length co108)) (fun _ hk => hk.1)⟩, ⟨by (with_reducible repeat (first | apply Kd.R_alloc | apply Kd.R_drewN | apply Kd.R_drew)); exact Kd.R_mono (Kd.R_far (p := ⟨gb1024, 1, none⟩) (Kd.R_types HO_982001.out BK1024.out (by decide)) (fun _ hk => hk.2) (.slice Ao108 y1031.length co108)) (fun _ hk => hk.1.2)⟩, ⟨by (with_reducible repeat (first | apply Kd.R_alloc | apply Kd.R_drewN | apply Kd.R_drew)); exact Kd.R_mono (Kd.R_far (p := ⟨gb1024, 1, none⟩) (Kd.R_types HO_1025000.out BK1024.out (by decide)) (fun _ hk => hk.2) (.slice Ao108 y1031.length co108)) (fun _ hk => hk.1)⟩, ⟨by (with_reducible repeat (first | apply Kd.R_alloc | apply Kd.R_drewN | apply Kd.R_drew)); exact Kd.R_mono (Kd.R_far (p := ⟨gb1024, 1, none⟩) (Kd.R_types HO1033.out BK1024.out (by decide)) (fun _ hk => hk.2) (.slice Ao108 y1031.length co108)) (fun _ hk => hk.1)⟩, ⟨sqX⟩, ⟨sqX⟩, ⟨by (with_reducible repeat (first | refine blk_drewN ?_ _ | refine blk_drew ?_ | refine blk_alloc ?_ _)); refine blk_put (cs := #[.slice Ao84 y1021.length co84, u1025001]) ?_ 1 _ rfl; (with_reducible repeat (first | refine blk_drewN ?_ _ | refine blk_drew ?_ | refine blk_alloc ?_ _)); exact BK1024.out⟩, ⟨sqB HB⟩⟩
                      ·rw [if_neg c104] at H
                       exact absurd H (by simp)
                     ·rw [if_neg c103] at H
                      exact absurd H (by simp)
                    ·rw [if_neg c102] at H
                     exact absurd H (by simp)
               ·rw [if_neg c89] at H
                have c89b0 : decide (x19_5 < (t992.length : Int)) = false := decide_eq_false c89; clear c89; obtain ⟨⟨t1025, t1028⟩, A1100, H⟩ := Option.bind_eq_some_iff.mp H; replace H : (if ((t1028 == 0) != (decide (x17_3 < 0))) = true then (none) else (lw_WoolSpoilt.l1 k5 t1004 t1007 (wrap64 (x17_3 + 1)) t989 t992)) = some r := H; have A110 := Aside0.mk A1100; clear A1100
                by_cases c111 : ((t1028 == 0) != (decide (x17_3 < 0))) = true
                ·rw [if_pos c111] at H
                 exact absurd H (by simp)
                ·rw [if_neg c111] at H
                 have c111b0 : ((t1028 == 0) != (decide (x17_3 < 0))) = false := by simpa using c111
                 (try (have c111b1 : decide ((t1028 == 0) = (decide (x17_3 < 0))) = true := by simpa using c111))
                 (try (have c111b2 : ((t1028 == 0) == (decide (x17_3 < 0))) = true := by simpa using c111))
                 clear c111; have H' := Aside0.mk H; clear H; have hnb112 := NB981_974.out; have hnc112 := NB974_981.out; have hnb113 := NB981_1024.out; have hnc113 := NB1024_981.out; have hcz114_0 := sqc0 BK981; have hcz114_1 := sqc1 BK981; have hfz114_0 := blk_frozen BK981.out 0; have hfz114_1 := blk_frozen BK981.out 1; have hnb115 := NB1024_974.out; have hnc115 := NB974_1024.out; have hcz116_0 := sqc0 BK1024; have hcz116_1 := sqc1 BK1024; have hfz116_0 := blk_frozen BK1024.out 0; have hfz116_1 := blk_frozen BK1024.out 1; obtain ⟨Ao117, co117, eo117⟩ := Kd.R_slice HO_1025001.out; subst eo117
                 go_wp2_with (first | ((with_reducible refine gate_callee (f := 20) rfl ?_); refine goesL_ (some 169) rfl rfl Tryd.func20 sqF rfl #[.agg #[.slice Ao84 y1021.length co84, .slice Ao117 x1025001_5.length co117]] rfl sqM ?_; (with_reducible refine (wool_Weights.calls _ _ y1021 _ _ x1025001_5 t1025 t1028 _ ?sideG ?side1 ?side2 ?side3 ?side4 A110.out).mono ?_); (case sideG => exact (Kd.C_below HGL.out (sqB HB))); (case side1 => repeat (first | exact (Kd.R_reads' HO_1025000.out).2.2 | (with_reducible refine Kd.C_alloc ?_ _) | (with_reducible refine Kd.C_drewN ?_ _) | (with_reducible refine Kd.C_drew ?_))); (case side2 => exact (Kd.R_reads' HO_1025000.out).2.1); (case side3 => repeat (first | exact (Kd.R_reads' HO_1025001.out).2.2 | (with_reducible refine Kd.C_alloc ?_ _) | (with_reducible refine Kd.C_drewN ?_ _) | (with_reducible refine Kd.C_drew ?_))); (case side4 => exact (Kd.R_reads' HO_1025001.out).2.1); rintro e w118 ⟨v1026, rfl, ho0, hb⟩; refine ⟨_, rfl, ?_⟩; replace HO_13 := Aside0.mk (Kd.R_below (sqR HO_13) hb); replace HO_982001 := Aside0.mk (Kd.R_below (sqR HO_982001) hb); replace HO_1025001 := Aside0.mk (Kd.R_below (sqR HO_1025001) hb); have HO1027 := Aside0.mk (Kd.R_lower (Kd.R_new' (Kd.R_new' ho0 (Kd.R_lt (sqR HO_982000))) (Kd.R_lt (sqR HO_1025000))) (below_size (sqB HB))); replace HO_982000 := Aside0.mk (Kd.R_elder' (sqR HO_982000) (Kd.R_base ho0) hb); replace HO_1025000 := Aside0.mk (Kd.R_elder' (sqR HO_1025000) (Kd.R_base ho0) hb); replace BK974 := sqk BK974 hb; replace BK981 := sqk BK981 hb; replace BK1024 := sqk BK1024 hb; replace HB := sqb hb HB; (try clear hb); (try clear hb2); (try clear hk); (try clear hi); (try clear ho0)))
                 go_roundg k5
                 case measure => have := HK1.out; have := HJ50.out; have := HK3.out; have := HJ72.out; have := HK5.out; omega
                 case rel => exact ⟨(wrap64 (x17_3 + 1)), sqE, H', ⟨by have := HK1.out; have := HJ50.out; have := HK3.out; have := HJ72.out; have := HK5.out; omega⟩, ⟨sqR HO_13⟩, ⟨by (with_reducible repeat (first | apply Kd.R_alloc | apply Kd.R_drewN | apply Kd.R_drew)); exact Kd.R_mono HO_982000.out (fun _ hk => trivial)⟩, ⟨by (with_reducible repeat (first | apply Kd.R_alloc | apply Kd.R_drewN | apply Kd.R_drew)); exact Kd.R_mono HO_982001.out (fun _ hk => trivial)⟩, ⟨sqK BK974⟩, ⟨sqK BK981⟩, ⟨sqB HB⟩⟩
            ·rw [if_neg c78] at H
             exact absurd H (by simp)
           ·replace c77 := Bool.eq_false_iff.mpr c77
            subst c77; rw [if_neg Bool.false_ne_true] at H; have H' := Aside0.mk H; clear H; go_wp2
            go_loopg [24] kj72 (fun kq v24 w' => ∃ (x24_5 : Int), v24 = .int .i64 x24_5 ∧ Aside0 (lw_WoolSpoilt.l4 kq t1004 x24_5 t989 t992 = some r) ∧ Aside0 (kq ≤ kj72) ∧ Aside0 (Kd.R (Kd.int .i64) 3 w' w.heap.size (fun _ => True) v1005 t1004) ∧ Aside0 (Kd.R k41 41 w' w.heap.size (fun _ => True) (.slice Ao20 t989.length co20) t989) ∧ Aside0 (Kd.R k80 80 w' w.heap.size (fun _ => True) (.slice Ao22 t992.length co22) t992) ∧ Aside0 (w'.heap[gb974]? = some (.cells #[(.slice A0_0 l0_0.length c0_0), .int .u16 a0_1, (.slice A0_2 l0_2.length c0_2), (.slice A0_3 l0_3.length c0_3)] 69 (0, 0))) ∧ Aside0 (w'.heap[gb981]? = some (.cells #[(.slice Ao20 t989.length co20), (.slice Ao22 t992.length co22)] 25 (0, 0))) ∧ Aside0 (Below w.heap.size w w'))
            case atStart => exact ⟨(0), sqE, H', ⟨Nat.le_refl _⟩, ⟨sqR HO_13⟩, ⟨sqR HO_982000⟩, ⟨sqR HO_982001⟩, ⟨sqK BK974⟩, ⟨sqK BK981⟩, ⟨sqB HB⟩⟩
            case round =>
             clear H'; try clear c77
             obtain ⟨x24_5, rfl, HA, HK5, HO_13, HO_982000, HO_982001, BK974, BK981, HB⟩ := hrel
             cases gk with
             | zero => exact absurd HA.out (by simp [lw_WoolSpoilt.l4])
             | succ k5 =>
              have H := HA.out; clear HA; simp only [lw_WoolSpoilt.l4] at H
              by_cases c119 : x24_5 < (t1004.length : Int)
              ·rw [if_pos c119] at H
               have c119b0 : decide (x24_5 < (t1004.length : Int)) = true := decide_eq_true c119; clear c119
               by_cases c120 : 0 ≤ x24_5
               ·rw [if_pos c120] at H
                have c120b0 : decide (0 ≤ x24_5) = true := decide_eq_true c120; clear c120
                by_cases c121 : (rd t1004 x24_5) < 0
                ·rw [if_pos c121] at H
                 exact absurd H (by simp)
                ·rw [if_neg c121] at H
                 have c121b0 : decide ((rd t1004 x24_5) < 0) = false := decide_eq_false c121; clear c121
                 by_cases c122 : (rd t1004 x24_5) ≥ (t992.length : Int)
                 ·rw [if_pos c122] at H
                  exact absurd H (by simp)
                 ·rw [if_neg c122] at H
                  have c122b0 : decide ((t992.length : Int) ≤ (rd t1004 x24_5)) = false := decide_eq_false c122; clear c122
                  by_cases c123 : x24_5 > 0
                  ·rw [if_pos c123] at H
                   have c123b0 : decide (0 < x24_5) = true := decide_eq_true c123; clear c123; obtain ⟨ji124, hji124⟩ : ∃ j_ : Int, (wrap64 (x24_5 - 1)) = j_ := ⟨_, rfl⟩
                   replace H : (if 0 ≤ (ji124) then (if (ji124) < (t1004.length : Int) then (if (rd t1004 x24_5) ≤ (rd t1004 (ji124)) then (none) else (lw_WoolSpoilt.l4 k5 t1004 (wrap64 (x24_5 + 1)) t989 t992)) else (none)) else (none)) = some r := by first | (rw [hji124] at H; exact H) | (simp only [hji124] at H ⊢; exact H)
                   have hji124w : (IntKind.i64.wrap (x24_5 - 1)) = ji124 := (i64_w _).trans hji124
                   by_cases c125 : 0 ≤ (ji124)
                   ·rw [if_pos c125] at H
                    have c125b0 : decide (0 ≤ (ji124)) = true := decide_eq_true c125; clear c125
                    by_cases c126 : (ji124) < (t1004.length : Int)
                    ·rw [if_pos c126] at H
                     have c126b0 : decide ((ji124) < (t1004.length : Int)) = true := decide_eq_true c126; clear c126
                     by_cases c127 : (rd t1004 x24_5) ≤ (rd t1004 (ji124))
                     ·rw [if_pos c127] at H
                      exact absurd H (by simp)
                     ·rw [if_neg c127] at H
                      have c127b0 : decide ((rd t1004 x24_5) ≤ (rd t1004 (ji124))) = false := decide_eq_false c127; clear c127; have H' := Aside0.mk H; clear H; obtain ⟨Ao128, co128, eo128⟩ := Kd.R_slice HO_13.out; subst eo128
                      try go_wp2
                      have n0_ := Aside0.mk (Kd.R_drew HO_13.out); have n1_ := Aside0.mk (Kd.R_drew HO_982000.out); have n2_ := Aside0.mk (Kd.R_drew HO_982001.out); have n3_ := Aside0.mk (blk_drew BK974.out); have n4_ := Aside0.mk (blk_drew BK981.out); have n5_ := Aside0.mk (below_drew1 HB.out); clear HO_13 HO_982000 HO_982001 BK974 BK981 HB; have HO_13 := n0_; have HO_982000 := n1_; have HO_982001 := n2_; have BK974 := n3_; have BK981 := n4_; have HB := n5_; clear n0_ n1_ n2_ n3_ n4_ n5_; have p1034 : 0 ≤ (x24_5 : Int) := sqD; have q1034 : x24_5 < (t1004.length : Int) := sqD; obtain ⟨ad1034, e1034, hx1034_0⟩ := Kd.at_int (Kd.R_reads' HO_13.out).2.2 x24_5 p1034 q1034
                      cases e1034
                      replace p1034 := eq_true p1034; replace q1034 := eq_true q1034; have p1035 : 0 ≤ (x24_5 : Int) := sqD; have q1035 : x24_5 < (t1004.length : Int) := sqD; obtain ⟨ad1035, e1035, hx1035_0⟩ := Kd.at_int (Kd.R_reads' HO_13.out).2.2 x24_5 p1035 q1035; obtain rfl : ad1034 = ad1035 := (by injection e1035); replace p1035 := eq_true p1035; replace q1035 := eq_true q1035; have p1036 : 0 ≤ (x24_5 : Int) := sqD; have q1036 : x24_5 < (t1004.length : Int) := sqD; obtain ⟨ad1036, e1036, hx1036_0⟩ := Kd.at_int (Kd.R_reads' HO_13.out).2.2 x24_5 p1036 q1036; obtain rfl : ad1034 = ad1036 := (by injection e1036); replace p1036 := eq_true p1036; replace q1036 := eq_true q1036; have p1037 : 0 ≤ ((ji124) : Int) := sqD; have q1037 : (ji124) < (t1004.length : Int) := sqD; obtain ⟨ad1037, e1037, hx1037_0⟩ := Kd.at_int (Kd.R_reads' HO_13.out).2.2 (ji124) p1037 q1037; obtain rfl : ad1034 = ad1037 := (by injection e1037); replace p1037 := eq_true p1037; replace q1037 := eq_true q1037; refine start_ (n := 31) (S := fun w' => w'.cell? ⟨gb981, 0, none⟩ = some (.slice Ao20 t989.length co20) ∧ w'.cell? ⟨gb981, 1, none⟩ = some (.slice Ao22 t992.length co22) ∧ w'.cell? (ad1034.add (x24_5).toNat) = some (.int .i64 (rd t1004 x24_5)) ∧ w'.cell? (ad1034.add (x24_5).toNat) = some (.int .i64 (rd t1004 x24_5)) ∧ w'.cell? (ad1034.add (x24_5).toNat) = some (.int .i64 (rd t1004 x24_5)) ∧ w'.cell? (ad1034.add ((ji124)).toNat) = some (.int .i64 (rd t1004 (ji124)))) (ds := []) (bm 31 0) sqF rfl rfl ⟨(blk_cell BK981.out 0).trans rfl, (blk_cell BK981.out 1).trans rfl, hx1034_0, hx1035_0, hx1036_0, hx1037_0⟩ (fun hHeld => ?_); refine with_tabW lw_WoolSpoilt.tab36 lw_WoolSpoilt.bits36 (fun HT_ HW_ => ?_)
                      generalize wr.drew = w129 at HO_13 HO_982000 HO_982001 BK974 BK981 HB hx1034_0 hx1035_0 hx1036_0 hx1037_0 hHeld ⊢
                      refine pure_ (i := 0) (N := some 183) (v := ?_) (a' := ?_) (bm 31 1) rfl rfl (any_of HT_.out sqF) (fun _ _ _ h => h) (Or.inl ⟨by rfl, ?_⟩) ?_ ?_; rotate_left; intro w'; go_simp; (with_reducible rfl); rotate_left; simp only [Act.put, sqA, i64_w, i32_w]; rfl; refine pure_ (i := 1) (N := some 184) (v := ?_) (a' := ?_) (bm 31 3) rfl rfl (any_of HT_.out sqF) (fun _ _ _ h => h) (Or.inl ⟨by rfl, ?_⟩) ?_ ?_; rotate_left; intro w'; go_simp; (with_reducible rfl); rotate_left; simp only [Act.put, sqA, i64_w, i32_w]; rfl; refine pure_ (i := 2) (N := some 185) (v := ?_) (a' := ?_) (bm 31 7) rfl rfl (any_of HT_.out sqF) (fun _ _ _ h => h) (Or.inl ⟨by rfl, ?_⟩) ?_ ?_; rotate_left; intro w'; go_simp; (with_reducible rfl); rotate_left; simp only [Act.put, sqA, i64_w, i32_w]; rfl; refine take_ (i := 3) (N := some 186) (v := ?_) (a' := ?_) (bm 31 15) rfl rfl (take_ofW HT_.out HW_.out sqF) (fun _ _ _ h => h) (Or.inl ⟨by rfl, ?_⟩) hHeld ?_ ?_; rotate_left; rintro w' ⟨s0, s1, s2, s3, s4, s5⟩; go_simp; (with_reducible rfl); rotate_left; simp only [Act.put, sqA, i64_w, i32_w]; rfl; refine pure_ (i := 4) (N := some 187) (v := ?_) (a' := ?_) (bm 31 31) rfl rfl (any_of HT_.out sqF) (fun _ _ _ h => h) (Or.inl ⟨by rfl, ?_⟩) ?_ ?_; rotate_left; intro w'; go_simp; (with_reducible rfl); rotate_left; simp only [Act.put, sqA, i64_w, i32_w]; rfl; refine pure_ (i := 5) (N := some 188) (v := ?_) (a' := ?_) (bm 31 63) rfl rfl (any_of HT_.out sqF) (fun _ _ _ h => h) (Or.inl ⟨by rfl, ?_⟩) ?_ ?_; rotate_left; intro w'; go_simp; (with_reducible rfl); rotate_left; simp only [Act.put, sqA, i64_w, i32_w]; rfl; refine pure_ (i := 6) (N := some 189) (v := ?_) (a' := ?_) (bm 31 127) rfl rfl (any_of HT_.out sqF) (fun _ _ _ h => h) (Or.inl ⟨by rfl, ?_⟩) ?_ ?_; rotate_left; intro w'; go_simp; (with_reducible rfl); rotate_left; simp only [Act.put, sqA, i64_w, i32_w]; rfl; refine pure_ (i := 7) (N := some 190) (v := ?_) (a' := ?_) (bm 31 255) rfl rfl (any_of HT_.out sqF) (fun _ _ _ h => h) (Or.inl ⟨by rfl, ?_⟩) ?_ ?_; rotate_left; intro w'; go_simp; (with_reducible rfl); rotate_left; simp only [Act.put, sqA, i64_w, i32_w]; rfl; refine pure_ (i := 8) (N := some 191) (v := ?_) (a' := ?_) (bm 31 511) rfl rfl (any_of HT_.out sqF) (fun _ _ _ h => h) (Or.inl ⟨by rfl, ?_⟩) ?_ ?_; rotate_left; intro w'; go_simp; (with_reducible rfl); rotate_left; simp only [Act.put, sqA, i64_w, i32_w]; rfl; refine pure_ (i := 10) (N := some 193) (v := ?_) (a' := ?_) (bm 31 1535) rfl rfl (any_of HT_.out sqF) (fun _ _ _ h => h) (Or.inl ⟨by rfl, ?_⟩) ?_ ?_; rotate_left; intro w'; go_simp; (with_reducible rfl); rotate_left; simp only [Act.put, sqA, i64_w, i32_w]; rfl; refine take_ (i := 9) (N := some 192) (v := ?_) (a' := ?_) (bm 31 2047) rfl rfl (take_ofW HT_.out HW_.out sqF) (fun _ _ _ h => h) (Or.inl ⟨by rfl, ?_⟩) hHeld ?_ ?_; rotate_left; rintro w' ⟨s0, s1, s2, s3, s4, s5⟩; go_simp; (with_reducible rfl); rotate_left; simp only [Act.put, sqA, i64_w, i32_w]; rfl; refine take_ (i := 11) (N := some 194) (v := ?_) (a' := ?_) (bm 31 4095) rfl rfl (take_ofW HT_.out HW_.out sqF) (fun _ _ _ h => h) (Or.inl ⟨by rfl, ?_⟩) hHeld ?_ ?_; rotate_left; rintro w' ⟨s0, s1, s2, s3, s4, s5⟩; go_simp; (with_reducible rfl); rotate_left; simp only [Act.put, sqA, i64_w, i32_w]; rfl
                      refine pure_ (i := 12) (N := some 195) (v := ?_) (a' := ?_) (bm 31 8191) rfl rfl (any_of HT_.out sqF) (fun _ _ _ h => h) (Or.inl ⟨by rfl, ?_⟩) ?_ ?_; rotate_left; intro w'; go_simp; (with_reducible rfl); rotate_left; simp only [Act.put, sqA, i64_w, i32_w]; rfl; refine pure_ (i := 13) (N := some 196) (v := ?_) (a' := ?_) (bm 31 16383) rfl rfl (any_of HT_.out sqF) (fun _ _ _ h => h) (Or.inl ⟨by rfl, ?_⟩) ?_ ?_; rotate_left; intro w'; go_simp; (with_reducible rfl); rotate_left; simp only [Act.put, sqA, i64_w, i32_w]; rfl; refine pure_ (i := 14) (N := some 197) (v := ?_) (a' := ?_) (bm 31 32767) rfl rfl (any_of HT_.out sqF) (fun _ _ _ h => h) (Or.inl ⟨by rfl, ?_⟩) ?_ ?_; rotate_left; intro w'; go_simp; (with_reducible rfl); rotate_left; simp only [Act.put, sqA, i64_w, i32_w]; rfl; refine pure_ (i := 15) (N := some 198) (v := ?_) (a' := ?_) (bm 31 65535) rfl rfl (any_of HT_.out sqF) (fun _ _ _ h => h) (Or.inl ⟨by rfl, ?_⟩) ?_ ?_; rotate_left; intro w'; go_simp; (with_reducible rfl); rotate_left; simp only [Act.put, sqA, i64_w, i32_w]; rfl; refine pure_ (i := 16) (N := some 199) (v := ?_) (a' := ?_) (bm 31 131071) rfl rfl (any_of HT_.out sqF) (fun _ _ _ h => h) (Or.inl ⟨by rfl, ?_⟩) ?_ ?_; rotate_left; intro w'; go_simp; (with_reducible rfl); rotate_left; simp only [Act.put, sqA, i64_w, i32_w]; rfl; refine pure_ (i := 17) (N := some 200) (v := ?_) (a' := ?_) (bm 31 262143) rfl rfl (any_of HT_.out sqF) (fun _ _ _ h => h) (Or.inl ⟨by rfl, ?_⟩) ?_ ?_; rotate_left; intro w'; go_simp; (with_reducible rfl); rotate_left; simp only [Act.put, sqA, i64_w, i32_w]; rfl; refine pure_ (i := 18) (N := some 201) (v := ?_) (a' := ?_) (bm 31 524287) rfl rfl (any_of HT_.out sqF) (fun _ _ _ h => h) (Or.inl ⟨by rfl, ?_⟩) ?_ ?_; rotate_left; intro w'; go_simp; (with_reducible rfl); rotate_left; simp only [Act.put, sqA, i64_w, i32_w]; rfl; refine pure_ (i := 19) (N := some 202) (v := ?_) (a' := ?_) (bm 31 1048575) rfl rfl (any_of HT_.out sqF) (fun _ _ _ h => h) (Or.inl ⟨by rfl, ?_⟩) ?_ ?_; rotate_left; intro w'; go_simp; (with_reducible rfl); rotate_left; simp only [Act.put, sqA, i64_w, i32_w]; rfl; refine pure_ (i := 20) (N := some 203) (v := ?_) (a' := ?_) (bm 31 2097151) rfl rfl (any_of HT_.out sqF) (fun _ _ _ h => h) (Or.inl ⟨by rfl, ?_⟩) ?_ ?_; rotate_left; intro w'; go_simp; (with_reducible rfl); rotate_left; simp only [Act.put, sqA, i64_w, i32_w]; rfl; refine pure_ (i := 21) (N := some 204) (v := ?_) (a' := ?_) (bm 31 4194303) rfl rfl (any_of HT_.out sqF) (fun _ _ _ h => h) (Or.inl ⟨by rfl, ?_⟩) ?_ ?_; rotate_left; intro w'; go_simp; (with_reducible rfl); rotate_left; simp only [Act.put, sqA, i64_w, i32_w]; rfl; refine pure_ (i := 23) (N := some 206) (v := ?_) (a' := ?_) (bm 31 12582911) rfl rfl (any_of HT_.out sqF) (fun _ _ _ h => h) (Or.inl ⟨by rfl, ?_⟩) ?_ ?_; rotate_left; intro w'; go_simp; (with_reducible rfl); rotate_left; simp only [Act.put, sqA, i64_w, i32_w]; rfl; refine pure_ (i := 24) (N := some 207) (v := ?_) (a' := ?_) (bm 31 29360127) rfl rfl (any_of HT_.out sqF) (fun _ _ _ h => h) (Or.inl ⟨by rfl, ?_⟩) ?_ ?_; rotate_left; intro w'; go_simp; (with_reducible rfl); rotate_left; simp only [Act.put, sqA, i64_w, i32_w]; rfl
                      refine pure_ (i := 25) (N := some 208) (v := ?_) (a' := ?_) (bm 31 62914559) rfl rfl (any_of HT_.out sqF) (fun _ _ _ h => h) (Or.inl ⟨by rfl, ?_⟩) ?_ ?_; rotate_left; intro w'; go_simp; (with_reducible rfl); rotate_left; simp only [Act.put, sqA, i64_w, i32_w]; rfl; refine pure_ (i := 26) (N := some 209) (v := ?_) (a' := ?_) (bm 31 130023423) rfl rfl (any_of HT_.out sqF) (fun _ _ _ h => h) (Or.inl ⟨by rfl, ?_⟩) ?_ ?_; rotate_left; intro w'; go_simp; (with_reducible rfl); rotate_left; simp only [Act.put, sqA, i64_w, i32_w]; rfl; refine take_ (i := 22) (N := some 205) (v := ?_) (a' := ?_) (bm 31 134217727) rfl rfl (take_ofW HT_.out HW_.out sqF) (fun _ _ _ h => h) (Or.inl ⟨by rfl, ?_⟩) hHeld ?_ ?_; rotate_left; rintro w' ⟨s0, s1, s2, s3, s4, s5⟩; go_simp; (with_reducible rfl); rotate_left; simp only [Act.put, sqA, i64_w, i32_w]; rfl; refine take_ (i := 27) (N := some 210) (v := ?_) (a' := ?_) (bm 31 268435455) rfl rfl (take_ofW HT_.out HW_.out sqF) (fun _ _ _ h => h) (Or.inl ⟨by rfl, ?_⟩) hHeld ?_ ?_; rotate_left; rintro w' ⟨s0, s1, s2, s3, s4, s5⟩; go_simp; (with_reducible rfl); rotate_left; simp only [Act.put, sqA, i64_w, i32_w]; rfl; refine pure_ (i := 28) (N := some 211) (v := ?_) (a' := ?_) (bm 31 536870911) rfl rfl (any_of HT_.out sqF) (fun _ _ _ h => h) (Or.inl ⟨by rfl, ?_⟩) ?_ ?_; rotate_left; intro w'; go_simp; (with_reducible rfl); rotate_left; simp only [Act.put, sqA, i64_w, i32_w]; rfl; refine pure_ (i := 29) (N := some 212) (v := ?_) (a' := ?_) (bm 31 1073741823) rfl rfl (any_of HT_.out sqF) (fun _ _ _ h => h) (Or.inl ⟨by rfl, ?_⟩) ?_ ?_; rotate_left; intro w'; go_simp; (with_reducible rfl); rotate_left; simp only [Act.put, sqA, i64_w, i32_w]; rfl; refine pure_ (i := 30) (N := some 213) (v := ?_) (a' := ?_) (bm 31 2147483647) rfl rfl (any_of HT_.out sqF) (fun _ _ _ h => h) (Or.inl ⟨by rfl, ?_⟩) ?_ ?_; rotate_left; intro w'; go_simp; (with_reducible rfl); rotate_left; simp only [Act.put, sqA, i64_w, i32_w]; rfl
                      refine done_ (done_of HT_.out sqF) ?_
                      try go_wp2
                      go_roundg k5
                      case measure => have := HK1.out; have := HJ50.out; have := HK3.out; have := HJ72.out; have := HK5.out; omega
                      case rel => exact ⟨(wrap64 (x24_5 + 1)), sqE, H', ⟨by have := HK1.out; have := HJ50.out; have := HK3.out; have := HJ72.out; have := HK5.out; omega⟩, ⟨sqR HO_13⟩, ⟨sqR HO_982000⟩, ⟨sqR HO_982001⟩, ⟨sqK BK974⟩, ⟨sqK BK981⟩, ⟨sqB HB⟩⟩
                    ·rw [if_neg c126] at H
                     exact absurd H (by simp)
                   ·rw [if_neg c125] at H
                    exact absurd H (by simp)
                  ·rw [if_neg c123] at H
                   have c123b0 : decide (0 < x24_5) = false := decide_eq_false c123; clear c123; have H' := Aside0.mk H; clear H; obtain ⟨Ao130, co130, eo130⟩ := Kd.R_slice HO_13.out; subst eo130
                   try go_wp2
                   have n0_ := Aside0.mk (Kd.R_drew HO_13.out); have n1_ := Aside0.mk (Kd.R_drew HO_982000.out); have n2_ := Aside0.mk (Kd.R_drew HO_982001.out); have n3_ := Aside0.mk (blk_drew BK974.out); have n4_ := Aside0.mk (blk_drew BK981.out); have n5_ := Aside0.mk (below_drew1 HB.out); clear HO_13 HO_982000 HO_982001 BK974 BK981 HB; have HO_13 := n0_; have HO_982000 := n1_; have HO_982001 := n2_; have BK974 := n3_; have BK981 := n4_; have HB := n5_; clear n0_ n1_ n2_ n3_ n4_ n5_; have p1034 : 0 ≤ (x24_5 : Int) := sqD; have q1034 : x24_5 < (t1004.length : Int) := sqD; obtain ⟨ad1034, e1034, hx1034_0⟩ := Kd.at_int (Kd.R_reads' HO_13.out).2.2 x24_5 p1034 q1034
                   cases e1034
                   replace p1034 := eq_true p1034; replace q1034 := eq_true q1034; have p1035 : 0 ≤ (x24_5 : Int) := sqD; have q1035 : x24_5 < (t1004.length : Int) := sqD; obtain ⟨ad1035, e1035, hx1035_0⟩ := Kd.at_int (Kd.R_reads' HO_13.out).2.2 x24_5 p1035 q1035; obtain rfl : ad1034 = ad1035 := (by injection e1035); replace p1035 := eq_true p1035; replace q1035 := eq_true q1035; refine start_ (n := 31) (S := fun w' => w'.cell? ⟨gb981, 0, none⟩ = some (.slice Ao20 t989.length co20) ∧ w'.cell? ⟨gb981, 1, none⟩ = some (.slice Ao22 t992.length co22) ∧ w'.cell? (ad1034.add (x24_5).toNat) = some (.int .i64 (rd t1004 x24_5)) ∧ w'.cell? (ad1034.add (x24_5).toNat) = some (.int .i64 (rd t1004 x24_5))) (ds := []) (bm 31 0) sqF rfl rfl ⟨(blk_cell BK981.out 0).trans rfl, (blk_cell BK981.out 1).trans rfl, hx1034_0, hx1035_0⟩ (fun hHeld => ?_); refine with_tabW lw_WoolSpoilt.tab36 lw_WoolSpoilt.bits36 (fun HT_ HW_ => ?_)
                   generalize wr.drew = w131 at HO_13 HO_982000 HO_982001 BK974 BK981 HB hx1034_0 hx1035_0 hHeld ⊢
                   refine pure_ (i := 0) (N := some 183) (v := ?_) (a' := ?_) (bm 31 1) rfl rfl (any_of HT_.out sqF) (fun _ _ _ h => h) (Or.inl ⟨by rfl, ?_⟩) ?_ ?_; rotate_left; intro w'; go_simp; (with_reducible rfl); rotate_left; simp only [Act.put, sqA, i64_w, i32_w]; rfl; refine pure_ (i := 1) (N := some 184) (v := ?_) (a' := ?_) (bm 31 3) rfl rfl (any_of HT_.out sqF) (fun _ _ _ h => h) (Or.inl ⟨by rfl, ?_⟩) ?_ ?_; rotate_left; intro w'; go_simp; (with_reducible rfl); rotate_left; simp only [Act.put, sqA, i64_w, i32_w]; rfl; refine pure_ (i := 2) (N := some 185) (v := ?_) (a' := ?_) (bm 31 7) rfl rfl (any_of HT_.out sqF) (fun _ _ _ h => h) (Or.inl ⟨by rfl, ?_⟩) ?_ ?_; rotate_left; intro w'; go_simp; (with_reducible rfl); rotate_left; simp only [Act.put, sqA, i64_w, i32_w]; rfl; refine take_ (i := 3) (N := some 186) (v := ?_) (a' := ?_) (bm 31 15) rfl rfl (take_ofW HT_.out HW_.out sqF) (fun _ _ _ h => h) (Or.inl ⟨by rfl, ?_⟩) hHeld ?_ ?_; rotate_left; rintro w' ⟨s0, s1, s2, s3⟩; go_simp; (with_reducible rfl); rotate_left; simp only [Act.put, sqA, i64_w, i32_w]; rfl; refine pure_ (i := 4) (N := some 187) (v := ?_) (a' := ?_) (bm 31 31) rfl rfl (any_of HT_.out sqF) (fun _ _ _ h => h) (Or.inl ⟨by rfl, ?_⟩) ?_ ?_; rotate_left; intro w'; go_simp; (with_reducible rfl); rotate_left; simp only [Act.put, sqA, i64_w, i32_w]; rfl; refine pure_ (i := 5) (N := some 188) (v := ?_) (a' := ?_) (bm 31 63) rfl rfl (any_of HT_.out sqF) (fun _ _ _ h => h) (Or.inl ⟨by rfl, ?_⟩) ?_ ?_; rotate_left; intro w'; go_simp; (with_reducible rfl); rotate_left; simp only [Act.put, sqA, i64_w, i32_w]; rfl; refine pure_ (i := 6) (N := some 189) (v := ?_) (a' := ?_) (bm 31 127) rfl rfl (any_of HT_.out sqF) (fun _ _ _ h => h) (Or.inl ⟨by rfl, ?_⟩) ?_ ?_; rotate_left; intro w'; go_simp; (with_reducible rfl); rotate_left; simp only [Act.put, sqA, i64_w, i32_w]; rfl; refine pure_ (i := 7) (N := some 190) (v := ?_) (a' := ?_) (bm 31 255) rfl rfl (any_of HT_.out sqF) (fun _ _ _ h => h) (Or.inl ⟨by rfl, ?_⟩) ?_ ?_; rotate_left; intro w'; go_simp; (with_reducible rfl); rotate_left; simp only [Act.put, sqA, i64_w, i32_w]; rfl; refine pure_ (i := 8) (N := some 191) (v := ?_) (a' := ?_) (bm 31 511) rfl rfl (any_of HT_.out sqF) (fun _ _ _ h => h) (Or.inl ⟨by rfl, ?_⟩) ?_ ?_; rotate_left; intro w'; go_simp; (with_reducible rfl); rotate_left; simp only [Act.put, sqA, i64_w, i32_w]; rfl; refine pure_ (i := 10) (N := some 193) (v := ?_) (a' := ?_) (bm 31 1535) rfl rfl (any_of HT_.out sqF) (fun _ _ _ h => h) (Or.inl ⟨by rfl, ?_⟩) ?_ ?_; rotate_left; intro w'; go_simp; (with_reducible rfl); rotate_left; simp only [Act.put, sqA, i64_w, i32_w]; rfl; refine take_ (i := 9) (N := some 192) (v := ?_) (a' := ?_) (bm 31 2047) rfl rfl (take_ofW HT_.out HW_.out sqF) (fun _ _ _ h => h) (Or.inl ⟨by rfl, ?_⟩) hHeld ?_ ?_; rotate_left; rintro w' ⟨s0, s1, s2, s3⟩; go_simp; (with_reducible rfl); rotate_left; simp only [Act.put, sqA, i64_w, i32_w]; rfl; refine take_ (i := 11) (N := some 194) (v := ?_) (a' := ?_) (bm 31 4095) rfl rfl (take_ofW HT_.out HW_.out sqF) (fun _ _ _ h => h) (Or.inl ⟨by rfl, ?_⟩) hHeld ?_ ?_; rotate_left; rintro w' ⟨s0, s1, s2, s3⟩; go_simp; (with_reducible rfl); rotate_left; simp only [Act.put, sqA, i64_w, i32_w]; rfl
                   refine pure_ (i := 12) (N := some 195) (v := ?_) (a' := ?_) (bm 31 8191) rfl rfl (any_of HT_.out sqF) (fun _ _ _ h => h) (Or.inl ⟨by rfl, ?_⟩) ?_ ?_; rotate_left; intro w'; go_simp; (with_reducible rfl); rotate_left; simp only [Act.put, sqA, i64_w, i32_w]; rfl; refine pure_ (i := 13) (N := some 196) (v := ?_) (a' := ?_) (bm 31 16383) rfl rfl (any_of HT_.out sqF) (fun _ _ _ h => h) (Or.inl ⟨by rfl, ?_⟩) ?_ ?_; rotate_left; intro w'; go_simp; (with_reducible rfl); rotate_left; simp only [Act.put, sqA, i64_w, i32_w]; rfl; refine pure_ (i := 14) (N := some 197) (v := ?_) (a' := ?_) (bm 31 32767) rfl rfl (any_of HT_.out sqF) (fun _ _ _ h => h) (Or.inl ⟨by rfl, ?_⟩) ?_ ?_; rotate_left; intro w'; go_simp; (with_reducible rfl); rotate_left; simp only [Act.put, sqA, i64_w, i32_w]; rfl; refine pure_ (i := 15) (N := some 198) (v := ?_) (a' := ?_) (bm 31 65535) rfl rfl (any_of HT_.out sqF) (fun _ _ _ h => h) (Or.inl ⟨by rfl, ?_⟩) ?_ ?_; rotate_left; intro w'; go_simp; (with_reducible rfl); rotate_left; simp only [Act.put, sqA, i64_w, i32_w]; rfl; refine pure_ (i := 16) (N := some 199) (v := ?_) (a' := ?_) (bm 31 131071) rfl rfl (any_of HT_.out sqF) (fun _ _ _ h => h) (Or.inl ⟨by rfl, ?_⟩) ?_ ?_; rotate_left; intro w'; go_simp; (with_reducible rfl); rotate_left; simp only [Act.put, sqA, i64_w, i32_w]; rfl; refine pure_ (i := 17) (N := some 200) (v := ?_) (a' := ?_) (bm 31 262143) rfl rfl (any_of HT_.out sqF) (fun _ _ _ h => h) (Or.inl ⟨by rfl, ?_⟩) ?_ ?_; rotate_left; intro w'; go_simp; (with_reducible rfl); rotate_left; simp only [Act.put, sqA, i64_w, i32_w]; rfl; refine pure_ (i := 18) (N := some 201) (v := ?_) (a' := ?_) (bm 31 524287) rfl rfl (any_of HT_.out sqF) (fun _ _ _ h => h) (Or.inl ⟨by rfl, ?_⟩) ?_ ?_; rotate_left; intro w'; go_simp; (with_reducible rfl); rotate_left; simp only [Act.put, sqA, i64_w, i32_w]; rfl
                   refine pure_ (i := 19) (N := some 202) (v := undef) (a' := ?_) (bm 31 1048575) rfl rfl (any_of HT_.out sqF) (fun _ _ _ h => h) (Or.inr ⟨by rfl, rfl⟩) ?_ ?_
                   rotate_left
                   ·simp only [Act.put, sqA, i64_w, i32_w]; rfl
                   refine pure_ (i := 20) (N := some 203) (v := undef) (a' := ?_) (bm 31 2097151) rfl rfl (any_of HT_.out sqF) (fun _ _ _ h => h) (Or.inr ⟨by rfl, rfl⟩) ?_ ?_
                   rotate_left
                   ·simp only [Act.put, sqA, i64_w, i32_w]; rfl
                   refine pure_ (i := 21) (N := some 204) (v := undef) (a' := ?_) (bm 31 4194303) rfl rfl (any_of HT_.out sqF) (fun _ _ _ h => h) (Or.inr ⟨by rfl, rfl⟩) ?_ ?_
                   rotate_left
                   ·simp only [Act.put, sqA, i64_w, i32_w]; rfl
                   refine pure_ (i := 22) (N := some 205) (v := undef) (a' := ?_) (bm 31 8388607) rfl rfl (any_of HT_.out sqF) (fun _ _ _ h => h) (Or.inr ⟨by rfl, rfl⟩) ?_ ?_
                   rotate_left
                   ·simp only [Act.put, sqA, i64_w, i32_w]; rfl
                   refine pure_ (i := 23) (N := some 206) (v := undef) (a' := ?_) (bm 31 16777215) rfl rfl (any_of HT_.out sqF) (fun _ _ _ h => h) (Or.inr ⟨by rfl, rfl⟩) ?_ ?_
                   rotate_left
                   ·simp only [Act.put, sqA, i64_w, i32_w]; rfl
                   refine pure_ (i := 24) (N := some 207) (v := undef) (a' := ?_) (bm 31 33554431) rfl rfl (any_of HT_.out sqF) (fun _ _ _ h => h) (Or.inr ⟨by rfl, rfl⟩) ?_ ?_
                   rotate_left
                   ·simp only [Act.put, sqA, i64_w, i32_w]; rfl
                   refine pure_ (i := 25) (N := some 208) (v := undef) (a' := ?_) (bm 31 67108863) rfl rfl (any_of HT_.out sqF) (fun _ _ _ h => h) (Or.inr ⟨by rfl, rfl⟩) ?_ ?_
                   rotate_left
                   ·simp only [Act.put, sqA, i64_w, i32_w]; rfl
                   refine pure_ (i := 26) (N := some 209) (v := undef) (a' := ?_) (bm 31 134217727) rfl rfl (any_of HT_.out sqF) (fun _ _ _ h => h) (Or.inr ⟨by rfl, rfl⟩) ?_ ?_
                   rotate_left
                   ·simp only [Act.put, sqA, i64_w, i32_w]; rfl
                   refine pure_ (i := 27) (N := some 210) (v := undef) (a' := ?_) (bm 31 268435455) rfl rfl (any_of HT_.out sqF) (fun _ _ _ h => h) (Or.inr ⟨by rfl, rfl⟩) ?_ ?_
                   rotate_left
                   ·simp only [Act.put, sqA, i64_w, i32_w]; rfl
                   refine pure_ (i := 28) (N := some 211) (v := undef) (a' := ?_) (bm 31 536870911) rfl rfl (any_of HT_.out sqF) (fun _ _ _ h => h) (Or.inr ⟨by rfl, rfl⟩) ?_ ?_
                   rotate_left
                   ·simp only [Act.put, sqA, i64_w, i32_w]; rfl
                   refine pure_ (i := 29) (N := some 212) (v := ?_) (a' := ?_) (bm 31 1073741823) rfl rfl (any_of HT_.out sqF) (fun _ _ _ h => h) (Or.inl ⟨by rfl, ?_⟩) ?_ ?_; rotate_left; intro w'; go_simp; (with_reducible rfl); rotate_left; simp only [Act.put, sqA, i64_w, i32_w]; rfl; refine pure_ (i := 30) (N := some 213) (v := ?_) (a' := ?_) (bm 31 2147483647) rfl rfl (any_of HT_.out sqF) (fun _ _ _ h => h) (Or.inl ⟨by rfl, ?_⟩) ?_ ?_; rotate_left; intro w'; go_simp; (with_reducible rfl); rotate_left; simp only [Act.put, sqA, i64_w, i32_w]; rfl
                   refine done_ (done_of HT_.out sqF) ?_
                   try go_wp2
                   go_roundg k5
                   case measure => have := HK1.out; have := HJ50.out; have := HK3.out; have := HJ72.out; have := HK5.out; omega
                   case rel => exact ⟨(wrap64 (x24_5 + 1)), sqE, H', ⟨by have := HK1.out; have := HJ50.out; have := HK3.out; have := HJ72.out; have := HK5.out; omega⟩, ⟨sqR HO_13⟩, ⟨sqR HO_982000⟩, ⟨sqR HO_982001⟩, ⟨sqK BK974⟩, ⟨sqK BK981⟩, ⟨sqB HB⟩⟩
               ·rw [if_neg c120] at H
                exact absurd H (by simp)
              ·rw [if_neg c119] at H
               have c119b0 : decide (x24_5 < (t1004.length : Int)) = false := decide_eq_false c119; clear c119; obtain ⟨t1038, A1320, H⟩ := Option.bind_eq_some_iff.mp H; have A132 := Aside0.mk A1320; clear A1320; obtain rfl := Option.some.inj H; obtain ⟨Ao133, co133, eo133⟩ := Kd.R_slice HO_13.out; subst eo133
               go_wp2_with (first | ((with_reducible refine gate_callee (f := 17) rfl ?_); refine goesL_ (some 214) rfl rfl Tryd.func17 sqF rfl #[] rfl sqM ?_; (with_reducible refine (lw_known.calls t1038 _ ?sideG A132.out).mono ?_); (case sideG => exact (Kd.C_below HGL.out (sqB HB))); rintro e w134 ⟨rfl, hb⟩; refine ⟨_, rfl, ?_⟩; replace HO_13 := Aside0.mk (Kd.R_below (sqR HO_13) hb); replace HO_982000 := Aside0.mk (Kd.R_below (sqR HO_982000) hb); replace HO_982001 := Aside0.mk (Kd.R_below (sqR HO_982001) hb); replace BK974 := sqk BK974 hb; replace BK981 := sqk BK981 hb; replace HB := sqb hb HB; (try clear hb); (try clear hb2); (try clear hk); (try clear hi)))
               go_ret
               exact ⟨by first | rfl | (simp [errW_none, errW_some] <;> rfl) | (simp [*, errW_none, errW_some] <;> rfl), sqB HB⟩
end Go.Proofs.YtemingmeidmjkaaDoor.Q
namespace Go.Proofs.YtemingmeidmjkaaDoor.Rw
open Go.RowKit Go.Proofs.YtemingmeidmjkaaDoorW.PrintWords
set_option linter.unusedVariables false
set_option linter.unusedSimpArgs false
theorem add_two (a : Addr) (x y : Nat) : (a.add x).add y = a.add (x + y) := by
 unfold Addr.add
 by_cases h1 : x = 0
 ·subst h1; simp
 ·by_cases h2 : y = 0
  ·subst h2; simp
  ·have h3 : ¬ x + y = 0 := by omega
   simp [h1, h2, Nat.add_assoc]
structure Opens {α : Type} (P : Program) (t : TypeId) (d : Kd α) (good : α → Prop) : Prop where
 size : d.sz = P.cellsOf t
 read : ∀ {H : Type} {enc : TypeId × Value → H} {w : World} {base : Nat} {sp : Nat → Bool} {held : Bool} {fuel : Nat} {cs : List Value} {x : DataW H × List MemPlace}, DataW.trod enc P w base sp held fuel t cs = some x → ∃ y : α, d.K w y cs ∧ good y
theorem Opens.int {P : Program} {t : TypeId} {k : IntKind} (ht : P.underlying t = some (.int k)) (hc : 1 = P.cellsOf t) : Opens P t (Kd.int k) (fun n => (Lit.int k n).wf = true) := ⟨hc, fun h => by
 obtain ⟨n, rfl, rfl, hw⟩ := DataW.trod_int ht h
 exact ⟨n, rfl, hw⟩⟩
theorem Opens.slice {α : Type} {P : Program} {t e : TypeId} {d : Kd α} {good : α → Prop} (ht : P.underlying t = some (.slice e)) (hc : 1 = P.cellsOf t) (h : Opens P e d good) : Opens P t (Kd.slice e d) (fun l => ∀ x ∈ l, good x) := ⟨hc, fun {H enc w base sp held fuel cs x} hx => by
 rcases DataW.trod_slice ht hx with ⟨rfl, _⟩ | ⟨a, len, cap, elems, rest, n, _, rfl, _, hb, hl, hm, hlen, hel, _, _⟩
 ·exact ⟨[], ⟨none, 0, rfl, Nat.le_refl _, Kd.C_nil _ _⟩, fun x hx => by cases hx⟩
 ·have key : ∀ m, m ≤ len → ∃ l : List α, l.length = m ∧ ∀ i z, l[i]? = some z → good z ∧ ∃ c, c.length = d.sz ∧ d.K w z c ∧ ∀ j u, c[j]? = some u → w.cell? (a.add (i * d.sz + j)) = some u := by
   intro m
   induction m with
   | zero => intro _; exact ⟨[], rfl, fun i z hz => by simp at hz⟩
   | succ m ih =>
    intro hle; obtain ⟨l, hll, hl2⟩ := ih (by omega); have h1 := hel m (by omega); rw [List.getElem?_eq_getElem (by omega), Option.bind_eq_some_iff] at h1; obtain ⟨c, hc1, hc2⟩ := h1; obtain ⟨z, hz, hg⟩ := h.read hc2; obtain ⟨_, hcl, hcc⟩ := World.cells?_some hc1; refine ⟨l ++ [z], by simp [hll], fun i z' hz' => ?_⟩
    rcases Nat.lt_or_ge i l.length with hlt | hge
    ·rw [List.getElem?_append_left hlt] at hz'
     exact hl2 i z' hz'
    ·rw [List.getElem?_append_right hge] at hz'
     have e : i = m := by
      rcases Nat.eq_zero_or_pos (i - l.length) with e | e
      ·omega
      ·rw [List.getElem?_eq_none (by simp; omega)] at hz'; cases hz'
     subst e; rw [show i - l.length = 0 by omega] at hz'; simp only [List.getElem?_cons_zero, Option.some.injEq] at hz'; subst hz'; refine ⟨hg, c, by rw [hcl, h.size], hz, fun j u hu => ?_⟩
     have hj : j < P.cellsOf e := by rw [← hcl]; exact (List.getElem?_eq_some_iff.1 hu).1
     have := hcc j hj; rw [hu] at this; rw [h.size, ← this, add_two]
  obtain ⟨l, hll, hl2⟩ := key len (Nat.le_refl _); refine ⟨l, ⟨some a, cap, by rw [hll], by omega, rfl, by unfold maxLen at hm; omega, fun _ => ⟨a, rfl, fun j p hj => ?_⟩⟩, fun x hx => ?_⟩
  ·obtain ⟨_, c, h1, h2, h3⟩ := hl2 j p hj
   exact ⟨c, h1, h2, h3⟩
  ·obtain ⟨i, hi⟩ := List.getElem?_of_mem hx
   exact (hl2 i x hi).1⟩
structure FOpens {α : Type} (P : Program) (fs : List Field) (off : Nat) (d : Kd α) (good : α → Prop) : Prop where
 read : ∀ {H : Type} {enc : TypeId × Value → H} {w : World} {base : Nat} {sp : Nat → Bool} {held : Bool} {fuel : Nat} {cs : List Value},
 (∀ (i : Nat) (f : Field), fs[i]? = some f → ∃ y, DataW.trod enc P w base sp held fuel f.type ((cs.drop f.offset).take (P.cellsOf f.type)) = some y) → cs.length = off + d.sz → ∃ y : α, d.K w y (cs.drop off) ∧ good y
theorem FOpens.one {α : Type} {P : Program} {f : Field} {off : Nat} {d : Kd α} {good : α → Prop} (h : Opens P f.type d good) (ho : f.offset = off) : FOpens P [f] off d good := ⟨fun {H enc w base sp held fuel cs} hf hl => by
 obtain ⟨y, hy⟩ := hf 0 f rfl; rw [ho, ← h.size, List.take_of_length_le (by rw [List.length_drop]; omega)] at hy
 exact h.read hy⟩
theorem FOpens.cons {α β : Type} {P : Program} {f : Field} {fs : List Field} {off : Nat} {d1 : Kd α} {d2 : Kd β} {g1 : α → Prop} {g2 : β → Prop} (h1 : Opens P f.type d1 g1) (ho : f.offset = off) (h2 : FOpens P fs (off + d1.sz) d2 g2) : FOpens P (f :: fs) off (Kd.pair d1 d2) (fun x => g1 x.1 ∧ g2 x.2) := ⟨fun {H enc w base sp held fuel cs} hf hl => by
 have hsz : (Kd.pair d1 d2).sz = d1.sz + d2.sz := rfl; obtain ⟨y1, hy1⟩ := hf 0 f rfl; rw [ho, ← h1.size] at hy1; obtain ⟨x1, hk1, hg1⟩ := h1.read hy1; obtain ⟨x2, hk2, hg2⟩ := h2.read (cs := cs) (fun i g hg => hf (i + 1) g (by simpa using hg)) (by omega); refine ⟨(x1, x2), ⟨_, _, ?_, hk1, hk2⟩, hg1, hg2⟩
 rw [← List.drop_drop, List.take_append_drop]⟩
theorem Opens.struct {α : Type} {P : Program} {t : TypeId} {fs : Array Field} {d : Kd α} {good : α → Prop} (ht : P.underlying t = some (.struct fs)) (hs : d.sz = P.cellsOf t) (h : FOpens P fs.toList 0 d good) : Opens P t d good := ⟨hs, fun {H enc w base sp held fuel cs x} hx => by
 obtain ⟨xs, n, _, _, hcl, hxl, hf⟩ := DataW.trod_struct ht hx
 have := h.read (enc := enc) (w := w) (base := base) (sp := sp) (held := held) (fuel := n) (cs := cs) (fun i f hi => by
  rw [Array.getElem?_toList] at hi; have hlt := (Array.getElem?_eq_some_iff.1 hi).1
  exact ⟨xs[i]'(by omega), by rw [hf i f hi, List.getElem?_eq_getElem]⟩) (by omega)
 simpa using this⟩
def fld (e : TypeId) (off : Nat) : Field := { name := "", type := e, offset := off, embedded := false, tag := "", pkgPath := "", byteOffset := 0 }
theorem Opens.array {α : Type} {P : Program} {t e : TypeId} {n : Nat} {d : Kd α} {good : α → Prop} (c : Nat) (ht : P.underlying t = some (.array n e)) (hs : d.sz = P.cellsOf t) (hc : c = P.cellsOf e) (h : FOpens P ((List.range n).map fun i => fld e (i * c)) 0 d good) : Opens P t d good := ⟨hs, fun {H enc w base sp held fuel cs x} hx => by
 subst hc; obtain ⟨xs, m, _, _, hcl, hxl, hf⟩ := DataW.trod_array ht hx
 have := h.read (enc := enc) (w := w) (base := base) (sp := sp) (held := held) (fuel := m) (cs := cs) (fun i f hi => by
  rw [List.getElem?_map, Option.map_eq_some_iff] at hi; obtain ⟨j, hj, rfl⟩ := hi; have hlt := (List.getElem?_eq_some_iff.1 hj).1; rw [List.length_range] at hlt; rw [List.getElem?_range hlt] at hj
  cases hj
  exact ⟨xs[i]'(by omega), (hf i hlt).trans (List.getElem?_eq_getElem (by omega))⟩) (by omega)
 simpa using this⟩
theorem Opens.iso {α β : Type} {P : Program} {t : TypeId} {d : Kd α} {good : α → Prop} (f : β → α) (g : α → β) (hfg : ∀ x, f (g x) = x) (h : Opens P t d good) : Opens P t (Kd.iso d f) (fun y => good (f y)) := ⟨h.size, fun hx => by
 obtain ⟨y, hk, hg⟩ := h.read hx
 exact ⟨g y, by show d.K _ (f (g y)) _; rw [hfg]; exact hk, by rw [hfg]; exact hg⟩⟩
end Go.Proofs.YtemingmeidmjkaaDoor.Rw
namespace Go.Proofs.YtemingmeidmjkaaDoor.Q
open Go.RowKit Go.Proofs.YtemingmeidmjkaaDoorW.PrintWords Go.Proofs.YtemingmeidmjkaaDoorW.PrintLast Go.Proofs.YtemingmeidmjkaaDoorW.PrintMore
attribute [local go_sem] max2_int min2_int max_two min_two max_three min_three max_four min_four   -- for this text's walks alone
set_option linter.unusedVariables false
set_option linter.unusedSimpArgs false
end Go.Proofs.YtemingmeidmjkaaDoor.Q
namespace Go.Proofs.YtemingmeidmjkaaDoor.Q
open Go.RowKit Go.Proofs.YtemingmeidmjkaaDoorW.PrintWords Go.Proofs.YtemingmeidmjkaaDoorW.PrintLast Go.Proofs.YtemingmeidmjkaaDoorW.PrintMore
attribute [local go_sem] max2_int min2_int max_two min_two max_three min_three max_four min_four   -- for this text's walks alone
set_option linter.unusedVariables false
set_option linter.unusedSimpArgs false
end Go.Proofs.YtemingmeidmjkaaDoor.Q
namespace Go.Proofs.YtemingmeidmjkaaDoor.Q
open Go.RowKit Go.Proofs.YtemingmeidmjkaaDoorW.PrintWords Go.Proofs.YtemingmeidmjkaaDoorW.PrintLast Go.Proofs.YtemingmeidmjkaaDoorW.PrintMore
attribute [local go_sem] max2_int min2_int max_two min_two max_three min_three max_four min_four   -- for this text's walks alone
set_option linter.unusedVariables false
set_option linter.unusedSimpArgs false
end Go.Proofs.YtemingmeidmjkaaDoor.Q
namespace Go.Proofs.YtemingmeidmjkaaDoor.Q
open Go.RowKit Go.Proofs.YtemingmeidmjkaaDoorW.PrintWords Go.Proofs.YtemingmeidmjkaaDoorW.PrintLast Go.Proofs.YtemingmeidmjkaaDoorW.PrintMore
attribute [local go_sem] max2_int min2_int max_two min_two max_three min_three max_four min_four   -- for this text's walks alone
set_option linter.unusedVariables false
set_option linter.unusedSimpArgs false
theorem eqA80 (d : Nat) (w : World) (x0 y0 : Int) (x1 y1 : Int) (x2 y2 : Int) :
  (Op.equalIn (d + 2) 80 (.agg #[.int .i64 x0, .int .i64 x1, .int .i64 x2]) (.agg #[.int .i64 y0, .int .i64 y1, .int .i64 y2])).run Tryd.prog w = .ok (x0 == y0 && (x1 == y1 && (x2 == y2))) w := by
 refine eqA_of Tryd.underlying80 sqF ?_; refine eqf_cons (by rfl) (by go_simp; rfl) (by go_simp; rfl) (by go_simp) ?_; refine eqf_cons (by rfl) (by go_simp; rfl) (by go_simp; rfl) (by go_simp) ?_; exact eqf_last (by rfl) (by go_simp; rfl) (by go_simp; rfl) (by go_simp)
end Go.Proofs.YtemingmeidmjkaaDoor.Q
namespace Go.Proofs.YtemingmeidmjkaaDoor.Q
open Go.RowKit Go.Proofs.YtemingmeidmjkaaDoorW.PrintWords Go.Proofs.YtemingmeidmjkaaDoorW.PrintLast Go.Proofs.YtemingmeidmjkaaDoorW.PrintMore
attribute [local go_sem] max2_int min2_int max_two min_two max_three min_three max_four min_four   -- for this text's walks alone
set_option linter.unusedVariables false
set_option linter.unusedSimpArgs false
attribute [local go_sem high] eqA80
end Go.Proofs.YtemingmeidmjkaaDoor.Q
namespace Go.Proofs.YtemingmeidmjkaaDoor.Q
open Go.RowKit Go.Proofs.YtemingmeidmjkaaDoorW.PrintWords Go.Proofs.YtemingmeidmjkaaDoorW.PrintLast Go.Proofs.YtemingmeidmjkaaDoorW.PrintMore
attribute [local go_sem] max2_int min2_int max_two min_two max_three min_three max_four min_four   -- for this text's walks alone
set_option linter.unusedVariables false
set_option linter.unusedSimpArgs false
end Go.Proofs.YtemingmeidmjkaaDoor.Q
namespace Go.Proofs.YtemingmeidmjkaaDoor.Q
open Go.RowKit Go.Proofs.YtemingmeidmjkaaDoorW.PrintWords
set_option linter.unusedVariables false
set_option linter.unusedSimpArgs false
theorem rdI (l : List Int) (i : Nat) (h : i < l.length) : rd l (i : Int) = l[i] := by simp [rd, h]
theorem rdA (l : List S41) (i : Nat) (h : i < l.length) : rd_T41 l (i : Int) = l[i] := by simp [rd_T41, h]
theorem inB_one (b c a : Int) : inB b c [a] = true ↔ b ≤ a ∧ a ≤ c := by rw [inB_iff]; simp
theorem toSt_get (l : List S41) (i : Nat) (h : i < l.length) : (toSt l)[i]'(by rw [toSt_len]; exact h) = ⟨l[i].f0, l[i].f1⟩ := by simp [toSt]
end Go.Proofs.YtemingmeidmjkaaDoor.Q
namespace Go.Proofs.YtemingmeidmjkaaDoor.Q
open Go.RowKit Go.Proofs.YtemingmeidmjkaaDoorW.PrintWords
set_option linter.unusedVariables false
set_option linter.unusedSimpArgs false
def ub (x : Int) : Prop := 0 ≤ x ∧ x ≤ 255
theorem ub_wf {x : Int} (h : (Lit.int .u8 x).wf = true) : ub x := by
 simp only [Lit.wf, Bool.and_eq_true, decide_eq_true_eq] at h; exact h
theorem tm {x m : Int} (h : 0 ≤ x) : Int.tmod x m = x % m := Int.tmod_eq_emod_of_nonneg h
theorem mn_min (a b : Int) : mn a b = min a b := by unfold mn; omega
theorem mx_max1 (a b : Int) : mx a b = max a b := by unfold mx; omega
theorem rd_app (A : List Int) (x : Int) (j : Nat) (h : j < A.length) : rd (A ++ [x]) (j : Int) = rd A (j : Int) := by
 unfold rd
 rw [Int.toNat_natCast, List.getD_eq_getElem?_getD, List.getD_eq_getElem?_getD, List.getElem?_append_left h]
theorem rd_last (A : List Int) (x : Int) (j : Nat) (h : j = A.length) : rd (A ++ [x]) (j : Int) = x := by
 subst h
 unfold rd
 rw [Int.toNat_natCast, List.getD_eq_getElem?_getD, List.getElem?_append_right (Nat.le_refl _), Nat.sub_self]; rfl
theorem rd_in {l : List Int} {j : Int} (h0 : 0 ≤ j) (h : j < l.length) : rd l j ∈ l := by
 obtain ⟨m, rfl⟩ : ∃ m : Nat, j = (m : Int) := ⟨j.toNat, by omega⟩; rw [rdI l m (by omega)]; exact List.getElem_mem _
theorem roadE_ok {st : List Sp} {wg : List Wg} (h1 : 1 ≤ st.length) (h5 : st.length ≤ 5) (hs : ∀ s ∈ st, stB s) (h8 : wg.length ≤ 8) (hw : ∀ x ∈ wg, (0 ≤ x.p ∧ x.p ≤ st.length) ∧ (0 ≤ x.r ∧ x.r ≤ 400) ∧ (0 ≤ x.o ∧ x.o ≤ 20)) : roadE st wg = 0 := by
 have e1 : inB 1 5 [(st.length : Int)] = true := (inB_one _ _ _).2 (by omega)
 have e2 : st.any stBad = false := by
  rw [List.any_eq_false]; intro s h; obtain ⟨a, b, c⟩ := hs s h
  have e : inB 0 300 [s.lo, s.hi] = true := by rw [inB_iff]; simp; omega
  simp [stBad, e]; omega
 have e3 : wg.any (wgBad st.length) = false := by
  rw [List.any_eq_false]; intro x h; obtain ⟨a, b, c⟩ := hw x h
  simp [wgBad, (inB_one _ _ _).2 a, (inB_one _ _ _).2 b, (inB_one _ _ _).2 c]
 simp [roadE, e1, e2, e3]; omega
theorem road_l0 (l0 : List S76) (a : Int) (b : List Int) (c : List S136) (hb : ∀ x ∈ l0, ub x.f0 ∧ ub x.f1) : ∀ (d i : Nat) (acc : List S41), i + d = 4 → acc.length = i → (∀ s ∈ toSt acc, stB s) → ∃ st : List S41, Ev (fun k => lw_Cart_road.l0 k (i : Int) l0 a b c acc) (st, []) ∧ 1 ≤ st.length ∧ st.length ≤ 4 ∧ ∀ s ∈ toSt st, stB s
 | 0, i, acc, hd, hl, hs => by
  obtain rfl : i = 4 := by omega
  refine ⟨acc, ?_, by omega, by omega, hs⟩; refine Ev.up ?_; simp only [lw_Cart_road.l0, if_neg (show ¬ ((4 : Nat) : Int) = 0 by omega)]
  by_cases h : ((4 : Nat) : Int) < (l0.length : Int)
  ·simp only [if_pos h, decide_eq_false (show ¬ ((4 : Nat) : Int) < 4 by omega)]
   refine Ev.up ?_; simp only [lw_Cart_road.j1, Bool.false_eq_true, if_false]; exact Ev.now _
  ·simp only [if_neg h]
   refine Ev.up ?_; simp only [lw_Cart_road.j1, Bool.false_eq_true, if_false]; exact Ev.now _
 | d + 1, i, acc, hd, hl, hs => by
  by_cases hgo : i = 0 ∨ i < l0.length
  ·obtain ⟨x, hx, hev⟩ : ∃ x : S41, stB ⟨x.f0, x.f1⟩ ∧ ∀ r, Ev (fun k => lw_Cart_road.l0 k ((i + 1 : Nat) : Int) l0 a b c (acc ++ [x])) r → Ev (fun k => lw_Cart_road.j1 k (i : Int) true l0 a b c acc) r := by
    by_cases hi : i < l0.length
    ·have hm : rd_T76 l0 (i : Int) ∈ l0 := by
      have e : rd_T76 l0 (i : Int) = l0[i] := by simp [rd_T76, hi]
      rw [e]; exact List.getElem_mem _
     obtain ⟨⟨h1, h2⟩, h3, h4⟩ := hb _ hm; refine ⟨⟨Int.tmod (wrap64 ((rd_T76 l0 (i : Int)).f0)) 200, wrap64 ((Int.tmod (wrap64 ((rd_T76 l0 (i : Int)).f0)) 200) + (Int.tmod (wrap64 ((rd_T76 l0 (i : Int)).f1)) 100))⟩, ?_, fun r hr => ?_⟩
     ·simp only
      rw [wr (x := (rd_T76 l0 (i : Int)).f0) (by omega), wr (x := (rd_T76 l0 (i : Int)).f1) (by omega), tm h1, tm h3, wr (by omega)]
      unfold stB
      simp only; omega
     ·refine Ev.up ?_
      simp only [lw_Cart_road.j1, if_true, if_pos (show (i : Int) < (l0.length : Int) by omega), if_pos (show (0 : Int) ≤ (i : Int) by omega), lw_span.f, Option.bind_some, if_pos (show acc.length < 8796093022208 by omega), wi i (by omega)]; exact hr
    ·refine ⟨⟨(80 : Int) % 200, ((80 : Int) % 200) + ((30 : Int) % 100)⟩, ⟨by decide, by decide, by decide⟩, fun r hr => ?_⟩
     refine Ev.up ?_; simp only [lw_Cart_road.j1, if_true, if_neg (show ¬ (i : Int) < (l0.length : Int) by omega), lw_span.f, Option.bind_some, if_pos (show acc.length < 8796093022208 by omega), wi i (by omega)]; exact hr
   obtain ⟨st, h1, h2⟩ := road_l0 l0 a b c hb d (i + 1) (acc ++ [x]) (by omega) (by simp [hl]) (by
    intro s h; simp only [toSt, List.map_append, List.map_cons, List.map_nil, List.mem_append, List.mem_singleton] at h
    rcases h with h | h
    ·exact hs s h
    ·rw [h]; exact hx)
   refine ⟨st, ?_, h2⟩; refine Ev.up ?_
   by_cases h0 : i = 0
   ·simp only [lw_Cart_road.l0, if_pos (show (i : Int) = 0 by omega)]
    exact hev _ h1
   ·simp only [lw_Cart_road.l0, if_neg (show ¬ (i : Int) = 0 by omega), if_pos (show (i : Int) < (l0.length : Int) by omega), decide_eq_true (show (i : Int) < 4 by omega)]
    exact hev _ h1
  ·refine ⟨acc, ?_, by omega, by omega, hs⟩
   refine Ev.up ?_; simp only [lw_Cart_road.l0, if_neg (show ¬ (i : Int) = 0 by omega), if_neg (show ¬ (i : Int) < (l0.length : Int) by omega)]; refine Ev.up ?_; simp only [lw_Cart_road.j1, Bool.false_eq_true, if_false]; exact Ev.now _
theorem road_f (l0 : List S76) (a : Int) (b : List Int) (c : List S136) (hb : ∀ x ∈ l0, ub x.f0 ∧ ub x.f1) : ∃ st : List S41, Ev (fun k => lw_Cart_road.f k l0 a b c) (st, []) ∧ 1 ≤ st.length ∧ st.length ≤ 4 ∧ ∀ s ∈ toSt st, stB s :=
 road_l0 l0 a b c hb 4 0 [] (by omega) rfl (fun s h => by cases h)
theorem own_f (st : List S41) (wg : List S80) (h0 : st.length ≤ 1000) (h1 : wg.length ≤ 1000) : lw_own.f st wg = some (st, wg) := by
 unfold lw_own.f
 simp only [Option.bind_some, List.length_nil, List.nil_append]; rw [if_pos (by omega), if_pos (by omega)]
theorem most_f {s : Sp} (h : stB s) {w : Int} (hw : 0 ≤ w ∧ w ≤ 400) : lw_most.f s.lo s.hi w = some (w - loS s w) := by
 obtain ⟨h0, h1, h2⟩ := h; have h3 : 0 ≤ w * s.hi := Int.mul_nonneg hw.1 (by omega); have h4 : w * s.hi ≤ 400 * 300 := Int.mul_le_mul hw.2 h2 (by omega) (by omega)
 unfold lw_most.f loS
 generalize w * s.hi = b at *
 rw [wr (x := b) (by omega), wr (x := b + 999) (by omega), Int.tdiv_eq_ediv_of_nonneg (by omega), wr (by omega)]
 congr 1
 omega
theorem least_f {s : Sp} (h : stB s) {w : Int} (hw : 0 ≤ w ∧ w ≤ 400) : lw_least.f s.lo s.hi w = some (w - hiS s w) := by
 obtain ⟨h0, h1, h2⟩ := h; have h3 : 0 ≤ w * s.lo := Int.mul_nonneg hw.1 (by omega); have h4 : w * s.lo ≤ 400 * 300 := Int.mul_le_mul hw.2 (by omega) (by omega) (by omega)
 unfold lw_least.f hiS
 generalize w * s.lo = b at *
 rw [wr (x := b) (by omega), Int.tdiv_eq_ediv_of_nonneg (by omega), wr (by omega)]
 congr 1
 omega
theorem by_f (l : List Int) (hl : ∀ x ∈ l, ub x) (i : Int) (hi : 0 ≤ i) : ∃ b, lw_by.f l i = some b ∧ ub b := by
 unfold lw_by.f
 by_cases h : (l.length : Int) = 0
 ·rw [if_pos h]
  exact ⟨0, rfl, by decide, by decide⟩
 ·have h1 : 0 ≤ i % (l.length : Int) := Int.emod_nonneg _ h
  have h2 : i % (l.length : Int) < (l.length : Int) := Int.emod_lt_of_pos _ (by omega); have hb := hl _ (rd_in h1 h2); rw [if_neg h, tm hi, if_pos h1, if_pos h2]; refine ⟨_, rfl, ?_⟩; obtain ⟨h3, h4⟩ := hb; rw [wr (by omega)]; exact ⟨h3, h4⟩
structure LvP (st : List Sp) (th : Int) (i : Nat) (g : Int) (A T : List Int) : Prop where
 la : A.length = i + 1
 lt : T.length = i
 bd : ∀ j : Nat, j ≤ i → 0 ≤ rd A (j : Int) ∧ rd A (j : Int) ≤ 400
 step : ∀ j : Nat, j < i → loS (rdS st (j : Int)) (rd A (j : Int)) ≤ rd A (j : Int) - rd T (j : Int) ∧ rd A (j : Int) - rd T (j : Int) ≤ hiS (rdS st (j : Int)) (rd A (j : Int)) ∧ rd A ((j + 1 : Nat) : Int) = rd A (j : Int) - rd T (j : Int) - (if (j : Int) = th then g else 0)
 g0 : (i : Int) ≤ th ∨ th < 0 → g = 0
 gn : 0 ≤ g
theorem LvP.push {st : List Sp} {th : Int} {i : Nat} {g g' : Int} {A T : List Int} (h : LvP st th i g A T) (t v : Int) (h1 : loS (rdS st (i : Int)) (rd A (i : Int)) ≤ rd A (i : Int) - t) (h2 : rd A (i : Int) - t ≤ hiS (rdS st (i : Int)) (rd A (i : Int)))
  (hv : v = rd A (i : Int) - t - (if (i : Int) = th then g' else 0)) (hb : 0 ≤ v ∧ v ≤ 400) (hg : (i : Int) ≠ th → g' = g) (hn : 0 ≤ g') : LvP st th (i + 1) g' (A ++ [v]) (T ++ [t]) where
 la := by simp [h.la]
 lt := by simp [h.lt]
 bd := by
  intro j hj
  by_cases e : j = i + 1
  ·rw [rd_last A v j (by rw [h.la, e])]
   exact hb
  ·rw [rd_app A v j (by rw [h.la]; omega)]
   exact h.bd j (by omega)
 step := by
  intro j hj
  by_cases e : j = i
  ·subst e
   rw [rd_app A v j (by rw [h.la]; omega), rd_last T t j h.lt.symm, rd_last A v (j + 1) (by rw [h.la])]; exact ⟨h1, h2, hv⟩
  ·have := h.step j (by omega)
   rw [rd_app A v j (by rw [h.la]; omega), rd_app T t j (by rw [h.lt]; omega), rd_app A v (j + 1) (by rw [h.la]; omega)]; refine ⟨this.1, this.2.1, ?_⟩; rw [this.2.2]
   by_cases e2 : (j : Int) = th
   ·rw [if_pos e2, if_pos e2, hg (by omega)]
   ·rw [if_neg e2, if_neg e2]
 g0 := by
  intro hc
  by_cases e : (i : Int) = th
  ·omega
  ·rw [hg e]
   exact h.g0 (by omega)
 gn := hn
theorem take_f (lo D b : Int) (hb : ub b) (hD : 0 ≤ D ∧ D ≤ 400) (hlo : 0 ≤ lo ∧ lo ≤ 400) : ∃ t, wrap64 (lo + wrap64 (Int.tdiv (wrap64 (b * wrap64 D)) 255)) = t ∧ lo ≤ t ∧ t ≤ lo + D := by
 obtain ⟨h1, h2⟩ := hb; have h3 : 0 ≤ b * D := Int.mul_nonneg h1 hD.1; have h4 : b * D ≤ 255 * D := Int.mul_le_mul_of_nonneg_right h2 hD.1; rw [wr (x := D) (by omega)]
 generalize b * D = m at *
 rw [wr (x := m) (by omega), Int.tdiv_eq_ediv_of_nonneg h3, wr (x := m / 255) (by omega), wr (by omega)]; exact ⟨_, rfl, by omega, by omega⟩
section
variable (l0 : List S76) (a : Int) (l2 : List Int) (l3 : List S136) (st : List S41) (wg : List S80) (hst : ∀ s ∈ toSt st, stB s) (hb : ∀ x ∈ l2, ub x) (hn : st.length ≤ 1000) (th stolen : Int) (hs : 0 ≤ stolen ∧ stolen ≤ 1000)
theorem lived_l0 (hst : ∀ s ∈ toSt st, stB s) (hb : ∀ x ∈ l2, ub x) (hn : st.length ≤ 1000) (hs : 0 ≤ stolen ∧ stolen ≤ 1000) : ∀ (d i : Nat) (g : Int) (A T : List Int), i + d = st.length → LvP (toSt st) th i g A T →
  ∃ A' T' g', Ev (fun k => lw_Cart_lived.l0 k th stolen A T g (rd A (i : Int)) (i : Int) l0 a l2 l3 st wg) (A', T', g') ∧ LvP (toSt st) th st.length g' A' T' ∧ rd A' 0 = rd A 0
 | 0, i, g, A, T, hd, h => by
  obtain rfl : i = st.length := by omega
  refine ⟨A, T, g, ?_, h, rfl⟩; refine Ev.up ?_; simp only [lw_Cart_lived.l0, if_neg (show ¬ (st.length : Int) < (st.length : Int) by omega)]; exact Ev.now _
 | d + 1, i, g, A, T, hd, h => by
  have hi : i < st.length := by omega
  have hv : stB (rdS (toSt st) (i : Int)) := by
   rw [rdS_nat _ _ (by rw [toSt_len]; exact hi)]; exact hst _ (List.getElem_mem _)
  have er : rdS (toSt st) (i : Int) = ⟨st[i].f0, st[i].f1⟩ := by rw [rdS_nat _ _ (by rw [toSt_len]; exact hi), toSt_get st i hi]
  have hw := h.bd i (Nat.le_refl _); have e1 := least_f hv hw; have e2 := most_f hv hw; obtain ⟨b, e3, hb'⟩ := by_f l2 hb (i : Int) (by omega); have g1 := loS_nn hv hw.1; have g2 := loS_hiS hv hw.1; have g3 := hiS_le hv hw.1; obtain ⟨t, e4, t1, t2⟩ := take_f (rd A (i : Int) - hiS (rdS (toSt st) (i : Int)) (rd A (i : Int))) ((rd A (i : Int) - loS (rdS (toSt st) (i : Int)) (rd A (i : Int))) - (rd A (i : Int) - hiS (rdS (toSt st) (i : Int)) (rd A (i : Int)))) b hb' (by omega) (by omega); have hla := h.la; have hlt := h.lt
  have hA0 : ∀ v, rd (A ++ [v]) 0 = rd A 0 := fun v => rd_app A v 0 (by omega)
  by_cases hth : (i : Int) = th
  ·have p := h.push (g' := min (rd A (i : Int) - t) stolen) t (rd A (i : Int) - t - min (rd A (i : Int) - t) stolen) (by omega) (by omega) (by rw [if_pos hth]) (by omega) (fun e => absurd hth e) (by omega)
   obtain ⟨A', T', g', q1, q2, q3⟩ := lived_l0 hst hb hn hs d (i + 1) _ _ _ (by omega) p; refine ⟨A', T', g', ?_, q2, by rw [q3, hA0]⟩; rw [rd_last A _ (i + 1) (by omega)] at q1; refine Ev.up ?_; rw [er] at e1 e2 e4; simp only at e1 e2; simp only [lw_Cart_lived.l0, if_pos (show (i : Int) < (st.length : Int) by omega), if_pos (show (0 : Int) ≤ (i : Int) by omega), rdA st i hi, e1, e2, e3, Option.bind_some, e4, if_pos hth, if_pos (show A.length < 17592186044416 by omega), if_pos (show T.length < 17592186044416 by omega), mn_min, wr (show -9223372036854775808 ≤ rd A (i : Int) - t ∧ rd A (i : Int) - t ≤ 9223372036854775807 by omega), wr (show -9223372036854775808 ≤ rd A (i : Int) - t - min (rd A (i : Int) - t) stolen ∧ rd A (i : Int) - t - min (rd A (i : Int) - t) stolen ≤ 9223372036854775807 by omega), wi i (by omega)]; exact q1
  ·have p := h.push (g' := g) t (rd A (i : Int) - t) (by omega) (by omega) (by rw [if_neg hth]; omega) (by omega) (fun _ => rfl) h.gn
   obtain ⟨A', T', g', q1, q2, q3⟩ := lived_l0 hst hb hn hs d (i + 1) _ _ _ (by omega) p; refine ⟨A', T', g', ?_, q2, by rw [q3, hA0]⟩; rw [rd_last A _ (i + 1) (by omega)] at q1; refine Ev.up ?_; rw [er] at e1 e2 e4; simp only at e1 e2; simp only [lw_Cart_lived.l0, if_pos (show (i : Int) < (st.length : Int) by omega), if_pos (show (0 : Int) ≤ (i : Int) by omega), rdA st i hi, e1, e2, e3, Option.bind_some, e4, if_neg hth, if_pos (show A.length < 17592186044416 by omega), if_pos (show T.length < 17592186044416 by omega), wr (show -9223372036854775808 ≤ rd A (i : Int) - t ∧ rd A (i : Int) - t ≤ 9223372036854775807 by omega), wi i (by omega)]; exact q1
theorem lived_f (ha : 0 ≤ a ∧ a ≤ 65535) (hst : ∀ s ∈ toSt st, stB s) (hb : ∀ x ∈ l2, ub x) (hn : st.length ≤ 1000) (hs : 0 ≤ stolen ∧ stolen ≤ 1000) :
  ∃ A T g, Ev (fun k => lw_Cart_lived.f k l0 a l2 l3 st wg th stolen) (A, T, g) ∧ LvP (toSt st) th st.length g A T ∧ rd A 0 = a % 401 := by
 have hm : 0 ≤ a % 401 ∧ a % 401 ≤ 400 := by omega
 have p : LvP (toSt st) th 0 0 [a % 401] [] := ⟨rfl, rfl, fun j hj => by
  obtain rfl : j = 0 := by omega
  exact hm, fun j hj => absurd hj (Nat.not_lt_zero _), fun _ => rfl, Int.le_refl _⟩
 obtain ⟨A, T, g, q1, q2, q3⟩ := lived_l0 l0 a l2 l3 st wg th stolen hst hb hn hs st.length 0 0 _ _ (by omega) p; refine ⟨A, T, g, ?_, q2, q3⟩
 unfold lw_Cart_lived.f
 rw [wr (by omega), tm ha.1]; exact q1
end
def wOk (n : Nat) (x : Wg) : Prop := (0 ≤ x.p ∧ x.p ≤ n) ∧ (0 ≤ x.r ∧ x.r ≤ 400) ∧ (0 ≤ x.o ∧ x.o ≤ 7)
def wHit (A : List Int) (x : Wg) : Prop := x.r - x.o ≤ rd A x.p ∧ rd A x.p ≤ x.r + x.o
section
variable (l0 : List S76) (a : Int) (l2 : List Int) (l3 : List S136) (st : List S41) (n : Nat) (A sp : List Int)
theorem weighed_l0 (hl3 : ∀ x ∈ l3, ub x.f0 ∧ ub x.f1 ∧ ub x.f2) (hA : A.length = n + 1) (hn : n ≤ 100) (hb : ∀ j : Nat, j ≤ n → 0 ≤ rd A (j : Int) ∧ rd A (j : Int) ≤ 400) (hsp : ∀ x ∈ sp, ub x) : ∀ (d i : Nat) (ws : List S80), i + d = 6 → ws.length = i → (∀ x ∈ toWg ws, wOk n x ∧ (sp = [] → wHit A x)) →
  ∃ ws', Ev (fun k => lw_Cart_weighed.l0 k A sp (i : Int) l0 a l2 l3 st ws) (st, ws') ∧ ws'.length ≤ 6 ∧ ∀ x ∈ toWg ws', wOk n x ∧ (sp = [] → wHit A x)
 | 0, i, ws, hd, hl, hw => by
  obtain rfl : i = 6 := by omega
  refine ⟨ws, ?_, by omega, hw⟩; refine Ev.up ?_; simp only [lw_Cart_weighed.l0]
  by_cases h : ((6 : Nat) : Int) < (l3.length : Int)
  ·simp only [if_pos h, decide_eq_false (show ¬ ((6 : Nat) : Int) < 6 by omega)]
   refine Ev.up ?_; simp only [lw_Cart_weighed.j1, Bool.false_eq_true, if_false]; exact Ev.now _
  ·simp only [if_neg h]
   refine Ev.up ?_; simp only [lw_Cart_weighed.j1, Bool.false_eq_true, if_false]; exact Ev.now _
 | d + 1, i, ws, hd, hl, hw => by
  by_cases hi : i < l3.length
  ·have hm : rd_T136 l3 (i : Int) ∈ l3 := by
    have e : rd_T136 l3 (i : Int) = l3[i] := by simp [rd_T136, hi]
    rw [e]; exact List.getElem_mem _
   obtain ⟨⟨h1, h2⟩, ⟨h3, h4⟩, h5, h6⟩ := hl3 _ hm
   have next : ∀ x : S80, wOk n ⟨x.f0, x.f1, x.f2⟩ → (sp = [] → wHit A ⟨x.f0, x.f1, x.f2⟩) → ∃ ws', Ev (fun k => lw_Cart_weighed.l0 k A sp ((i + 1 : Nat) : Int) l0 a l2 l3 st (ws ++ [x])) (st, ws') ∧ ws'.length ≤ 6 ∧ ∀ x ∈ toWg ws', wOk n x ∧ (sp = [] → wHit A x) := by
    intro x q1 q2; refine weighed_l0 hl3 hA hn hb hsp d (i + 1) (ws ++ [x]) (by omega) (by simp [hl]) ?_; intro y h; simp only [toWg, List.map_append, List.map_cons, List.map_nil, List.mem_append, List.mem_singleton] at h
    rcases h with h | h
    ·exact hw y h
    ·rw [h]; exact ⟨q1, q2⟩
   generalize hx : rd_T136 l3 (i : Int) = x at *
   have hP : ((x.f0 % (A.length : Int)).toNat : Int) = x.f0 % (A.length : Int) := by
    have := Int.emod_nonneg x.f0 (show (A.length : Int) ≠ 0 by omega); omega
   have hP2 : x.f0 % (A.length : Int) < (A.length : Int) := Int.emod_lt_of_pos _ (by omega); have hv := hb (x.f0 % (A.length : Int)).toNat (by omega); rw [hP] at hv
   have hO : 0 ≤ x.f1 % 8 ∧ x.f1 % 8 ≤ 7 := by omega
   have hM0 : 0 ≤ x.f2 % (2 * (x.f1 % 8) + 1) := Int.emod_nonneg _ (by omega); have hM1 : x.f2 % (2 * (x.f1 % 8) + 1) < 2 * (x.f1 % 8) + 1 := Int.emod_lt_of_pos _ (by omega)
   have hok : ∀ R : Int, wOk n ⟨x.f0 % (A.length : Int), max 0 (min 400 R), x.f1 % 8⟩ := by
    intro R
    unfold wOk
    simp only; omega
   have hhit : wHit A ⟨x.f0 % (A.length : Int), max 0 (min 400 (rd A (x.f0 % (A.length : Int)) + x.f2 % (2 * (x.f1 % 8) + 1) - x.f1 % 8)), x.f1 % 8⟩ := by
    unfold wHit
    simp only; omega
   have enter : ∀ r, Ev (fun k => lw_Cart_weighed.j1 k A sp (i : Int) true l0 a l2 l3 st ws) r → Ev (fun k => lw_Cart_weighed.l0 k A sp (i : Int) l0 a l2 l3 st ws) r := by
    intro r hr; refine Ev.up ?_; simp only [lw_Cart_weighed.l0, if_pos (show (i : Int) < (l3.length : Int) by omega), decide_eq_true (show (i : Int) < 6 by omega)]; exact hr
   generalize hPg : x.f0 % (A.length : Int) = P at *
   generalize hOg : x.f1 % 8 = O at *
   generalize hMg : x.f2 % (2 * O + 1) = M at *
   by_cases c1 : (i : Int) < (sp.length : Int)
   ·have hsi := hsp _ (rd_in (l := sp) (j := (i : Int)) (by omega) c1)
    obtain ⟨s1, s2⟩ := hsi
    have hne : sp ≠ [] := by intro e; rw [e] at c1; simp at c1; omega
    by_cases c2 : rd sp (i : Int) % 4 = 0
    ·obtain ⟨ws', q1, q2⟩ := next ⟨P, max 0 (min 400 (rd A P + M - O + rd sp (i : Int))), O⟩ (hok _) (fun e => absurd e hne)
     refine ⟨ws', enter _ ?_, q2⟩; refine Ev.up ?_; simp only [lw_Cart_weighed.j1, if_true, if_pos (show (0 : Int) ≤ (i : Int) by omega), if_pos (show (i : Int) < (l3.length : Int) by omega), hx, if_neg (show ¬ (A.length : Int) = 0 by omega), wr (x := x.f0) (by omega), wr (x := x.f1) (by omega), wr (x := x.f2) (by omega), tm h1, tm h3, tm h5, hPg, hOg, if_pos (show 0 ≤ P by omega), if_pos (show P < (A.length : Int) by omega), wr (x := 2 * O) (by omega), wr (x := 2 * O + 1) (by omega), hMg, if_neg (show ¬ 2 * O + 1 = 0 by omega), if_pos c1, tm s1, if_pos c2, if_pos (show ws.length < 5864062014805 by omega), mx_max1, mn_min, wr (x := rd sp (i : Int)) (by omega), wr (x := rd A P + M) (by omega), wr (x := rd A P + M - O) (by omega), wr (x := rd A P + M - O + rd sp (i : Int)) (by omega), wi i (by omega)]; exact q1
    ·obtain ⟨ws', q1, q2⟩ := next ⟨P, max 0 (min 400 (rd A P + M - O)), O⟩ (hok _) (fun e => absurd e hne)
     refine ⟨ws', enter _ ?_, q2⟩; refine Ev.up ?_; simp only [lw_Cart_weighed.j1, if_true, if_pos (show (0 : Int) ≤ (i : Int) by omega), if_pos (show (i : Int) < (l3.length : Int) by omega), hx, if_neg (show ¬ (A.length : Int) = 0 by omega), wr (x := x.f0) (by omega), wr (x := x.f1) (by omega), wr (x := x.f2) (by omega), tm h1, tm h3, tm h5, hPg, hOg, if_pos (show 0 ≤ P by omega), if_pos (show P < (A.length : Int) by omega), wr (x := 2 * O) (by omega), wr (x := 2 * O + 1) (by omega), hMg, if_neg (show ¬ 2 * O + 1 = 0 by omega), if_pos c1, tm s1, if_neg c2, if_pos (show ws.length < 5864062014805 by omega), mx_max1, mn_min, wr (x := rd A P + M) (by omega), wr (x := rd A P + M - O) (by omega), wi i (by omega)]; exact q1
   ·obtain ⟨ws', q1, q2⟩ := next ⟨P, max 0 (min 400 (rd A P + M - O)), O⟩ (hok _) (fun _ => hhit)
    refine ⟨ws', enter _ ?_, q2⟩; refine Ev.up ?_; simp only [lw_Cart_weighed.j1, if_true, if_pos (show (0 : Int) ≤ (i : Int) by omega), if_pos (show (i : Int) < (l3.length : Int) by omega), hx, if_neg (show ¬ (A.length : Int) = 0 by omega), wr (x := x.f0) (by omega), wr (x := x.f1) (by omega), wr (x := x.f2) (by omega), tm h1, tm h3, tm h5, hPg, hOg, if_pos (show 0 ≤ P by omega), if_pos (show P < (A.length : Int) by omega), wr (x := 2 * O) (by omega), wr (x := 2 * O + 1) (by omega), hMg, if_neg (show ¬ 2 * O + 1 = 0 by omega), if_neg c1, if_pos (show ws.length < 5864062014805 by omega), mx_max1, mn_min, wr (x := rd A P + M) (by omega), wr (x := rd A P + M - O) (by omega), wi i (by omega)]; exact q1
  ·refine ⟨ws, ?_, by omega, hw⟩
   refine Ev.up ?_; simp only [lw_Cart_weighed.l0, if_neg (show ¬ (i : Int) < (l3.length : Int) by omega)]; refine Ev.up ?_; simp only [lw_Cart_weighed.j1, Bool.false_eq_true, if_false]; exact Ev.now _
theorem weighed_f (hl3 : ∀ x ∈ l3, ub x.f0 ∧ ub x.f1 ∧ ub x.f2) (hst : st.length ≤ 1000) (hA : A.length = n + 1) (hn : n ≤ 100) (hb : ∀ j : Nat, j ≤ n → 0 ≤ rd A (j : Int) ∧ rd A (j : Int) ≤ 400) (hsp : ∀ x ∈ sp, ub x) :
  ∃ ws', Ev (fun k => lw_Cart_weighed.f k l0 a l2 l3 st [] A sp) (st, ws') ∧ ws'.length ≤ 6 ∧ ∀ x ∈ toWg ws', wOk n x ∧ (sp = [] → wHit A x) := by
 obtain ⟨ws', q1, q2⟩ := weighed_l0 l0 a l2 l3 st n A sp hl3 hA hn hb hsp 6 0 [] (by omega) rfl (fun x h => by cases h); refine ⟨ws', ?_, q2⟩
 unfold lw_Cart_weighed.f
 rw [own_f st [] hst (by simp)]; exact q1
end
end Go.Proofs.YtemingmeidmjkaaDoor.Q
namespace Go.Proofs.YtemingmeidmjkaaDoor.Q
open Go.RowKit Go.Proofs.YtemingmeidmjkaaDoorW.PrintWords Go.Proofs.YtemingmeidmjkaaDoorW.PrintLast Go.Proofs.YtemingmeidmjkaaDoorW.PrintMore
attribute [local go_sem] max2_int min2_int max_two min_two max_three min_three max_four min_four   -- for this text's walks alone
set_option linter.unusedVariables false
set_option linter.unusedSimpArgs false
end Go.Proofs.YtemingmeidmjkaaDoor.Q
namespace Go.Proofs.YtemingmeidmjkaaDoor.Q
open Go.RowKit Go.Proofs.YtemingmeidmjkaaDoorW.PrintWords Go.Proofs.YtemingmeidmjkaaDoorW.PrintLast Go.Proofs.YtemingmeidmjkaaDoorW.PrintMore
attribute [local go_sem] max2_int min2_int max_two min_two max_three min_three max_four min_four   -- for this text's walks alone
set_option linter.unusedVariables false
set_option linter.unusedSimpArgs false
end Go.Proofs.YtemingmeidmjkaaDoor.Q
namespace Go.Proofs.YtemingmeidmjkaaDoor.Q
open Go.RowKit Go.Proofs.YtemingmeidmjkaaDoorW.PrintWords
set_option linter.unusedVariables false
set_option linter.unusedSimpArgs false
def fitB (wg : List Wg) (p w : Int) : Bool := wg.all fun x => !decide (x.p = p) || inB (x.r - x.o) (x.r + x.o) [w]
theorem fitB_iff (wg : List Wg) (p w : Int) : fitB wg p w = true ↔ ∀ x ∈ wg, x.p = p → x.r - x.o ≤ w ∧ w ≤ x.r + x.o := by
 unfold fitB
 simp only [List.all_eq_true, Bool.or_eq_true, Bool.not_eq_true', decide_eq_false_iff_not, inB_one]
 exact ⟨fun h x hx hp => (h x hx).resolve_left (fun hn => hn hp), fun h x hx => by
  by_cases e : x.p = p
  ·exact .inr (h x hx e)
  ·exact .inl e⟩
theorem seen_in (p w : Int) : ∀ (wg : List Wg) (s : Sp), inS (wg.foldl (seenStep p) s) w ↔ inS s w ∧ ∀ x ∈ wg, x.p = p → x.r - x.o ≤ w ∧ w ≤ x.r + x.o
 | [], s => by simp
 | x :: wg, s => by
  rw [List.foldl_cons, seen_in p w wg]
  unfold seenStep
  by_cases e : x.p = p
  ·rw [if_pos e, inS_and]
   simp only [List.mem_cons, forall_eq_or_imp, e, true_implies]
   unfold inS
   simp only
   constructor
   ·rintro ⟨⟨h1, h2⟩, h3⟩; exact ⟨h1, h2, h3⟩
   ·rintro ⟨h1, h2, h3⟩; exact ⟨⟨h1, h2⟩, h3⟩
  ·rw [if_neg e]
   simp only [List.mem_cons, forall_eq_or_imp, e, false_implies, true_and]
theorem fit_seen (wg : List Wg) (p w : Int) (h : 0 ≤ w ∧ w ≤ 400) : fitB wg p w = true ↔ inS (seenS wg p) w := by
 rw [fitB_iff, seenS, seen_in]; simp only [inS]; exact ⟨fun h1 => ⟨h, h1⟩, fun h1 => h1.2⟩
def stpB (st : List Sp) (th : Int) (p w v : Nat) : Bool := if (p : Int) = th then decide ((v : Int) < hiS (rdS st p) w) else inB (loS (rdS st p) w) (hiS (rdS st p) w) [(v : Int)]
def fwB (st : List Sp) (wg : List Wg) (th : Int) : Nat → Nat → Bool
 | 0, w => fitB wg 0 w
 | p + 1, v => fitB wg ((p + 1 : Nat) : Int) v && (List.range 401).any fun w => decide (v ≤ w) && fwB st wg th p w && stpB st th p w v
def fuB (st : List Sp) (wg : List Wg) (th : Int) : Nat → Nat → Nat → Bool
 | 0, p, w => fwB st wg th p w
 | d + 1, p, w => fwB st wg th p w && (List.range (w + 1)).any fun v => fuB st wg th d (p + 1) v && stpB st th p w v
section
variable (st : List S41) (wg : List S80) (hok : RdOk (toSt st) (toWg wg)) (hl : wg.length ≤ 1000) (th : Int) (r : List (List Bool))
end
end Go.Proofs.YtemingmeidmjkaaDoor.Q
namespace Go.Proofs.YtemingmeidmjkaaDoor.Q
open Go.RowKit Go.Proofs.YtemingmeidmjkaaDoorW.PrintWords
set_option linter.unusedVariables false
set_option linter.unusedSimpArgs false
def sh (t : Sp) (w v : Int) : Option Sp → Option Sp
 | none => none
 | some a => some ⟨a.lo + max 0 (loS t w - v), a.hi + (hiS t w - v)⟩
section
variable {st : List Sp} {wg : List Wg}
end
end Go.Proofs.YtemingmeidmjkaaDoor.Q
namespace Go.Proofs.YtemingmeidmjkaaDoor.Q
open Go.RowKit Go.Proofs.YtemingmeidmjkaaDoorW.PrintWords
set_option linter.unusedVariables false
set_option linter.unusedSimpArgs false
theorem trimLo_in {st after : Sp} (h : stB st) (w : Int) : ∀ (n : Nat) (s : Sp), s.hi - s.lo + 1 ≤ n → (inS (trimLo st after n s) w ↔ inS s w ∧ after.lo ≤ hiS st w)
 | 0, s, hn => by
  unfold trimLo inS
  omega
 | n + 1, s, hn => by
  unfold trimLo
  by_cases h1 : s.lo > s.hi
  ·rw [if_pos h1]
   unfold inS
   omega
  ·rw [if_neg h1]
   by_cases h2 : hiS st s.lo < after.lo
   ·rw [if_pos h2, trimLo_in h w n _ (by simp only; omega)]
    unfold inS
    simp only
    constructor
    ·rintro ⟨h3, h4⟩; exact ⟨by omega, h4⟩
    ·rintro ⟨h3, h4⟩
     refine ⟨⟨?_, h3.2⟩, h4⟩
     by_cases e : w = s.lo
     ·rw [e] at h4; omega
     ·omega
   ·rw [if_neg h2]
    constructor
    ·intro h3
     have := hiS_mono h (w := s.lo) (w' := w) h3.1; exact ⟨h3, by omega⟩
    ·exact fun h3 => h3.1
theorem trimHi_in {st after : Sp} (h : stB st) (w : Int) : ∀ (n : Nat) (s : Sp), s.hi - s.lo + 1 ≤ n → (inS (trimHi st after n s) w ↔ inS s w ∧ loS st w ≤ after.hi)
 | 0, s, hn => by
  unfold trimHi inS
  omega
 | n + 1, s, hn => by
  unfold trimHi
  by_cases h1 : s.lo > s.hi
  ·rw [if_pos h1]
   unfold inS
   omega
  ·rw [if_neg h1]
   by_cases h2 : loS st s.hi > after.hi
   ·rw [if_pos h2, trimHi_in h w n _ (by simp only; omega)]
    unfold inS
    simp only
    constructor
    ·rintro ⟨h3, h4⟩; exact ⟨by omega, h4⟩
    ·rintro ⟨h3, h4⟩
     refine ⟨⟨h3.1, ?_⟩, h4⟩
     by_cases e : w = s.hi
     ·rw [e] at h4; omega
     ·omega
   ·rw [if_neg h2]
    constructor
    ·intro h3
     have := loS_mono h (w := w) (w' := s.hi) h3.2; exact ⟨h3, by omega⟩
    ·exact fun h3 => h3.1
theorem ok_len {s : Sp} (h : okS s) : s.hi - s.lo + 1 ≤ ((402 : Nat) : Int) := by
 unfold okS at h
 omega
theorem back_in {st s after : Sp} (h : stB st) (hs : okS s) (w : Int) : inS (backS st s after) w ↔ inS s w ∧ ∃ v, inS after v ∧ loS st w ≤ v ∧ v ≤ hiS st w := by
 unfold backS
 by_cases ha : after.lo > after.hi
 ·rw [if_pos ha]
  constructor
  ·intro h1; unfold inS at h1; omega
  ·rintro ⟨_, v, h1, _⟩; unfold inS at h1; omega
 ·rw [if_neg ha, trimHi_in h w 402 _ (ok_len (trimLo_ok _ _ _ _ hs)), trimLo_in h w 402 _ (ok_len hs)]
  constructor
  ·rintro ⟨⟨h1, h2⟩, h3⟩
   have h0 : 0 ≤ w := by unfold okS inS at *; omega
   exact ⟨h1, (meets st after w h h0).2 ⟨by omega, h2, h3⟩⟩
  ·rintro ⟨h1, h2⟩
   have h0 : 0 ≤ w := by unfold okS inS at *; omega
   obtain ⟨_, h3, h4⟩ := (meets st after w h h0).1 h2; exact ⟨⟨h1, h3⟩, h4⟩
theorem on_in {st s : Sp} (h : stB st) (hs : okS s) (v : Int) : inS (onS st s) v ↔ ∃ w, inS s w ∧ loS st w ≤ v ∧ v ≤ hiS st w := by
 by_cases hn : s.lo > s.hi
 ·constructor
  ·intro h1
   unfold onS at h1
   rw [if_pos hn] at h1
   unfold inS at h1
   omega
  ·rintro ⟨w, h1, _⟩
   unfold inS at h1
   omega
 ·exact onS_mem h s (by unfold okS at hs; omega) v
theorem goL_rd : ∀ (ts l : List Sp), l.length = ts.length + 1 → (∀ i : Nat, i < ts.length → rdS (goL ts l) (i : Int) = backS (rdS ts (i : Int)) (rdS l (i : Int)) (rdS (goL ts l) ((i + 1 : Nat) : Int))) ∧ rdS (goL ts l) (ts.length : Int) = rdS l (ts.length : Int)
 | [], l, h => ⟨fun i hi => by simp at hi, by cases l <;> rfl⟩
 | t :: ts, [], h => by simp at h
 | t :: ts, s :: l, h => by
  have hl : l.length = ts.length + 1 := by simpa using h
  obtain ⟨h1, h2⟩ := goL_rd ts l hl
  have sh : ∀ (x : Sp) (m : List Sp) (j : Nat), rdS (x :: m) ((j + 1 : Nat) : Int) = rdS m (j : Int) := fun x m j => by
   unfold rdS
   rw [Int.toNat_natCast, Int.toNat_natCast, List.getD_cons_succ]
  refine ⟨fun i hi => ?_, ?_⟩
  ·match i with
   | 0 =>
    rw [goL, sh]
    have e : (goL ts l).headD z_Sp = rdS (goL ts l) ((0 : Nat) : Int) := by
     cases goL ts l <;> rfl
    rw [e]; rfl
   | i + 1 =>
    rw [goL, sh, sh, sh, sh]; exact h1 i (by simpa using hi)
  ·rw [goL, List.length_cons, sh, sh]
   exact h2
section
variable {st : List Sp} {wg : List Wg}
theorem stp_hon {p w v : Nat} : stpB st (-1) p w v = true ↔ loS (rdS st p) w ≤ v ∧ (v : Int) ≤ hiS (rdS st p) w := by
 unfold stpB
 rw [if_neg (by omega), inB_one]
theorem fw_come (hok : RdOk st wg) : ∀ (p : Nat), p ≤ st.length → ∀ w : Nat, w ≤ 400 → (fwB st wg (-1) p w = true ↔ inS (comeAt st wg p) (w : Int))
 | 0, _, w, hw => fit_seen wg 0 (w : Int) (by omega)
 | p + 1, hp, v, hv => by
  have ih := fw_come hok p (by omega); have ho := comeAt_ok hok p (by omega); have hst := hok.at (p : Int) (by omega) (by omega); rw [comeAt, inS_and, on_in hst ho, fwB, Bool.and_eq_true, fit_seen wg _ (v : Int) (by omega), List.any_eq_true]
  constructor
  ·rintro ⟨h1, w, hw, h2⟩
   have hw4 := List.mem_range.1 hw; simp only [Bool.and_eq_true, decide_eq_true_eq] at h2; exact ⟨⟨(w : Int), (ih w (by omega)).1 h2.1.2, stp_hon.1 h2.2⟩, h1⟩
  ·rintro ⟨⟨w, h1, h2, h3⟩, h4⟩
   have hb : 0 ≤ w ∧ w ≤ 400 := by unfold okS inS at *; omega
   have h5 := hiS_le hst (w := w) hb.1; obtain ⟨m, rfl⟩ : ∃ m : Nat, w = (m : Int) := ⟨w.toNat, by omega⟩; refine ⟨h4, m, List.mem_range.2 (by omega), ?_⟩; simp only [Bool.and_eq_true, decide_eq_true_eq]; exact ⟨⟨by omega, (ih m (by omega)).2 h1⟩, stp_hon.2 ⟨h2, h3⟩⟩
theorem comeL_rd' (st : List Sp) (wg : List Wg) (j : Nat) (h : j ≤ st.length) : rdS (comeL st wg) (j : Int) = comeAt st wg j := by
 rw [rdS_nat _ _ (by rw [comeL_len]; omega)]
 simp [comeL]
theorem honL_okS (hok : RdOk st wg) (p : Nat) (hp : p ≤ st.length) : okS (rdS (honL st wg) (p : Int)) := by
 rw [rdS_nat _ _ (by rw [honL_len]; omega)]; exact goL_ok st (comeL st wg) (comeL_ok hok) _ (List.getElem_mem _)
theorem fu_hon (hok : RdOk st wg) : ∀ (d p : Nat), p + d = st.length → ∀ w : Nat, w ≤ 400 → (fuB st wg (-1) d p w = true ↔ inS (rdS (honL st wg) (p : Int)) (w : Int))
 | 0, p, hp, w, hw => by
  obtain rfl : p = st.length := by omega
  have h := (goL_rd st (comeL st wg) (comeL_len st wg)).2; rw [honL, h, comeL_rd' st wg _ (Nat.le_refl _)]; exact fw_come hok _ (Nat.le_refl _) w hw
 | d + 1, p, hp, w, hw => by
  have ih := fu_hon hok d (p + 1) (by omega); have h := (goL_rd st (comeL st wg) (comeL_len st wg)).1 p (by omega); have hst := hok.at (p : Int) (by omega) (by omega); have ho := comeAt_ok hok p (by omega); have ho2 := honL_okS hok (p + 1) (by omega); rw [honL, h, comeL_rd' st wg p (by omega), back_in hst ho, fuB, Bool.and_eq_true, fw_come hok p (by omega) w hw, List.any_eq_true]
  constructor
  ·rintro ⟨h1, v, hv, h2⟩
   have hv4 := List.mem_range.1 hv; simp only [Bool.and_eq_true] at h2; exact ⟨h1, (v : Int), (ih v (by omega)).1 h2.1, stp_hon.1 h2.2⟩
  ·rintro ⟨h1, v, h2, h3, h4⟩
   have h5 := hiS_le hst (w := (w : Int)) (by omega)
   have hv0 : 0 ≤ v := by
    have : inS (rdS (honL st wg) ((p + 1 : Nat) : Int)) v := h2
    unfold okS inS at *
    omega
   obtain ⟨m, rfl⟩ : ∃ m : Nat, v = (m : Int) := ⟨v.toNat, by omega⟩; refine ⟨h1, m, List.mem_range.2 (by omega), ?_⟩; rw [Bool.and_eq_true]; exact ⟨(ih m (by omega)).2 h2, stp_hon.2 ⟨h3, h4⟩⟩
theorem hon_is (hok : RdOk st wg) : honB st wg = true ↔ ∃ w : Nat, w ≤ 400 ∧ fuB st wg (-1) st.length 0 w = true := by
 have hn : honB st wg = true ↔ ∀ p : Nat, p ≤ st.length → ¬ (rdS (honL st wg) (p : Int)).lo > (rdS (honL st wg) (p : Int)).hi := by
  unfold honB
  rw [Bool.not_eq_true', List.any_eq_false]
  constructor
  ·intro h p hp
   have h1 := h (rdS (honL st wg) (p : Int)) (by rw [rdS_nat _ _ (by rw [honL_len]; omega)]; exact List.getElem_mem _)
   simpa [noneB] using h1
  ·intro h s hs
   obtain ⟨i, hi, rfl⟩ := List.getElem_of_mem hs; have h1 := h i (by rw [honL_len] at hi; omega); rw [rdS_nat _ _ hi] at h1
   simpa [noneB] using h1
 rw [hn]
 constructor
 ·intro h
  have h0 := h 0 (by omega); have ho := honL_okS hok 0 (by omega)
  generalize hs : rdS (honL st wg) ((0 : Nat) : Int) = s at *
  have hb : 0 ≤ s.lo ∧ s.lo ≤ s.hi ∧ s.hi ≤ 400 := by unfold okS at ho; omega
  refine ⟨s.lo.toNat, by omega, (fu_hon hok st.length 0 (by omega) _ (by omega)).2 ?_⟩; rw [hs]
  unfold inS
  omega
 ·rintro ⟨w, hw, h⟩
  have key : ∀ (d p : Nat), p + d = st.length → (∃ w : Nat, w ≤ 400 ∧ fuB st wg (-1) d p w = true) → ∀ q : Nat, p ≤ q → q ≤ st.length → ¬ (rdS (honL st wg) (q : Int)).lo > (rdS (honL st wg) (q : Int)).hi := by
   intro d
   induction d with
   | zero =>
    rintro p hp ⟨w, hw, h⟩ q h1 h2
    obtain rfl : q = p := by omega
    have := (fu_hon hok 0 q (by omega) w hw).1 h
    unfold inS at this
    omega
   | succ d ih =>
    rintro p hp ⟨w, hw, h⟩ q h1 h2
    by_cases e : q = p
    ·subst e
     have := (fu_hon hok (d + 1) q (by omega) w hw).1 h
     unfold inS at this
     omega
    ·rw [fuB, Bool.and_eq_true, List.any_eq_true] at h
     obtain ⟨_, v, hv, h3⟩ := h; have hv4 := List.mem_range.1 hv; rw [Bool.and_eq_true] at h3; exact ih (p + 1) (by omega) ⟨v, by omega, h3.1⟩ q (by omega) h2
  exact fun p hp => key st.length 0 (by omega) ⟨w, hw, h⟩ p (by omega) hp
end
end Go.Proofs.YtemingmeidmjkaaDoor.Q
namespace Go.Proofs.YtemingmeidmjkaaDoor.Q
open Go.RowKit Go.Proofs.YtemingmeidmjkaaDoorW.PrintWords
set_option linter.unusedVariables false
set_option linter.unusedSimpArgs false
structure Pth (st : List Sp) (wg : List Wg) (th : Int) (A : Nat → Nat) : Prop where
 le : ∀ p, p ≤ st.length → A p ≤ 400
 fit : ∀ p : Nat, p ≤ st.length → fitB wg (p : Int) (A p : Int) = true
 dn : ∀ p, p < st.length → A (p + 1) ≤ A p
 stp : ∀ p, p < st.length → stpB st th p (A p) (A (p + 1)) = true
section
variable {st : List Sp} {wg : List Wg} {th : Int} {A : Nat → Nat}
theorem Pth.fw (h : Pth st wg th A) : ∀ p, p ≤ st.length → fwB st wg th p (A p) = true
 | 0, _ => h.fit 0 (Nat.zero_le _)
 | p + 1, hp => by
  rw [fwB, Bool.and_eq_true, List.any_eq_true]; refine ⟨h.fit (p + 1) hp, A p, List.mem_range.2 (by have := h.le p (by omega); omega), ?_⟩; simp only [Bool.and_eq_true, decide_eq_true_eq]; exact ⟨⟨h.dn p (by omega), h.fw p (by omega)⟩, h.stp p (by omega)⟩
theorem Pth.fu (h : Pth st wg th A) : ∀ d p, p + d = st.length → fuB st wg th d p (A p) = true
 | 0, p, hd => by rw [fuB]; exact h.fw p (by omega)
 | d + 1, p, hd => by
  rw [fuB, Bool.and_eq_true, List.any_eq_true]; refine ⟨h.fw p (by omega), A (p + 1), List.mem_range.2 (by have := h.dn p (by omega); omega), ?_⟩; rw [Bool.and_eq_true]; exact ⟨h.fu d (p + 1) (by omega), h.stp p (by omega)⟩
theorem LvP.path {g : Int} {B T : List Int} (h : LvP st th st.length g B T) (hst : ∀ s ∈ st, stB s) (hw : ∀ x ∈ wg, wHit B x) (th' : Int) (hth : (g = 0 ∧ th' = -1) ∨ (1 ≤ g ∧ th' = th ∧ 0 ≤ th)) : Pth st wg th' (fun p => (rd B (p : Int)).toNat) := by
 have key : ∀ p : Nat, p < st.length → (rd B ((p + 1 : Nat) : Int) = rd B (p : Int) - rd T (p : Int) - (if (p : Int) = th then g else 0)) ∧ loS (rdS st (p : Int)) (rd B (p : Int)) ≤ rd B (p : Int) - rd T (p : Int) ∧ rd B (p : Int) - rd T (p : Int) ≤ hiS (rdS st (p : Int)) (rd B (p : Int)) ∧ hiS (rdS st (p : Int)) (rd B (p : Int)) ≤ rd B (p : Int) ∧ 0 ≤ rd B (p : Int) ∧ 0 ≤ rd B ((p + 1 : Nat) : Int) := by
  intro p hp
  have hv : stB (rdS st (p : Int)) := by
   rw [rdS_nat _ _ hp]; exact hst _ (List.getElem_mem _)
  have h1 := h.bd p (by omega); have h2 := h.bd (p + 1) (by omega); obtain ⟨h3, h4, h5⟩ := h.step p hp; exact ⟨h5, h3, h4, hiS_le hv h1.1, h1.1, h2.1⟩
 have hgn := h.gn; refine ⟨fun p hp => ?_, fun p hp => ?_, fun p hp => ?_, fun p hp => ?_⟩
 ·have := h.bd p hp
  try simp only
  omega
 ·have hb := h.bd p hp
  rw [fitB_iff]; intro x hx hxp; have h2 := hw x hx
  unfold wHit at h2
  rw [hxp] at h2
  try simp only
  omega
 ·obtain ⟨h1, h2, h3, h4, h5, h6⟩ := key p hp
  try simp only
  by_cases e : (p : Int) = th
  ·rw [if_pos e] at h1; omega
  ·rw [if_neg e] at h1; omega
 ·obtain ⟨h1, h2, h3, h4, h5, h6⟩ := key p hp
  have e1 : (((rd B (p : Int)).toNat : Nat) : Int) = rd B (p : Int) := by omega
  have e2 : (((rd B ((p + 1 : Nat) : Int)).toNat : Nat) : Int) = rd B ((p + 1 : Nat) : Int) := by omega
  unfold stpB
  rcases hth with ⟨hg, ht⟩ | ⟨hg, ht, h0⟩
  ·rw [if_neg (by omega), inB_one, e1, e2]
   rw [hg] at h1; simp only [ite_self] at h1; omega
  ·rw [ht]
   by_cases e : (p : Int) = th
   ·rw [if_pos e] at h1
    rw [if_pos e, decide_eq_true_eq, e1, e2]; omega
   ·rw [if_neg e] at h1
    rw [if_neg e, inB_one, e1, e2]; omega
theorem Pth.hon (hok : RdOk st wg) (h : Pth st wg (-1) A) : honB st wg = true := (hon_is hok).2 ⟨A 0, h.le 0 (Nat.zero_le _), h.fu st.length 0 (by omega)⟩
end
end Go.Proofs.YtemingmeidmjkaaDoor.Q
namespace Go.Proofs.YtemingmeidmjkaaDoor.Q
open Go.RowKit Go.Proofs.YtemingmeidmjkaaDoorW.PrintWords Go.Proofs.YtemingmeidmjkaaDoorW.PrintLast Go.Proofs.YtemingmeidmjkaaDoorW.PrintMore
attribute [local go_sem] max2_int min2_int max_two min_two max_three min_three max_four min_four   -- for this text's walks alone
set_option linter.unusedVariables false
set_option linter.unusedSimpArgs false
def wool_Missing.f (l0_0 : List (S41)) (l0_1 : List (S80)) : Option (Int × Int × Int) := some ((msS (toSt l0_0) (toWg l0_1)).lo, (msS (toSt l0_0) (toWg l0_1)).hi, msE (toSt l0_0) (toWg l0_1))
theorem wool_Missing.calls (A0_0 : Option Addr) (c0_0 : Nat) (l0_0 : List (S41)) (A0_1 : Option Addr) (c0_1 : Nat) (l0_1 : List (S80)) (r1 : Int) (r2 : Int) (r3 : Int) (w : World) (hG : GL w) (hr0_0 : Kd.C k41 w A0_0 l0_0.length l0_0) (hc0_0 : l0_0.length ≤ c0_0) (hr0_1 : Kd.C k80 w A0_1 l0_1.length l0_1) (hc0_1 : l0_1.length ≤ c0_1) (h : wool_Missing.f l0_0 l0_1 = some (r1, r2, r3)) :
  Calls Tryd.prog 29 #[.agg #[.slice A0_0 l0_0.length c0_0, .slice A0_1 l0_1.length c0_1]] w fun e w' => e = .returned (.tuple #[.agg #[.int .i64 r1, .int .i64 r2], .int .i64 r3]) ∧ Below w.heap.size w w' := by
 simp only [wool_Missing.f, Option.some.injEq, Prod.mk.injEq] at h; obtain ⟨rfl, rfl, rfl⟩ := h; have H := missing_ A0_0 c0_0 (toSt l0_0) A0_1 c0_1 (toWg l0_1) w hG (toSt_C hr0_0) (toSt_c hc0_0) (toWg_C hr0_1) (toWg_c hc0_1); rw [toSt_len, toWg_len] at H; exact H
end Go.Proofs.YtemingmeidmjkaaDoor.Q
namespace Go.Proofs.YtemingmeidmjkaaDoor.Q
open Go.RowKit Go.Proofs.YtemingmeidmjkaaDoorW.PrintWords Go.Proofs.YtemingmeidmjkaaDoorW.PrintLast Go.Proofs.YtemingmeidmjkaaDoorW.PrintMore
attribute [local go_sem] max2_int min2_int max_two min_two max_three min_three max_four min_four   -- for this text's walks alone
set_option linter.unusedVariables false
set_option linter.unusedSimpArgs false
def wool_Where.f (l0_0 : List (S41)) (l0_1 : List (S80)) : Option (List Int × Int) := some (owL (toSt l0_0) (toWg l0_1), owE (toSt l0_0) (toWg l0_1))
theorem wool_Where.calls (A0_0 : Option Addr) (c0_0 : Nat) (l0_0 : List (S41)) (A0_1 : Option Addr) (c0_1 : Nat) (l0_1 : List (S80)) (r1 : List Int) (r2 : Int) (w : World) (hG : GL w) (hr0_0 : Kd.C k41 w A0_0 l0_0.length l0_0) (hc0_0 : l0_0.length ≤ c0_0) (hr0_1 : Kd.C k80 w A0_1 l0_1.length l0_1) (hc0_1 : l0_1.length ≤ c0_1) (h : wool_Where.f l0_0 l0_1 = some (r1, r2)) :
  Calls Tryd.prog 31 #[.agg #[.slice A0_0 l0_0.length c0_0, .slice A0_1 l0_1.length c0_1]] w fun e w' => ∃ v0_ : Value, e = .returned (.tuple #[v0_, .int .i64 r2]) ∧ Kd.R (Kd.int .i64) 3 w' w.heap.size (fun _ => True) v0_ r1 ∧ Below w.heap.size w w' := by
 simp only [wool_Where.f, Option.some.injEq, Prod.mk.injEq] at h; obtain ⟨rfl, rfl⟩ := h; have H := Where_ A0_0 c0_0 (toSt l0_0) A0_1 c0_1 (toWg l0_1) w hG (toSt_C hr0_0) (toSt_c hc0_0) (toWg_C hr0_1) (toWg_c hc0_1); rw [toSt_len, toWg_len] at H; refine H.mono ?_; rintro e w' ⟨v, he, h1, h2⟩; exact ⟨v, he, ints_R h1, h2⟩
def wool_Amount.f (l0_0 : List (S41)) (l0_1 : List (S80)) (a1 : Int) : Option (Int × Int × Int) := some ((amS (toSt l0_0) (toWg l0_1) a1).lo, (amS (toSt l0_0) (toWg l0_1) a1).hi, amE (toSt l0_0) (toWg l0_1) a1)
theorem wool_Amount.calls (A0_0 : Option Addr) (c0_0 : Nat) (l0_0 : List (S41)) (A0_1 : Option Addr) (c0_1 : Nat) (l0_1 : List (S80)) (a1 : Int) (r1 : Int) (r2 : Int) (r3 : Int) (w : World) (hG : GL w) (hr0_0 : Kd.C k41 w A0_0 l0_0.length l0_0) (hc0_0 : l0_0.length ≤ c0_0) (hr0_1 : Kd.C k80 w A0_1 l0_1.length l0_1) (hc0_1 : l0_1.length ≤ c0_1) (h : wool_Amount.f l0_0 l0_1 a1 = some (r1, r2, r3)) :
  Calls Tryd.prog 32 #[.agg #[.slice A0_0 l0_0.length c0_0, .slice A0_1 l0_1.length c0_1], .int .i64 a1] w fun e w' => e = .returned (.tuple #[.agg #[.int .i64 r1, .int .i64 r2], .int .i64 r3]) ∧ Below w.heap.size w w' := by
 simp only [wool_Amount.f, Option.some.injEq, Prod.mk.injEq] at h; obtain ⟨rfl, rfl, rfl⟩ := h; have H := amount_ A0_0 c0_0 (toSt l0_0) A0_1 c0_1 (toWg l0_1) a1 w hG (toSt_C hr0_0) (toSt_c hc0_0) (toWg_C hr0_1) (toWg_c hc0_1); rw [toSt_len, toWg_len] at H; exact H
end Go.Proofs.YtemingmeidmjkaaDoor.Q
namespace Go.Proofs.YtemingmeidmjkaaDoor.Q
open Go.RowKit Go.Proofs.YtemingmeidmjkaaDoorW.PrintWords Go.Proofs.YtemingmeidmjkaaDoorW.PrintLast Go.Proofs.YtemingmeidmjkaaDoorW.PrintMore
attribute [local go_sem] max2_int min2_int max_two min_two max_three min_three max_four min_four   -- for this text's walks alone
set_option linter.unusedVariables false
set_option linter.unusedSimpArgs false
end Go.Proofs.YtemingmeidmjkaaDoor.Q
namespace Go.Proofs.YtemingmeidmjkaaDoor.Q
open Go.RowKit Go.Proofs.YtemingmeidmjkaaDoorW.PrintWords Go.Proofs.YtemingmeidmjkaaDoorW.PrintLast Go.Proofs.YtemingmeidmjkaaDoorW.PrintMore
attribute [local go_sem] max2_int min2_int max_two min_two max_three min_three max_four min_four   -- for this text's walks alone
set_option linter.unusedVariables false
set_option linter.unusedSimpArgs false
end Go.Proofs.YtemingmeidmjkaaDoor.Q
namespace Go.Proofs.YtemingmeidmjkaaDoor.Q
open Go.RowKit Go.Proofs.YtemingmeidmjkaaDoorW.PrintWords
set_option linter.unusedVariables false
set_option linter.unusedSimpArgs false
structure CtOk (st : List S41) (ws : List S80) : Prop where
 sts : ∀ s ∈ toSt st, stB s
 n1 : 1 ≤ st.length
 n4 : st.length ≤ 4
 w6 : ws.length ≤ 6
 wgs : ∀ x ∈ toWg ws, wOk st.length x
theorem CtOk.rd {st : List S41} {ws : List S80} (h : CtOk st ws) : RdOk (toSt st) (toWg ws) :=
 ⟨h.sts, fun x hx => by have := h.wgs x hx; unfold wOk at this; exact ⟨this.2.1, by omega⟩, by have := h.n4; rw [toSt_len]; omega⟩
theorem CtOk.e {st : List S41} {ws : List S80} (h : CtOk st ws) : roadE (toSt st) (toWg ws) = 0 := by
 have h1 := h.n1; have h2 := h.n4; have h3 := h.w6
 refine roadE_ok (by rw [toSt_len]; omega) (by rw [toSt_len]; omega) h.sts (by rw [toWg_len]; omega) fun x hx => ?_
 have := h.wgs x hx
 unfold wOk at this
 rw [toSt_len]; omega
theorem u16_wf {x : Int} (h : (Lit.int .u16 x).wf = true) : 0 ≤ x ∧ x ≤ 65535 := by
 simp only [Lit.wf, Bool.and_eq_true, decide_eq_true_eq] at h; exact h
end Go.Proofs.YtemingmeidmjkaaDoor.Q
namespace Go.Proofs.YtemingmeidmjkaaDoor.Q
open Go.RowKit Go.Proofs.YtemingmeidmjkaaDoorW.PrintWords Go.Proofs.YtemingmeidmjkaaDoorW.PrintLast Go.Proofs.YtemingmeidmjkaaDoorW.PrintMore
attribute [local go_sem] max2_int min2_int max_two min_two max_three min_three max_four min_four   -- for this text's walks alone
set_option linter.unusedVariables false
set_option linter.unusedSimpArgs false
end Go.Proofs.YtemingmeidmjkaaDoor.Q
namespace Go.Proofs.YtemingmeidmjkaaDoor.Q
open Go.RowKit Go.Proofs.YtemingmeidmjkaaDoorW.PrintWords Go.Proofs.YtemingmeidmjkaaDoorW.PrintLast Go.Proofs.YtemingmeidmjkaaDoorW.PrintMore
attribute [local go_sem] max2_int min2_int max_two min_two max_three min_three max_four min_four   -- for this text's walks alone
set_option linter.unusedVariables false
set_option linter.unusedSimpArgs false
end Go.Proofs.YtemingmeidmjkaaDoor.Q
namespace Go.Proofs.YtemingmeidmjkaaDoor.Q
open Go.RowKit Go.Proofs.YtemingmeidmjkaaDoorW.PrintWords Go.Proofs.YtemingmeidmjkaaDoorW.PrintLast Go.Proofs.YtemingmeidmjkaaDoorW.PrintMore
attribute [local go_sem] max2_int min2_int max_two min_two max_three min_three max_four min_four   -- for this text's walks alone
set_option linter.unusedVariables false
set_option linter.unusedSimpArgs false
end Go.Proofs.YtemingmeidmjkaaDoor.Q
namespace Go.Proofs.YtemingmeidmjkaaDoor.Q
open Go.RowKit Go.Proofs.YtemingmeidmjkaaDoorW.PrintWords Go.Proofs.YtemingmeidmjkaaDoorW.PrintLast Go.Proofs.YtemingmeidmjkaaDoorW.PrintMore
attribute [local go_sem] max2_int min2_int max_two min_two max_three min_three max_four min_four   -- for this text's walks alone
set_option linter.unusedVariables false
set_option linter.unusedSimpArgs false
def wool_Check.f (l0_0 : List (S41)) (l0_1 : List (S80)) : Option (Int) := some (roadE (toSt l0_0) (toWg l0_1))
theorem wool_Check.calls (A0_0 : Option Addr) (c0_0 : Nat) (l0_0 : List (S41)) (A0_1 : Option Addr) (c0_1 : Nat) (l0_1 : List (S80)) (r : Int) (w : World) (hr0_0 : Kd.C k41 w A0_0 l0_0.length l0_0) (hc0_0 : l0_0.length ≤ c0_0) (hr0_1 : Kd.C k80 w A0_1 l0_1.length l0_1) (hc0_1 : l0_1.length ≤ c0_1) (h : wool_Check.f l0_0 l0_1 = some r) :
  Calls Tryd.prog 19 #[.agg #[.slice A0_0 l0_0.length c0_0, .slice A0_1 l0_1.length c0_1]] w fun e w' => e = .returned (.int .i64 r) ∧ Below w.heap.size w w' := by
 simp only [wool_Check.f, Option.some.injEq, Prod.mk.injEq] at h; obtain rfl := h; have H := check_ A0_0 c0_0 (toSt l0_0) A0_1 c0_1 (toWg l0_1) w (toSt_C hr0_0) (toSt_c hc0_0) (toWg_C hr0_1) (toWg_c hc0_1); rw [toSt_len, toWg_len] at H; exact H
end Go.Proofs.YtemingmeidmjkaaDoor.Q
namespace Go.Proofs.YtemingmeidmjkaaDoor.Q
open Go.RowKit Go.Proofs.YtemingmeidmjkaaDoorW.PrintWords Go.Proofs.YtemingmeidmjkaaDoorW.PrintLast Go.Proofs.YtemingmeidmjkaaDoorW.PrintMore
attribute [local go_sem] max2_int min2_int max_two min_two max_three min_three max_four min_four   -- for this text's walks alone
set_option linter.unusedVariables false
set_option linter.unusedSimpArgs false
end Go.Proofs.YtemingmeidmjkaaDoor.Q
namespace Go.Proofs.YtemingmeidmjkaaDoor.Q
open Go.RowKit Go.Proofs.YtemingmeidmjkaaDoorW.PrintWords Go.Proofs.YtemingmeidmjkaaDoorW.PrintLast Go.Proofs.YtemingmeidmjkaaDoorW.PrintMore
attribute [local go_sem] max2_int min2_int max_two min_two max_three min_three max_four min_four   -- for this text's walks alone
set_option linter.unusedVariables false
set_option linter.unusedSimpArgs false
end Go.Proofs.YtemingmeidmjkaaDoor.Q
namespace Go.Proofs.YtemingmeidmjkaaDoor.Q
open Go.RowKit Go.Proofs.YtemingmeidmjkaaDoorW.PrintWords Go.Proofs.YtemingmeidmjkaaDoorW.PrintLast Go.Proofs.YtemingmeidmjkaaDoorW.PrintMore
attribute [local go_sem] max2_int min2_int max_two min_two max_three min_three max_four min_four   -- for this text's walks alone
set_option linter.unusedVariables false
set_option linter.unusedSimpArgs false
end Go.Proofs.YtemingmeidmjkaaDoor.Q
namespace Go.Proofs.YtemingmeidmjkaaDoor.Y
open Go.RowKit Go.Proofs.YtemingmeidmjkaaDoorW.PrintWords Go.Proofs.YtemingmeidmjkaaDoorW.PrintLast Go.Proofs.YtemingmeidmjkaaDoorW.PrintMore
attribute [local go_sem] max2_int min2_int max_two min_two max_three min_three max_four min_four   -- for this text's walks alone
set_option linter.unusedVariables false
set_option linter.unusedSimpArgs false
end Go.Proofs.YtemingmeidmjkaaDoor.Y
namespace Go.Proofs.YtemingmeidmjkaaDoor.Y
open Go.RowKit Go.Proofs.YtemingmeidmjkaaDoorW.PrintWords Go.Proofs.YtemingmeidmjkaaDoorW.PrintLast Go.Proofs.YtemingmeidmjkaaDoorW.PrintMore
attribute [local go_sem] max2_int min2_int max_two min_two max_three min_three max_four min_four   -- for this text's walks alone
set_option linter.unusedVariables false
set_option linter.unusedSimpArgs false
end Go.Proofs.YtemingmeidmjkaaDoor.Y
namespace Go.Proofs.YtemingmeidmjkaaDoor.Y
open Go.RowKit Go.Proofs.YtemingmeidmjkaaDoorW.PrintWords Go.Proofs.YtemingmeidmjkaaDoorW.PrintLast Go.Proofs.YtemingmeidmjkaaDoorW.PrintMore
attribute [local go_sem] max2_int min2_int max_two min_two max_three min_three max_four min_four   -- for this text's walks alone
set_option linter.unusedVariables false
set_option linter.unusedSimpArgs false
end Go.Proofs.YtemingmeidmjkaaDoor.Y
namespace Go.Proofs.YtemingmeidmjkaaDoor.Q
open Go.RowKit Go.Shelf Go.Proofs.YtemingmeidmjkaaDoorW.PrintWords Go.Proofs.YtemingmeidmjkaaDoorW.PrintLast Go.Proofs.YtemingmeidmjkaaDoorW.PrintMore
set_option linter.unusedVariables false
set_option linter.unusedSimpArgs false
section
attribute [local go_sem] max2_int min2_int max_two min_two max_three min_three max_four min_four
end
end Go.Proofs.YtemingmeidmjkaaDoor.Q
namespace Go.Proofs.YtemingmeidmjkaaDoor.Q
open Go.RowKit Go.Shelf Go.Proofs.YtemingmeidmjkaaDoorW.PrintWords Go.Proofs.YtemingmeidmjkaaDoorW.PrintLast
set_option linter.unusedVariables false
set_option linter.unusedSimpArgs false
theorem and_one (n : Int) : Go.bits .and .i64 n 1 = n % 2 := by
 have h1 : (BitVec.ofInt 64 1).toNat = 2 ^ 1 - 1 := by decide
 have key : (BitVec.ofInt 64 n &&& BitVec.ofInt 64 1).toNat = (n % ((2 ^ 64 : Nat) : Int)).toNat % 2 ^ 1 := by
  rw [BitVec.toNat_and, BitVec.toNat_ofInt, h1, Nat.and_two_pow_sub_one_eq_mod]
 show IntKind.i64.wrap ((BitVec.ofInt 64 n &&& BitVec.ofInt 64 1).toNat : Nat) = n % 2
 rw [key, IntKind.wrap_i64]; omega
theorem shr_nat (set : Int) (i : Nat) (h : i ≤ 64) : shr .i64 set (i : Int) = set / 2 ^ i := by
 unfold shr
 rw [Int.toNat_natCast, Nat.min_eq_left (show i ≤ IntKind.i64.bits from h)]
theorem bitB_div (set : Int) (i : Nat) (h : i ≤ 64) : bitB set (i : Int) = decide (set / 2 ^ i % 2 = 1) := by
 unfold bitB
 rw [and_one, shr_nat set i h]
end Go.Proofs.YtemingmeidmjkaaDoor.Q
namespace Go.Proofs.YtemingmeidmjkaaDoor.Q
open Go.RowKit Go.Proofs.YtemingmeidmjkaaDoorW.PrintWords Go.Proofs.YtemingmeidmjkaaDoorW.PrintLast Go.Proofs.YtemingmeidmjkaaDoorW.PrintMore
attribute [local go_sem] max2_int min2_int max_two min_two max_three min_three max_four min_four   -- for this text's walks alone
set_option linter.unusedVariables false
set_option linter.unusedSimpArgs false
end Go.Proofs.YtemingmeidmjkaaDoor.Q
namespace Go.Proofs.YtemingmeidmjkaaDoor.Q
open Go.RowKit Go.Proofs.YtemingmeidmjkaaDoorW.PrintWords Go.Proofs.YtemingmeidmjkaaDoorW.PrintLast Go.Proofs.YtemingmeidmjkaaDoorW.PrintMore
attribute [local go_sem] max2_int min2_int max_two min_two max_three min_three max_four min_four   -- for this text's walks alone
set_option linter.unusedVariables false
set_option linter.unusedSimpArgs false
end Go.Proofs.YtemingmeidmjkaaDoor.Q
namespace Go.Proofs.YtemingmeidmjkaaDoor.Q
open Go.RowKit Go.Proofs.YtemingmeidmjkaaDoorW.PrintWords
set_option linter.unusedVariables false
set_option linter.unusedSimpArgs false
theorem bit_test (s i : Nat) (h : i ≤ 64) : bitB (s : Int) (i : Int) = s.testBit i := by
 rw [bitB_div _ i h, Nat.testBit_eq_decide_div_mod_eq, decide_eq_decide]
 have e : ((s : Int) / 2 ^ i) = ((s / 2 ^ i : Nat) : Int) := by
  rw [show ((2 : Int) ^ i) = ((2 ^ i : Nat) : Int) by rw [Int.natCast_pow]; rfl]; rfl
 rw [e]
 generalize s / 2 ^ i = q
 omega
theorem dropN_ne (s n : Nat) (hn : n ≤ 64) (h0 : 0 < s) (hs : s < 2 ^ n) : dropN (s : Int) n ≠ [] := by
 intro h
 have h1 : ∀ i, i < n → s.testBit i = false := by
  intro i hi; rw [← bit_test s i (by omega)]
  cases hb : bitB (s : Int) (i : Int)
  ·rfl
  ·have : (i : Int) ∈ dropN (s : Int) n := List.mem_map.2 ⟨i, List.mem_filter.2 ⟨List.mem_range.2 hi, hb⟩, rfl⟩
   rw [h] at this
   simp at this
 have h2 : s = 0 := by
  refine Nat.eq_of_testBit_eq (fun i => ?_); rw [Nat.zero_testBit]
  by_cases hi : i < n
  ·exact h1 i hi
  ·exact Nat.testBit_lt_two_pow (Nat.lt_of_lt_of_le hs (Nat.pow_le_pow_right (by omega) (by omega)))
 omega
theorem keepN_all (wg : List Wg) (n : Nat) (hn : n ≤ 64) : keepN wg ((2 ^ n - 1 : Nat) : Int) n = [] := by
 unfold keepN
 rw [List.map_eq_nil_iff, List.filter_eq_nil_iff]; intro i hi; have hi' := List.mem_range.1 hi; rw [bit_test _ i (by omega), Nat.testBit_two_pow_sub_one]
 simp [hi']
theorem keepN_zero (wg : List Wg) (hn : wg.length ≤ 64) : keepN wg 0 wg.length = wg := by
 unfold keepN
 have e : (List.range wg.length).filter (fun (i : Nat) => !bitB 0 i) = List.range wg.length := by
  refine List.filter_eq_self.2 fun i hi => ?_
  have hi' := List.mem_range.1 hi; have := bit_test 0 i (by omega); rw [show ((0 : Nat) : Int) = 0 from rfl] at this; rw [this, Nat.zero_testBit]; rfl
 rw [e]
 apply List.ext_getElem?
 intro i; rw [List.getElem?_map]
 by_cases hi : i < wg.length
 ·rw [List.getElem?_range hi, List.getElem?_eq_getElem hi]
  simp [rdWg, hi]
 ·rw [List.getElem?_eq_none (by simpa using hi), List.getElem?_eq_none (by omega)]
  rfl
theorem stp_zero (st : List Sp) (p : Nat) : stpB st (-1) p 0 0 = true := by
 rw [stp_hon]
 unfold loS hiS
 simp
theorem fw_zero (st : List Sp) : ∀ p : Nat, fwB st [] (-1) p 0 = true
 | 0 => rfl
 | p + 1 => by
  rw [fwB, Bool.and_eq_true, List.any_eq_true]; refine ⟨rfl, 0, List.mem_range.2 (by omega), ?_⟩; rw [fw_zero st p, stp_zero]; rfl
theorem fu_zero (st : List Sp) : ∀ d p : Nat, fuB st [] (-1) d p 0 = true
 | 0, p => fw_zero st p
 | d + 1, p => by
  rw [fuB, Bool.and_eq_true, List.any_eq_true]; refine ⟨fw_zero st p, 0, List.mem_range.2 (by omega), ?_⟩; rw [fu_zero st d (p + 1), stp_zero]; rfl
theorem hon_empty {st : List Sp} {wg : List Wg} (h : RdOk st wg) : honB st [] = true := by
 have hok : RdOk st [] := ⟨h.sts, fun x hx => by simp at hx, h.len⟩; exact (hon_is hok).2 ⟨0, by omega, fu_zero st _ 0⟩
section
variable {st : List Sp} {wg : List Wg}
theorem wr_ne (hok : RdOk st wg) (hn : wg.length ≤ 64) (h : honB st wg = false) : wrL st wg ≠ [] := by
 have hp : 1 ≤ 2 ^ wg.length := Nat.one_le_two_pow
 by_cases h1 : 2 ^ wg.length = 1
 ·have : wg.length = 0 := by
   cases hw : wg.length with
   | zero => rfl
   | succ n => rw [hw, Nat.pow_succ] at h1; have := Nat.one_le_two_pow (n := n); omega
  rw [List.length_eq_zero_iff.1 this, hon_empty hok] at h
  cases h
 ·unfold wrL
  obtain ⟨m, hm⟩ : ∃ m, 2 ^ wg.length - 1 = m + 1 := ⟨2 ^ wg.length - 2, by omega⟩; have hk := keepN_all wg wg.length hn; have hD := dropN_ne (m + 1) wg.length hn (by omega) (by omega); rw [hm] at hk; rw [hm, wrN_succ, wrStep, hk, hon_empty hok]; simp only [if_true]
  generalize dropN ((m + 1 : Nat) : Int) wg.length = D at *
  split
  ·exact hD
  ·rename_i hb
   split
   ·exact hD
   ·split
    ·split
     ·exact hD
     ·exact hb
    ·exact hb
end
end Go.Proofs.YtemingmeidmjkaaDoor.Q
namespace Go.Proofs.YtemingmeidmjkaaDoor.Q
open Go.RowKit Go.Proofs.YtemingmeidmjkaaDoorW.PrintWords
set_option linter.unusedVariables false
set_option linter.unusedSimpArgs false
def kpW (wg : List Wg) (g : Nat → Bool) (k : Nat) : List Wg := ((List.range k).filter fun i => !g i).map fun (i : Nat) => rdWg wg i
def kpS (ws : List S80) (g : Nat → Bool) (k : Nat) : List S80 := ((List.range k).filter fun i => !g i).map fun (i : Nat) => rd_T80 ws i
def cnt (g : Nat → Bool) (k : Nat) : Nat := ((List.range k).filter g).length
theorem cnt_succ (g : Nat → Bool) (k : Nat) : cnt g (k + 1) = cnt g k + (if g k then 1 else 0) := by
 unfold cnt
 rw [List.range_succ, List.filter_append, List.length_append]
 congr 1
 cases h : g k <;> simp [h]
theorem kpS_succ (ws : List S80) (g : Nat → Bool) (k : Nat) : kpS ws g (k + 1) = kpS ws g k ++ (if g k then [] else [rd_T80 ws k]) := by
 unfold kpS
 rw [List.range_succ, List.filter_append, List.map_append]
 congr 1
 cases h : g k <;> simp [h]
theorem filter_congr' {f g : Nat → Bool} {k : Nat} (h : ∀ i, i < k → f i = g i) : (List.range k).filter f = (List.range k).filter g :=
 List.filter_congr fun i hi => h i (List.mem_range.1 hi)
theorem kpW_congr (wg : List Wg) {f g : Nat → Bool} {k : Nat} (h : ∀ i, i < k → f i = g i) : kpW wg f k = kpW wg g k := by
 unfold kpW
 rw [filter_congr' (g := fun i => !g i) fun i hi => by rw [h i hi]]
theorem cnt_congr {f g : Nat → Bool} {k : Nat} (h : ∀ i, i < k → f i = g i) : cnt f k = cnt g k := by
 unfold cnt
 rw [filter_congr' h]
theorem cnt_le {f g : Nat → Bool} : ∀ {k : Nat}, (∀ i, i < k → f i = true → g i = true) → cnt f k ≤ cnt g k
 | 0, _ => Nat.le_refl _
 | k + 1, h => by
  rw [cnt_succ, cnt_succ]; have ih := cnt_le (k := k) (fun i hi => h i (by omega)); have h1 := h k (by omega)
  cases hf : f k
  ·simp only [Bool.false_eq_true, if_false]; omega
  ·rw [h1 hf]
   simp only [if_true]; omega
theorem cnt_lt {f g : Nat → Bool} {j : Nat} (hj : g j = true) (hf : f j = false) : ∀ {k : Nat}, j < k → (∀ i, i < k → f i = true → g i = true) → cnt f k < cnt g k
 | 0, h, _ => by omega
 | k + 1, hk, h => by
  rw [cnt_succ, cnt_succ]
  by_cases e : j = k
  ·subst e
   have := cnt_le (k := j) (fun i hi => h i (by omega)); rw [hj, hf]; simp only [if_true, Bool.false_eq_true, if_false]; omega
  ·have ih := cnt_lt hj hf (k := k) (by omega) (fun i hi => h i (by omega))
   have h1 := h k (by omega)
   cases hf : f k
   ·simp only [Bool.false_eq_true, if_false]; omega
   ·rw [h1 hf]
    simp only [if_true]; omega
theorem keepN_kp (wg : List Wg) (s n : Nat) (hn : n ≤ 64) : keepN wg (s : Int) n = kpW wg (fun i => s.testBit i) n :=
 kpW_congr (f := fun i => bitB (s : Int) (i : Int)) wg fun i hi => bit_test s i (by omega)
theorem dropN_cnt (s n : Nat) (hn : n ≤ 64) : (dropN (s : Int) n).length = cnt (fun i => s.testBit i) n := by
 unfold dropN
 rw [List.length_map]
 exact cnt_congr (f := fun i => bitB (s : Int) (i : Int)) fun i hi => bit_test s i (by omega)
theorem bits_of : ∀ (n : Nat) (g : Nat → Bool), ∃ s, s < 2 ^ n ∧ ∀ i, i < n → s.testBit i = g i
 | 0, g => ⟨0, by simp, fun i hi => by omega⟩
 | n + 1, g => by
  obtain ⟨s, h1, h2⟩ := bits_of n (fun i => g (i + 1)); refine ⟨2 * s + (g 0).toNat, ?_, fun i hi => ?_⟩
  ·rw [Nat.pow_succ]
   have := Bool.toNat_le (g 0); omega
  ·cases i with
   | zero =>
    rw [Nat.testBit_zero]
    cases g 0 <;> simp <;> omega
   | succ i =>
    rw [Nat.testBit_succ, show (2 * s + (g 0).toNat) / 2 = s by have := Bool.toNat_le (g 0); omega]; exact h2 i (by omega)
theorem kpW_zero (wg : List Wg) (hn : wg.length ≤ 64) : kpW wg (fun _ => false) wg.length = wg := by
 have h := keepN_zero wg hn; have e := keepN_kp wg 0 wg.length hn; rw [show ((0 : Nat) : Int) = 0 from rfl, h] at e; rw [kpW_congr wg (g := fun i => (0 : Nat).testBit i) fun i hi => by rw [Nat.zero_testBit]]; exact e.symm
theorem kpS_wg (ws : List S80) (g : Nat → Bool) : toWg (kpS ws g ws.length) = kpW (toWg ws) g ws.length := by
 unfold kpS kpW toWg
 rw [List.map_map]
 refine List.map_congr_left fun i hi => ?_
 have h := List.mem_range.1 (List.mem_filter.1 hi).1
 simp [rdWg, rd_T80, h]
theorem kpW_mem {wg : List Wg} {g : Nat → Bool} {x : Wg} (h : x ∈ kpW wg g wg.length) : x ∈ wg ∧ ∃ i, i < wg.length ∧ g i = false ∧ x = rdWg wg i := by
 unfold kpW at h
 obtain ⟨i, hi, rfl⟩ := List.mem_map.1 h; obtain ⟨h1, h2⟩ := List.mem_filter.1 hi; have h3 := List.mem_range.1 h1; exact ⟨rdWg_mem wg i (by omega) (by omega), i, h3, by simpa using h2, rfl⟩
theorem kp_ok {st : List Sp} {wg : List Wg} (h : RdOk st wg) (g : Nat → Bool) : RdOk st (kpW wg g wg.length) := ⟨h.sts, fun x hx => h.wgs x (kpW_mem hx).1, h.len⟩
def wrMin (st : List Sp) (wg : List Wg) (k s : Nat) : Prop := 1 ≤ s ∧ s ≤ k ∧ honB st (keepN wg (s : Int) wg.length) = true ∧ ∀ s' : Nat, 1 ≤ s' → s' ≤ k → honB st (keepN wg (s' : Int) wg.length) = true → (dropN (s : Int) wg.length).length ≤ (dropN (s' : Int) wg.length).length
theorem wr_spec (st : List Sp) (wg : List Wg) (hn : wg.length ≤ 64) : ∀ k, k < 2 ^ wg.length → (wrN st wg k = [] ∧ ∀ s : Nat, 1 ≤ s → s ≤ k → honB st (keepN wg (s : Int) wg.length) = false) ∨ ∃ s : Nat, wrMin st wg k s ∧ wrN st wg k = dropN (s : Int) wg.length
 | 0, _ => .inl ⟨rfl, fun s h1 h2 => by omega⟩
 | k + 1, hk => by
  rw [wrN_succ, wrStep]
  cases hh : honB st (keepN wg ((k + 1 : Nat) : Int) wg.length)
  ·simp only [Bool.false_eq_true, if_false]
   rcases wr_spec st wg hn k (by omega) with ⟨h1, h2⟩ | ⟨s, ⟨h1, h2, h4, h5⟩, h3⟩
   ·refine .inl ⟨h1, fun s q1 q2 => ?_⟩
    by_cases e : s = k + 1
    ·rw [e]; exact hh
    ·exact h2 s q1 (by omega)
   ·refine .inr ⟨s, ⟨h1, by omega, h4, fun s' q1 q2 q3 => ?_⟩, h3⟩
    by_cases e : s' = k + 1
    ·rw [e, hh] at q3; cases q3
    ·exact h5 s' q1 (by omega) q3
  ·simp only [if_true]
   rcases wr_spec st wg hn k (by omega) with ⟨h1, h2⟩ | ⟨s, ⟨h1, h2, h4, h5⟩, h3⟩
   ·rw [if_pos h1]
    refine .inr ⟨k + 1, ⟨by omega, Nat.le_refl _, hh, fun s' q1 q2 q3 => ?_⟩, rfl⟩
    by_cases e : s' = k + 1
    ·rw [e]; exact Nat.le_refl _
    ·rw [h2 s' q1 (by omega)] at q3; cases q3
   ·rw [h3, if_neg (dropN_ne s wg.length hn (by omega) (by omega))]
    have old : (dropN (s : Int) wg.length).length ≤ (dropN ((k + 1 : Nat) : Int) wg.length).length → wrMin st wg (k + 1) s := by
     intro hle; refine ⟨h1, by omega, h4, fun s' q1 q2 q3 => ?_⟩
     by_cases e : s' = k + 1
     ·rw [e]; exact hle
     ·exact h5 s' q1 (by omega) q3
    have new : (dropN ((k + 1 : Nat) : Int) wg.length).length ≤ (dropN (s : Int) wg.length).length → wrMin st wg (k + 1) (k + 1) := by
     intro hle; refine ⟨by omega, Nat.le_refl _, hh, fun s' q1 q2 q3 => ?_⟩
     by_cases e : s' = k + 1
     ·rw [e]; exact Nat.le_refl _
     ·exact Nat.le_trans hle (h5 s' q1 (by omega) q3)
    by_cases c1 : (dropN ((k + 1 : Nat) : Int) wg.length).length < (dropN (s : Int) wg.length).length
    ·rw [if_pos c1]
     exact .inr ⟨k + 1, new (by omega), rfl⟩
    ·rw [if_neg c1]
     by_cases c2 : (dropN ((k + 1 : Nat) : Int) wg.length).length = (dropN (s : Int) wg.length).length
     ·rw [if_pos c2]
      by_cases c3 : cmpL (dropN ((k + 1 : Nat) : Int) wg.length) (dropN (s : Int) wg.length) < 0
      ·rw [if_pos c3]
       exact .inr ⟨k + 1, new (by omega), rfl⟩
      ·rw [if_neg c3]
       exact .inr ⟨s, old (by omega), rfl⟩
     ·rw [if_neg c2]
      exact .inr ⟨s, old (by omega), rfl⟩
theorem wr_is {st : List Sp} {wg : List Wg} (hok : RdOk st wg) (hn : wg.length ≤ 64) (h : honB st wg = false) : ∃ s : Nat, 1 ≤ s ∧ wrL st wg = dropN (s : Int) wg.length ∧ honB st (kpW wg (fun i => s.testBit i) wg.length) = true ∧ ∀ g : Nat → Bool, honB st (kpW wg g wg.length) = true → (dropN (s : Int) wg.length).length ≤ cnt g wg.length := by
 have hp : 1 ≤ 2 ^ wg.length := Nat.one_le_two_pow
 rcases wr_spec st wg hn (2 ^ wg.length - 1) (by omega) with ⟨h1, _⟩ | ⟨s, ⟨h1, h2, h4, h5⟩, h3⟩
 ·exact absurd h1 (wr_ne hok hn h)
 ·refine ⟨s, h1, h3, ?_, fun g hg => ?_⟩
  ·rw [← keepN_kp wg s _ hn]
   exact h4
  ·obtain ⟨s', q1, q2⟩ := bits_of wg.length g
   have e1 : kpW wg (fun i => s'.testBit i) wg.length = kpW wg g wg.length := kpW_congr wg q2; have e2 : cnt (fun i => s'.testBit i) wg.length = cnt g wg.length := cnt_congr q2
   have q3 : 1 ≤ s' := by
    by_cases c : s' = 0
    ·rw [c] at e1
     rw [← e1, kpW_congr wg (g := fun _ => false) (fun i hi => Nat.zero_testBit i), kpW_zero wg hn, h] at hg
     cases hg
    ·omega
   have := h5 s' q3 (by omega) (by rw [keepN_kp wg s' _ hn, e1]; exact hg); rw [dropN_cnt s' _ hn, e2] at this; exact this
theorem rdW_eq (ws : List S80) (i : Nat) (h : i < ws.length) : rdWg (toWg ws) (i : Int) = ⟨(rd_T80 ws (i : Int)).f0, (rd_T80 ws (i : Int)).f1, (rd_T80 ws (i : Int)).f2⟩ := by
 simp [rdWg, rd_T80, toWg, h]
def offB (A : List Int) (wg : List Wg) (i : Nat) : Bool := decide (max (rd A (rdWg wg i).p - (rdWg wg i).r) (-(rd A (rdWg wg i).p - (rdWg wg i).r)) > (rdWg wg i).o)
def gN (l : List Int) (K : Int) (i : Nat) (m : Nat) : Bool := (List.range m).any fun (m : Nat) => decide (rd l (m : Int) = (i : Int)) && ((m : Int) != K)
theorem gN_succ (l : List Int) (K : Int) (i m : Nat) : gN l K i (m + 1) = (gN l K i m || (decide (rd l (m : Int) = (i : Int)) && ((m : Int) != K))) := by
 unfold gN
 rw [List.range_succ, List.any_append]
 simp
section
variable (st : List S41) (ws : List S80) (A l : List Int) (r : Bool)
theorem So_l0 (hc : CtOk st ws) (hA : A.length = st.length + 1) (hb : ∀ j : Nat, j ≤ st.length → 0 ≤ rd A (j : Int) ∧ rd A (j : Int) ≤ 400)
  (h : Ev (fun k => lw_WoolSpoilt.l0 k A ((cnt (offB A (toWg ws)) ws.length : Nat) : Int) (ws.length : Int) st ws) r) : ∀ (d i : Nat), i + d = ws.length → Ev (fun k => lw_WoolSpoilt.l0 k A ((cnt (offB A (toWg ws)) i : Nat) : Int) (i : Int) st ws) r
 | 0, i, hd => by
  obtain rfl : i = ws.length := by omega
  exact h
 | d + 1, i, hd => by
  have hi : i < ws.length := by omega
  have hw6 := hc.w6; have hn4 := hc.n4; have ih := So_l0 hc hA hb h d (i + 1) (by omega); rw [cnt_succ] at ih; have hx := hc.wgs (rdWg (toWg ws) i) (rdWg_mem _ _ (by omega) (by rw [toWg_len]; omega))
  have hcn : cnt (offB A (toWg ws)) i ≤ i := by
   unfold cnt
   exact Nat.le_trans (List.length_filter_le _ _) (by simp)
  have ho : offB A (toWg ws) i = decide (max (rd A (rd_T80 ws (i : Int)).f0 - (rd_T80 ws (i : Int)).f1) (-(rd A (rd_T80 ws (i : Int)).f0 - (rd_T80 ws (i : Int)).f1)) > (rd_T80 ws (i : Int)).f2) := by
   unfold offB
   rw [rdW_eq ws i hi]
  rw [rdW_eq ws i hi] at hx; rw [ho] at ih
  unfold wOk at hx
  simp only at hx
  generalize hxe : rd_T80 ws (i : Int) = x at *
  have hv := hb x.f0.toNat (by omega); rw [show ((x.f0.toNat : Nat) : Int) = x.f0 by omega] at hv; refine Ev.up ?_; simp only [lw_WoolSpoilt.l0, if_pos (show (i : Int) < (ws.length : Int) by omega), if_pos (show (0 : Int) ≤ (i : Int) by omega)]; simp only [hxe, if_pos (show 0 ≤ x.f0 by omega), if_pos (show x.f0 < (A.length : Int) by omega), mx_max1, wr (x := rd A x.f0 - x.f1) (by omega), wr (x := -(rd A x.f0 - x.f1)) (by omega), wi i (by omega)]
  by_cases c : max (rd A x.f0 - x.f1) (-(rd A x.f0 - x.f1)) > x.f2
  ·rw [decide_eq_true c] at ih
   simp only [if_pos c, wi (cnt (offB A (toWg ws)) i) (by omega)]
   simpa using ih
  ·rw [decide_eq_false c] at ih
   simp only [if_neg c]
   simpa using ih
theorem So_l3 (K : Int) (e : Int) (i : Nat) (hi : i < ws.length) (hl : l.length ≤ 1000) (hw : ws.length ≤ 1000) (x1 : List S41) (x2 : List S80) (hx2 : x2.length ≤ 1000)
  (h : Ev (fun k => lw_WoolSpoilt.l2 k l e K ((i + 1 : Nat) : Int) st ws x1 (x2 ++ (if gN l K i l.length then [] else [rd_T80 ws (i : Int)]))) r) : ∀ (d m : Nat), m + d = l.length → Ev (fun k => lw_WoolSpoilt.l3 k l e K (i : Int) (gN l K i m) (m : Int) st ws x1 x2) r
 | 0, m, hd => by
  obtain rfl : m = l.length := by omega
  refine Ev.up ?_; simp only [lw_WoolSpoilt.l3, if_neg (show ¬ (l.length : Int) < (l.length : Int) by omega)]
  cases hg : gN l K i l.length
  ·rw [hg] at h
   simp only [Bool.false_eq_true, if_false, if_pos (show (0 : Int) ≤ (i : Int) by omega), if_pos (show (i : Int) < (ws.length : Int) by omega), if_pos (show x2.length < 5864062014805 by omega), wi i (by omega)] at h ⊢; exact h
  ·rw [hg] at h
   simp only [if_true, List.append_nil, wi i (by omega)] at h ⊢; exact h
 | d + 1, m, hd => by
  have ih := So_l3 K e i hi hl hw x1 x2 hx2 h d (m + 1) (by omega); rw [gN_succ] at ih; refine Ev.up ?_; simp only [lw_WoolSpoilt.l3, if_pos (show (m : Int) < (l.length : Int) by omega), if_pos (show (0 : Int) ≤ (m : Int) by omega), wi m (by omega)]
  cases hg : gN l K i m
  ·rw [hg, Bool.false_or] at ih
   simp only [Bool.false_eq_true, if_false]
   by_cases c : rd l (m : Int) = (i : Int)
   ·rw [decide_eq_true c, Bool.true_and] at ih
    simp only [if_pos c]; exact ih
   ·rw [decide_eq_false c, Bool.false_and] at ih
    simp only [if_neg c]; exact ih
  ·rw [hg, Bool.true_or] at ih
   simp only [if_true]; exact ih
theorem So_l2 (K : Int) (e : Int) (hl : l.length ≤ 1000) (hw : ws.length ≤ 1000) (x1 : List S41)
  (h : Ev (fun k => lw_WoolSpoilt.l2 k l e K (ws.length : Int) st ws x1 (kpS ws (fun i => gN l K i l.length) ws.length)) r) : ∀ (d i : Nat), i + d = ws.length → Ev (fun k => lw_WoolSpoilt.l2 k l e K (i : Int) st ws x1 (kpS ws (fun i => gN l K i l.length) i)) r
 | 0, i, hd => by
  obtain rfl : i = ws.length := by omega
  exact h
 | d + 1, i, hd => by
  have ih := So_l2 K e hl hw x1 h d (i + 1) (by omega); rw [kpS_succ] at ih
  have hk : (kpS ws (fun i => gN l K i l.length) i).length ≤ 1000 := by
   unfold kpS
   rw [List.length_map]; exact Nat.le_trans (List.length_filter_le _ _) (by simp; omega)
  refine Ev.up ?_; simp only [lw_WoolSpoilt.l2, if_pos (show (i : Int) < (ws.length : Int) by omega)]; exact So_l3 st ws l r K e i (by omega) hl hw x1 _ hk ih l.length 0 (by omega)
theorem So_l4 (hl : l.length ≤ 1000) (hin : ∀ m : Nat, m < l.length → 0 ≤ rd l (m : Int) ∧ rd l (m : Int) < (ws.length : Int)) (hlt : ∀ m : Nat, m + 1 < l.length → rd l (m : Int) < rd l ((m + 1 : Nat) : Int)) : ∀ (d m : Nat), m + d = l.length → Ev (fun k => lw_WoolSpoilt.l4 k l (m : Int) st ws) true
 | 0, m, hd => by
  refine Ev.up ?_; simp only [lw_WoolSpoilt.l4, if_neg (show ¬ (m : Int) < (l.length : Int) by omega), lw_known.f, Option.bind_some]; exact Ev.now _
 | d + 1, m, hd => by
  have ih := So_l4 hl hin hlt d (m + 1) (by omega); obtain ⟨h1, h2⟩ := hin m (by omega); refine Ev.up ?_; simp only [lw_WoolSpoilt.l4, if_pos (show (m : Int) < (l.length : Int) by omega), if_pos (show (0 : Int) ≤ (m : Int) by omega), if_neg (show ¬ rd l (m : Int) < 0 by omega), if_neg (show ¬ rd l (m : Int) ≥ (ws.length : Int) by omega), wi m (by omega)]
  by_cases c : (m : Int) > 0
  ·obtain ⟨j, rfl⟩ : ∃ j, m = j + 1 := ⟨m - 1, by omega⟩
   have ew : wrap64 (((j + 1 : Nat) : Int) - 1) = (j : Int) := by rw [wr (by omega)]; omega
   have := hlt j (by omega); simp only [if_pos c, ew, if_pos (show (0 : Int) ≤ (j : Int) by omega), if_pos (show (j : Int) < (l.length : Int) by omega), if_neg (show ¬ rd l ((j + 1 : Nat) : Int) ≤ rd l (j : Int) by omega)]; exact ih
  ·simp only [if_neg c]
   exact ih
theorem So_l1 (hl : l.length ≤ 1000) (hw : ws.length ≤ 1000) (hs : st.length ≤ 1000) (h4 : Ev (fun k => lw_WoolSpoilt.l4 k l 0 st ws) true) (hW : ∀ m : Nat, m ≤ l.length → (ohE (toSt st) (toWg (kpS ws (fun i => gN l ((m : Int) - 1) i l.length) ws.length)) == 0) = decide (m = 0)) : ∀ (d m : Nat), m + d = l.length + 1 → Ev (fun k => lw_WoolSpoilt.l1 k l 0 ((m : Int) - 1) st ws) true
 | 0, m, hd => by
  refine Ev.up ?_; simp only [lw_WoolSpoilt.l1, if_neg (show ¬ (m : Int) - 1 < (l.length : Int) by omega)]; refine Ev.up ?_; simp only [lw_WoolSpoilt.j3, Bool.false_eq_true, if_false]; exact h4
 | d + 1, m, hd => by
  have ih := So_l1 hl hw hs h4 hW d (m + 1) (by omega); rw [show ((m + 1 : Nat) : Int) - 1 = (m : Int) by omega] at ih; refine Ev.up ?_; simp only [lw_WoolSpoilt.l1, if_pos (show (m : Int) - 1 < (l.length : Int) by omega), show ((0 : Int) == 0) = true from rfl]; refine Ev.up ?_; simp only [lw_WoolSpoilt.j3, if_true, Option.bind_some, List.length_nil, List.nil_append, if_pos (show 0 + st.length < 8796093022208 by omega)]; refine So_l2 st ws l true ((m : Int) - 1) 0 hl hw st ?_ ws.length 0 (by omega); refine Ev.up ?_; simp only [lw_WoolSpoilt.l2, if_neg (show ¬ (ws.length : Int) < (ws.length : Int) by omega), wool_Weights.f, Option.bind_some, hW m (by omega), show (m : Int) - 1 + 1 = (m : Int) by omega, wr (x := (m : Int)) (by omega)]; rw [show decide (m = 0) = decide ((m : Int) - 1 < 0) by rw [decide_eq_decide]; omega]; simp only [bne_self_eq_false, Bool.false_eq_true, if_false]; exact ih
end
theorem dropN_mem (s n : Nat) (hn : n ≤ 64) (i : Nat) : (i : Int) ∈ dropN (s : Int) n ↔ i < n ∧ s.testBit i = true := by
 unfold dropN
 rw [List.mem_map]
 constructor
 ·rintro ⟨j, hj, e⟩
  have e2 : (j : Int) = (i : Int) := e
  obtain rfl : j = i := by omega
  obtain ⟨h1, h2⟩ := List.mem_filter.1 hj; have h3 := List.mem_range.1 h1; rw [bit_test s j (by omega)] at h2; exact ⟨h3, h2⟩
 ·rintro ⟨h1, h2⟩
  exact ⟨i, List.mem_filter.2 ⟨List.mem_range.2 h1, by rw [bit_test s i (by omega)]; exact h2⟩, rfl⟩
theorem dropN_lt (s n : Nat) (m m' : Nat) (h : m < m') (h' : m' < (dropN (s : Int) n).length) : rd (dropN (s : Int) n) (m : Int) < rd (dropN (s : Int) n) (m' : Int) := by
 rw [rdI _ m (by omega), rdI _ m' h']
 have hp : (dropN (s : Int) n).Pairwise (· < ·) := by
  unfold dropN
  refine List.pairwise_map.2 ?_; refine (List.Pairwise.filter _ List.pairwise_lt_range).imp ?_; intro a b hab; exact Int.ofNat_lt.2 hab
 exact List.pairwise_iff_getElem.1 hp m m' (by omega) h' h
theorem WoolSpoilt_ev (l0 : List S76) (a : Int) (l2 : List Int) (l3 : List S136) (sp : List Int) (h0 : ∀ x ∈ l0, ub x.f0 ∧ ub x.f1) (ha : 0 ≤ a ∧ a ≤ 65535) (h2 : ∀ x ∈ l2, ub x) (h3 : ∀ x ∈ l3, ub x.f0 ∧ ub x.f1 ∧ ub x.f2) (hsp : ∀ x ∈ sp, ub x) : Ev (fun k => lw_WoolSpoilt.f k l0 a l2 l3 sp) true := by
 obtain ⟨st, hr, hn1, hn4, hst⟩ := road_f l0 a l2 l3 h0; obtain ⟨A, T, g, q1, q2, q3⟩ := lived_f l0 a l2 l3 st [] (-1) 0 ha hst h2 (by omega) (by omega); have hla := q2.la; obtain ⟨ws, u1, u2, u3⟩ := weighed_f l0 a l2 l3 st st.length A sp h3 (by omega) hla (by omega) q2.bd hsp; have hc : CtOk st ws := ⟨hst, hn1, hn4, u2, fun x hx => (u3 x hx).1⟩; have hok := hc.rd; have hE := hc.e; have hg : g = 0 := q2.g0 (by omega)
 have q2' : LvP (toSt st) (-1) (toSt st).length g A T := by rw [toSt_len]; exact q2
 have hwl : (toWg ws).length = ws.length := toWg_len ws
 have hn64 : (toWg ws).length ≤ 64 := by omega
 -- those that were truly wrong are a set without which there is an honest truth
 have hoff : honB (toSt st) (kpW (toWg ws) (offB A (toWg ws)) (toWg ws).length) = true := by
  refine (q2'.path (wg := kpW (toWg ws) (offB A (toWg ws)) (toWg ws).length) hst (fun x hx => ?_) (-1) (.inl ⟨hg, rfl⟩)).hon (kp_ok hok _); obtain ⟨_, i, hi, hx2, rfl⟩ := kpW_mem hx
  unfold offB at hx2
  have := of_decide_eq_false hx2
  unfold wHit
  omega
 unfold lw_WoolSpoilt.f
 refine Ev.bind hr ?_; refine Ev.bind q1 ?_; refine Ev.bind u1 ?_; refine So_l0 st ws A true hc hla q2.bd ?_ ws.length 0 (by omega); refine Ev.up ?_; simp only [lw_WoolSpoilt.l0, if_neg (show ¬ (ws.length : Int) < (ws.length : Int) by omega), own_f st ws (by omega) (by omega), Option.bind_some, wool_Wrong.f, wool_Weights.f]
 cases hh : honB (toSt st) (toWg ws)
 ·obtain ⟨s, s1, s2, s3, s4⟩ := wr_is hok hn64 hh
  have e1 : ohE (toSt st) (toWg ws) = 9 := by rw [ohE, if_pos hE, hh]; rfl
  have e4 : wrE (toSt st) (toWg ws) = 0 := by rw [wrE, if_pos hE, hh]; rfl
  have e5 : wrR (toSt st) (toWg ws) = dropN (s : Int) ws.length := by rw [wrR, if_pos e4, s2, hwl]
  have hne : dropN (s : Int) ws.length ≠ [] := by rw [← hwl, ← s2]; exact wr_ne hok hn64 hh
  have hmany := s4 _ hoff; rw [hwl] at hmany s3 s4; have hdl := dropN_len (s : Int) ws.length
  have hlen : (((dropN (s : Int) ws.length).length : Int) == 0) = false := by
   rw [beq_eq_false_iff_ne]; intro c; exact hne (List.length_eq_zero_iff.1 (by omega))
  simp only [e1, e4, e5, if_true, show ((0 : Int) == 6) = false from rfl, show ((9 : Int) == 0) = false from rfl, bne_self_eq_false, Bool.false_eq_true, if_false, if_neg (show ¬ ((dropN (s : Int) ws.length).length : Int) > ((cnt (offB A (toWg ws)) ws.length : Nat) : Int) by omega), hlen]; refine Ev.up ?_; simp only [lw_WoolSpoilt.j1, Bool.false_eq_true, if_false]
  have hin : ∀ m : Nat, m < (dropN (s : Int) ws.length).length → ∃ i : Nat, rd (dropN (s : Int) ws.length) (m : Int) = (i : Int) ∧ i < ws.length ∧ s.testBit i = true := by
   intro m hm; have hmem := rd_in (l := dropN (s : Int) ws.length) (j := (m : Int)) (by omega) (by omega); have hmem2 := hmem
   unfold dropN at hmem2
   obtain ⟨i, hi, ei⟩ := List.mem_map.1 hmem2; have ei2 : rd (dropN (s : Int) ws.length) (m : Int) = (i : Int) := ei.symm; rw [ei2] at hmem; have := (dropN_mem s ws.length (by omega) i).1 hmem; exact ⟨i, ei2, this.1, this.2⟩
  have h4 := So_l4 st ws (dropN (s : Int) ws.length) (by omega) (fun m hm => by
   obtain ⟨i, e, hi, _⟩ := hin m hm
   omega) (fun m hm => dropN_lt s ws.length m (m + 1) (by omega) hm) (dropN (s : Int) ws.length).length 0 (by omega)
  refine So_l1 st ws (dropN (s : Int) ws.length) (by omega) (by omega) (by omega) h4 (fun m hm => ?_) ((dropN (s : Int) ws.length).length + 1) 0 (by omega)
  have hkE : roadE (toSt st) (toWg (kpS ws (fun i => gN (dropN (s : Int) ws.length) ((m : Int) - 1) i (dropN (s : Int) ws.length).length) ws.length)) = 0 := by
   rw [kpS_wg]
   refine roadE_ok (by rw [toSt_len]; omega) (by rw [toSt_len]; omega) hst ?_ fun x hx => ?_
   ·unfold kpW
    rw [List.length_map]; exact Nat.le_trans (List.length_filter_le _ _) (by simp; omega)
   ·rw [← hwl] at hx
    have := (u3 x (kpW_mem hx).1).1
    unfold wOk at this
    rw [toSt_len]; omega
  rw [ohE, if_pos hkE, kpS_wg]
  by_cases hm0 : m = 0
  ·subst hm0
   have ec : kpW (toWg ws) (fun i => gN (dropN (s : Int) ws.length) (((0 : Nat) : Int) - 1) i (dropN (s : Int) ws.length).length) ws.length = kpW (toWg ws) (fun i => s.testBit i) ws.length := by
    refine kpW_congr _ fun i hi => ?_
    rw [Bool.eq_iff_iff]
    unfold gN
    rw [List.any_eq_true]
    constructor
    ·rintro ⟨m, h1, h2⟩
     rw [Bool.and_eq_true, decide_eq_true_eq] at h2; obtain ⟨i', e, _, hb⟩ := hin m (List.mem_range.1 h1); rw [h2.1] at e
     obtain rfl : i = i' := by omega
     exact hb
    ·intro hb
     obtain ⟨m, hm, em⟩ := List.getElem_of_mem ((dropN_mem s ws.length (by omega) i).2 ⟨hi, hb⟩); refine ⟨m, List.mem_range.2 hm, ?_⟩; rw [Bool.and_eq_true, decide_eq_true_eq, rdI _ m hm]; exact ⟨em, by first | (simp; done) | (simp; omega)⟩
   rw [ec, s3]; rfl
  ·have hf : honB (toSt st) (kpW (toWg ws) (fun i => gN (dropN (s : Int) ws.length) ((m : Int) - 1) i (dropN (s : Int) ws.length).length) ws.length) = false := by
    rw [← Bool.not_eq_true]; intro ht; have hle := s4 _ ht; obtain ⟨i0, e0, hi0, hb0⟩ := hin (m - 1) (by omega); have hdc := dropN_cnt s ws.length (by omega)
    have hlt := cnt_lt (f := fun i => gN (dropN (s : Int) ws.length) ((m : Int) - 1) i (dropN (s : Int) ws.length).length) (g := fun i => s.testBit i) (j := i0) hb0 (by
     rw [← Bool.not_eq_true]; intro hgt
     unfold gN at hgt
     rw [List.any_eq_true] at hgt; obtain ⟨m', h1, h2⟩ := hgt; have h1' := List.mem_range.1 h1; simp only [Bool.and_eq_true, decide_eq_true_eq, bne_iff_ne, ne_eq] at h2
     rcases Nat.lt_trichotomy m' (m - 1) with c | c | c
     ·have := dropN_lt s ws.length m' (m - 1) c (by omega)
      omega
     ·exact h2.2 (by omega)
     ·have := dropN_lt s ws.length (m - 1) m' c (by omega)
      omega) (k := ws.length) hi0 (fun i hi hgt => by
     unfold gN at hgt
     rw [List.any_eq_true] at hgt; obtain ⟨m', h1, h2⟩ := hgt; rw [Bool.and_eq_true, decide_eq_true_eq] at h2; obtain ⟨i', e, _, hb⟩ := hin m' (List.mem_range.1 h1); rw [h2.1] at e
     obtain rfl : i = i' := by omega
     exact hb)
    omega
   rw [hf, decide_eq_false hm0]; rfl
 ·have e1 : ohE (toSt st) (toWg ws) = 0 := by rw [ohE, if_pos hE, hh]; rfl
  have e4 : wrE (toSt st) (toWg ws) = 6 := by rw [wrE, if_pos hE, hh]; rfl
  have e5 : wrR (toSt st) (toWg ws) = [] := by rw [wrR, e4, if_neg (by omega)]
  simp only [e1, e4, e5, if_neg (show ¬ (6 : Int) = 0 by omega), if_true, List.length_nil, if_pos (show ((0 : Nat) : Int) = 0 by omega), show ((6 : Int) == 6) = true from rfl, show ((0 : Int) == 0) = true from rfl, bne_self_eq_false, Bool.false_eq_true, if_false, if_neg (show ¬ ((0 : Nat) : Int) > ((cnt (offB A (toWg ws)) ws.length : Nat) : Int) by omega)]; refine Ev.up ?_; simp only [lw_WoolSpoilt.j1, Bool.false_eq_true, if_false]; refine Ev.up ?_; simp only [lw_WoolSpoilt.l1, List.length_nil, if_pos (show (-1 : Int) < ((0 : Nat) : Int) by omega), show ((6 : Int) == 0) = false from rfl]; refine Ev.up ?_; simp only [lw_WoolSpoilt.j3, Bool.false_eq_true, if_false]; exact So_l4 st ws [] (by simp) (fun m hm => absurd hm (by simp)) (fun m hm => absurd hm (by simp)) 0 0 rfl
theorem WoolSpoilt_pure (l0_0 : List (S76)) (a0_1 : Int) (l0_2 : List Int) (l0_3 : List (S136)) (l1 : List Int) (w0 : (∀ x_ ∈ l0_0, ((Lit.int .u8 x_.f0).wf = true) ∧ ((Lit.int .u8 x_.f1).wf = true)) ∧ (((Lit.int .u16 a0_1).wf = true) ∧ ((∀ x_ ∈ l0_2, (Lit.int .u8 x_).wf = true) ∧ (∀ x_ ∈ l0_3, ((Lit.int .u8 x_.f0).wf = true) ∧ (((Lit.int .u8 x_.f1).wf = true) ∧ ((Lit.int .u8 x_.f2).wf = true)))))) (w1 : ∀ x_ ∈ l1, (Lit.int .u8 x_).wf = true) : ∃ k, lw_WoolSpoilt.f k l0_0 a0_1 l0_2 l0_3 l1 = some true :=
 (WoolSpoilt_ev l0_0 a0_1 l0_2 l0_3 l1 (fun x h => ⟨ub_wf (w0.1 x h).1, ub_wf (w0.1 x h).2⟩) (u16_wf w0.2.1) (fun x h => ub_wf (w0.2.2.1 x h)) (fun x h => ⟨ub_wf (w0.2.2.2 x h).1, ub_wf (w0.2.2.2 x h).2.1, ub_wf (w0.2.2.2 x h).2.2⟩) (fun x h => ub_wf (w1 x h))).rounds
end Go.Proofs.YtemingmeidmjkaaDoor.Q
namespace Go.Proofs.YtemingmeidmjkaaDoor
open Go.RowKit Go.ChangeShapes Go.Shelf Go.Proofs.YtemingmeidmjkaaDoorW.PrintWords
set_option linter.unusedVariables false
set_option maxRecDepth 100000
theorem glNamed : Tryd.prog.globalNamed "walkmill/wool.all" = some 0 := by kernel_rfl
theorem glType : (Tryd.prog.globals[0]?).map (·.type) = some 100 := by kernel_rfl
theorem cells3 : Tryd.prog.cellsOf 3 = 1 := by kernel_rfl
theorem cellsSome : Tryd.prog.cellsOf 100 = 2 := by kernel_rfl
theorem gl_of_laid {W : World} (h : laidMetH Tryd.prog [("walkmill/wool.all", Rows.laid_walkmill_wool_all)] W) : GL W := by
 have h' : laidMet Tryd.prog [("walkmill/wool.all", Rows.laid_walkmill_wool_all)] W := h; clear h; have h := h'; obtain ⟨ps, ⟨g, t, cs, fuel, p, q, e1, e2, e3, e4, _, _⟩, _⟩ := h; obtain rfl := Option.some.inj (glNamed.symm.trans e1); obtain rfl := Option.some.inj (glType.symm.trans e2); obtain ⟨xs, n, _, hx, hl, hlen, hf⟩ := DataW.trod_struct Tryd.underlying100 e4
 have hcell := fun i => World.var?_cell glNamed e3 i
 have hl2 : cs.toList.length = 2 := by rw [hl]; exact cellsSome
 match xs, hlen with
 | [y0, y1], _ =>
  have f0 := hf 0 _ rfl; have f1 := hf 1 _ rfl; simp only [List.getElem?_cons_zero, List.getElem?_cons_succ] at f0 f1; obtain ⟨a, ha, rfl, _⟩ := DataW.trod_int Tryd.underlying3 f0; obtain ⟨b, hb, rfl, _⟩ := DataW.trod_int Tryd.underlying3 f1; simp only [List.map_cons, List.map_nil, Rows.laid_walkmill_wool_all, Prod.mk.injEq, DataW.agg.injEq, List.cons.injEq, DataW.lit.injEq, Lit.int.injEq, true_and, and_true] at hx; obtain ⟨⟨rfl, rfl⟩, _⟩ := hx
  have hcs : cs = #[.int .i64 0, .int .i64 400] := by
   apply Array.toList_inj.1
   match hc : cs.toList, hl2 with
   | [u, v], _ =>
    rw [hc] at ha hb
    simp [cells3] at ha hb
    rw [ha, hb]
  refine ⟨rfl, by decide, fun _ => ⟨_, rfl, fun j x hj => ?_⟩⟩
  match j, hj with
  | 0, hj =>
   simp only [List.getElem?_cons_zero, Option.some.injEq] at hj; subst hj; refine ⟨[.int .i64 0, .int .i64 400], rfl, kSp_mk _ ⟨0, 400⟩, fun i u hi => ?_⟩; have h9 := hcell i; rw [hcs] at h9; rw [add_plain]; simp only [Nat.zero_mul, Nat.zero_add] at *; rw [h9]
   simpa using hi
def lay0 (w : World) : World := { w with heap := w.heap.modify 0 fun o => match o with
  | .cells _ t frozen => .cells #[.int .i64 0, .int .i64 400] t frozen
  | o => o }
theorem lay0_met (os : Os) (args : Array Value) : laidMetH Tryd.prog [("walkmill/wool.all", Rows.laid_walkmill_wool_all)] ((lay0 (World.holding Tryd.prog os ⟨#[], #[], []⟩)).forCall (fun _ _ => 0) ⟨#[], args, []⟩).memory := by
 show laidMet Tryd.prog [("walkmill/wool.all", Rows.laid_walkmill_wool_all)] _
 exact laidMet_of_run' 8 sqF sqF
end Go.Proofs.YtemingmeidmjkaaDoor
