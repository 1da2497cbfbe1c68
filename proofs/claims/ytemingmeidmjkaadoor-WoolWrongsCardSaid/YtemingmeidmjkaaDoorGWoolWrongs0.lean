/- Functions printed by the kit's printer over these walks, and the plain law. No condition. -/
import Derived.Test.YtemingmeidmjkaaDoorX0
import Derived.Test.YtemingmeidmjkaaDoorX3
import Derived.Test.YtemingmeidmjkaaDoorX2
import Derived.Test.YtemingmeidmjkaaDoorX1
set_option linter.unusedVariables false
set_option linter.unusedSimpArgs false
namespace Go.Proofs.YtemingmeidmjkaaDoor.Q
open Go.RowKit Go.Proofs.YtemingmeidmjkaaDoorW.PrintWords Go.Proofs.YtemingmeidmjkaaDoorW.PrintLast Go.Proofs.YtemingmeidmjkaaDoorW.PrintMore
attribute [local go_sem] max2_int min2_int max_two min_two max_three min_three max_four min_four   -- for this text's walks alone
set_option linter.unusedVariables false
set_option linter.unusedSimpArgs false
def lw_known.f  : Option (Bool) := some true
theorem lw_known.calls  (r : Bool) (w : World) (hG : GL w) (h : lw_known.f  = some r) :
  Calls Tryd.prog 17 #[] w fun e w' => e = .returned (.bool r) ∧ Below w.heap.size w w' := by
 unfold lw_known.f at h
 obtain rfl := Option.some.inj h; exact known_ w hG
end Go.Proofs.YtemingmeidmjkaaDoor.Q
namespace Go.Proofs.YtemingmeidmjkaaDoor.Q
open Go.RowKit Go.Proofs.YtemingmeidmjkaaDoorW.PrintWords Go.Proofs.YtemingmeidmjkaaDoorW.PrintLast Go.Proofs.YtemingmeidmjkaaDoorW.PrintMore
attribute [local go_sem] max2_int min2_int max_two min_two max_three min_three max_four min_four   -- for this text's walks alone
set_option linter.unusedVariables false
set_option linter.unusedSimpArgs false
def rf_Copy.f (l0_0 : List (S41)) (l0_1 : List (S80)) : Option ((List (S41)) × (List (S80))) := (some (([] : List (S41)) : List (S41))).bind fun y153 => (if y153.length + l0_0.length < 8796093022208 then ((some (([] : List (S80)) : List (S80))).bind fun y159 => (if y159.length + l0_1.length < 5864062014805 then (some ((y153 ++ l0_0), (y159 ++ l0_1))) else (none))) else (none))
def rf_Copy.T1 : Bool × List (List Nat × List Nat) := (true, [([], []), ([], []), ([1], [1]), ([0, 2], [0, 2]), ([], []), ([], []), ([5], [5]), ([4, 6, 3], [4, 6]), ([3, 7], [3, 7]), ([8, 7, 0, 1, 2, 3, 4, 5, 6, 7, 8], [8])])
def rf_Copy.B1 : List Nat := [0, 0, 2, 7, 0, 0, 32, 127, 255, 511]
theorem rf_Copy.tab1 : rtab .any (opsOf Tryd.f18 1) = rf_Copy.T1 := by kernel_rfl
theorem rf_Copy.bits1 : waitsOk rf_Copy.T1.2 rf_Copy.B1 = true := by kernel_rfl
set_option maxHeartbeats 8000000 in
set_option maxRecDepth 100000 in
theorem rf_Copy.calls (A0_0 : Option Addr) (c0_0 : Nat) (l0_0 : List (S41)) (A0_1 : Option Addr) (c0_1 : Nat) (l0_1 : List (S80)) (r1 : List (S41)) (r2 : List (S80)) (w : World) (hr0_0 : Kd.C k41 w A0_0 l0_0.length l0_0) (hc0_0 : l0_0.length ≤ c0_0) (hr0_1 : Kd.C k80 w A0_1 l0_1.length l0_1) (hc0_1 : l0_1.length ≤ c0_1) (h : rf_Copy.f l0_0 l0_1 = some (r1, r2)) :
  Calls Tryd.prog 18 #[.agg #[.slice A0_0 l0_0.length c0_0, .slice A0_1 l0_1.length c0_1]] w fun e w' => ∃ v0_ v1_ : Value, e = .returned (.agg #[v0_, v1_]) ∧ Kd.R k41 41 w' w.heap.size (fun _ => True) v0_ r1 ∧ Kd.R k80 80 w' w.heap.size (fun _ => True) v1_ r2 ∧ Below w.heap.size w w' := by
 have hu25 := Tryd.underlying25; have HR0_0 := Aside0.mk hr0_0; have HC0_0 := Aside0.mk hc0_0; clear hr0_0 hc0_0; have HR0_1 := Aside0.mk hr0_1; have HC0_1 := Aside0.mk hc0_1; clear hr0_1 hc0_1; have HB := Aside0.mk (Below.refl w.heap.size w); have H : ((some (([] : List (S41)) : List (S41))).bind fun y153 => (if y153.length + l0_0.length < 8796093022208 then ((some (([] : List (S80)) : List (S80))).bind fun y159 => (if y159.length + l0_1.length < 5864062014805 then (some ((y153 ++ l0_0), (y159 ++ l0_1))) else (none))) else (none))) = some (r1, r2) := h; clear h; replace H : ∃ y_ : List (S41), y_ = (([] : List (S41))) ∧ (if y_.length + l0_0.length < 8796093022208 then ((some (([] : List (S80)) : List (S80))).bind fun y159 => (if y159.length + l0_1.length < 5864062014805 then (some ((y_ ++ l0_0), (y159 ++ l0_1))) else (none))) else (none)) = some (r1, r2) := ⟨_, rfl, sqJ H⟩; obtain ⟨y153, hy153, H⟩ := H; have Ny153 := Aside0.mk hy153; clear hy153
 by_cases c2 : y153.length + l0_0.length < 8796093022208
 ·rw [if_pos c2] at H
  have LMc2 := Aside0.mk c2; clear c2; replace H : ∃ y_ : List (S41), y_ = (y153 ++ l0_0) ∧ ((some (([] : List (S80)) : List (S80))).bind fun y159 => (if y159.length + l0_1.length < 5864062014805 then (some (y_, (y159 ++ l0_1))) else (none))) = some (r1, r2) := ⟨_, rfl, sqJ H⟩; obtain ⟨y156, hy156, H⟩ := H; have Ny156 := Aside0.mk hy156; clear hy156; replace H : ∃ y_ : List (S80), y_ = (([] : List (S80))) ∧ (if y_.length + l0_1.length < 5864062014805 then (some (y156, (y_ ++ l0_1))) else (none)) = some (r1, r2) := ⟨_, rfl, sqJ H⟩; obtain ⟨y159, hy159, H⟩ := H; have Ny159 := Aside0.mk hy159; clear hy159
  by_cases c3 : y159.length + l0_1.length < 5864062014805
  ·rw [if_pos c3] at H
   have LMc3 := Aside0.mk c3; clear c3; replace H : ∃ y_ : List (S80), y_ = (y159 ++ l0_1) ∧ (some (y156, y_)) = some (r1, r2) := ⟨_, rfl, sqJ H⟩; obtain ⟨y162, hy162, H⟩ := H; have Ny162 := Aside0.mk hy162; clear hy162; simp only [Option.some.injEq, Prod.mk.injEq] at H; obtain ⟨rfl, rfl⟩ := H
   go_enter Tryd.func18, Tryd.ntmps18
   try go_wp2_with (first | ((with_reducible refine gate_dst (N := 1) rfl ?_); refine box_event ?hg (N := 1) ?hd (cs := #[.slice A0_0 l0_0.length c0_0, .slice A0_1 l0_1.length c0_1]) (t := 25) ?hr ?_; (case hd => rfl); (case hg => rfl); (case hr => first | (go_simp; done) | (go_simp; rfl)); intro gb151 hg w4 hbox hb; have BK151 := Aside0.mk (hbox); have GW151 := Aside0.mk (sqZ hg HB); have GE151 := Aside0.mk (sqZ hg HB); replace HB := sqb hb HB; clear hb hbox hg) | ((with_reducible refine gate_dst (N := 2) rfl ?_); refine box_event ?hg (N := 2) ?hd (cs := #[.slice none 0 0, .slice none 0 0]) (t := 25) ?hr ?_; (case hd => rfl); (case hg => rfl); (case hr => first | (go_simp; done) | (go_simp; rfl)); intro gb152 hg w5 hbox hb; have BK152 := Aside0.mk (hbox); have GW152 := Aside0.mk (sqZ hg HB); have GE152 := Aside0.mk (sqZ hg HB); replace HB := sqb hb HB; have NB151_152 := Aside0.mk (sqL hg BK151); have NB152_151 := Aside0.mk (sqG hg BK151); replace BK151 := sqk BK151 hb; clear hb hbox hg))
   have n0_ := Aside0.mk (blk_drew BK151.out); have n1_ := Aside0.mk (blk_drew BK152.out); have n2_ := Aside0.mk (below_drew1 HB.out); clear BK151 BK152 HB; have BK151 := n0_; have BK152 := n1_; have HB := n2_; clear n0_ n1_ n2_; refine start_ (n := 10) (S := fun w' => w'.cell? ⟨gb151, 0, none⟩ = some (.slice A0_0 l0_0.length c0_0) ∧ w'.cell? ⟨gb151, 1, none⟩ = some (.slice A0_1 l0_1.length c0_1)) (ds := []) (bm 10 0) sqF rfl rfl ⟨(blk_cell BK151.out 0).trans rfl, (blk_cell BK151.out 1).trans rfl⟩ (fun hHeld => ?_); refine with_tabW rf_Copy.tab1 rf_Copy.bits1 (fun HT_ HW_ => ?_)
   generalize w5.drew = w6 at BK151 BK152 HB hHeld ⊢
   refine pure_ (i := 1) (N := some 4) (v := ?_) (a' := ?_) (bm 10 2) rfl rfl (any_of HT_.out sqF) (fun _ _ _ h => h) (Or.inl ⟨by rfl, ?_⟩) ?_ ?_; rotate_left; intro w'; go_simp; (with_reducible rfl); rotate_left; simp only [Act.put, sqA, i64_w, i32_w]; rfl; refine pure_ (i := 5) (N := some 8) (v := ?_) (a' := ?_) (bm 10 34) rfl rfl (any_of HT_.out sqF) (fun _ _ _ h => h) (Or.inl ⟨by rfl, ?_⟩) ?_ ?_; rotate_left; intro w'; go_simp; (with_reducible rfl); rotate_left; simp only [Act.put, sqA, i64_w, i32_w]; rfl; refine take_ (i := 2) (N := some 5) (v := ?_) (a' := ?_) (bm 10 38) rfl rfl (take_ofW HT_.out HW_.out sqF) (fun _ _ _ h => h) (Or.inl ⟨by rfl, ?_⟩) hHeld ?_ ?_; rotate_left; rintro w' ⟨s0, s1⟩; go_simp; (with_reducible rfl); rotate_left; simp only [Act.put, sqA, i64_w, i32_w]; rfl; refine take_ (i := 6) (N := some 9) (v := ?_) (a' := ?_) (bm 10 102) rfl rfl (take_ofW HT_.out HW_.out sqF) (fun _ _ _ h => h) (Or.inl ⟨by rfl, ?_⟩) hHeld ?_ ?_; rotate_left; rintro w' ⟨s0, s1⟩; go_simp; (with_reducible rfl); rotate_left; simp only [Act.put, sqA, i64_w, i32_w]; rfl
   refine join_ (σ := Value × Value × Value) 3 #[true, true, true, true, true, true, true, false, false, false] (fun s_ => [(3, s_.1), (6, s_.2.1), (7, s_.2.2)]) (fun s_ w' => (w'.cell? ⟨gb151, 0, none⟩ = some (.slice A0_0 l0_0.length c0_0) ∧ w'.cell? ⟨gb151, 1, none⟩ = some (.slice A0_1 l0_1.length c0_1)) ∧ (Kd.R k41 41 w' w.heap.size (fun _ => True) s_.2.1 y156) ∧ (Kd.R k80 80 w' w.heap.size (fun _ => True) s_.2.2 y159) ∧ (w'.heap[gb151]? = some (.cells #[.slice A0_0 l0_0.length c0_0, .slice A0_1 l0_1.length c0_1] 25 (0, 0))) ∧ (w'.heap[gb152]? = some (.cells #[.slice none 0 0, .slice none 0 0] 25 (0, 0))) ∧ (Below w.heap.size w w')) ?_ ?_; rotate_left
   ·intro hCont
    refine two_ (i := 0) (j := 4) (Ni := some 3) (Nj := some 7) (bm 10 103) #[false, true, true, false, true, true, true, false, false, false] rfl rfl rfl rfl (two_of HT_.out sqF) (by decide) (by decide) (fun K hK => ?_) (fun K hK => ?_)
    ·skip
     refine Kd.R_lit_step k41 _ 41 ?hg (N := 3) ?hd (xs := ([] : List (S41))) (inner := []) (ok := fun _ => True) (okp := fun _ => True) ?hr ?hp (fun _ hk => hk) trivial (Below.refl _ _) (Nat.le_refl _) (by simp) ?_; (case hd => rfl); (case hg => rfl); (case hr => first | (go_simp; done) | (go_simp; rfl)); (case hp => exact (Reps.none _ _)); intro v154 w7 ho8 hb hg_ hnew_; clear hg_ hnew_
     (first | rw [← Ny153.out] at ho8 | (simp only [Int.reduceToNat] at ho8; rw [← Ny153.out] at ho8))
     have n0_ := Aside0.mk (Kd.R_lower ho8 (below_size (sqB HB))); have n1_ := Aside0.mk (blk_below (g := gb151) (o := .cells #[.slice A0_0 l0_0.length c0_0, .slice A0_1 l0_1.length c0_1] 25 (0, 0)) (sqK BK151) hb); have n2_ := Aside0.mk (blk_below (g := gb152) (o := .cells #[.slice none 0 0, .slice none 0 0] 25 (0, 0)) (sqK BK152) hb); have n3_ := Aside0.mk (below_step (sqB HB) hb); clear BK151 BK152 HB; have HO155 := n0_; have BK151 := n1_; have BK152 := n2_; have HB := n3_; clear n0_ n1_ n2_ n3_ hb ho8; refine hK.out _ _ ⟨(blk_cell BK151.out 0).trans rfl, (blk_cell BK151.out 1).trans rfl⟩ (fun hHeld => ?_); clear hK K; refine norm_ (a' := ?_) ?_ ?_
     rotate_left
     ·show Act.put _ (some 3) _ = _
      simp only [Act.put, sqA, i64_w, i32_w]; rfl
     refine two_ (i := 3) (j := 4) (Ni := some 6) (Nj := some 7) (bm 10 111) #[true, true, true, false, true, true, true, false, false, false] rfl rfl rfl rfl (two_of HT_.out sqF) (by decide) (by decide) (fun K hK => ?_) (fun K hK => ?_)
     ·skip
      refine Kd.R_append_rows_step k41 (w0 := w) w.heap.size (by rfl) (.tmp 3) (.tmp 5) 22 41 (.agg #[(.int .i64 0), (.int .i64 0)]) 16 rfl Tryd.underlying22 info41 rfl (by decide) (by omega) v154 y153 l0_0 _ _ _ (fun _ => True) (fun _ => False) rfl rfl ?aO ?aR (fun _ _ h => h) (fun _ h => h.elim) ?aF ?aB ?aS ?aL ?_
      (case aR => exact sqQ HR0_0 HB)
      (case aB => exact (sqB HB))
      (case aF => exact (fun _ _ => trivial))
      (case aO => exact (sqR HO155))
      (case aS => exact (below_size (sqB HB)))
      (case aL => have := LMc2.out; omega)
      intro v157 w9 ho hb hg hat; rw [← Ny156.out] at ho; have n0_ := Aside0.mk (blk_grown (g := gb151) (o := .cells #[.slice A0_0 l0_0.length c0_0, .slice A0_1 l0_1.length c0_1] 25 (0, 0)) (sqK BK151) hg (Kd.R_ne HO155.out BK151.out (by decide))); have n1_ := Aside0.mk (blk_grown (g := gb152) (o := .cells #[.slice none 0 0, .slice none 0 0] 25 (0, 0)) (sqK BK152) hg (Kd.R_ne HO155.out BK152.out (by decide))); have n2_ := Aside0.mk (hb); have n3_ := Aside0.mk (ho); clear BK151 BK152 HB HO155; have BK151 := n0_; have BK152 := n1_; have HB := n2_; have HO158 := n3_; clear n0_ n1_ n2_ n3_ ho hb hg hat; refine hK.out _ _ ⟨(blk_cell BK151.out 0).trans rfl, (blk_cell BK151.out 1).trans rfl⟩ (fun hHeld => ?_); clear hK K; refine norm_ (a' := ?_) ?_ ?_
      rotate_left
      ·show Act.put _ (some 6) _ = _
       simp only [Act.put, sqA, i64_w, i32_w]; rfl
      refine one_ (i := 4) (N := some 7) (bm 10 127) rfl rfl (one_of HT_.out sqF) (by decide) (fun K hK => ?_); refine Kd.R_lit_step k80 _ 80 ?hg (N := 7) ?hd (xs := ([] : List (S80))) (inner := []) (ok := fun _ => True) (okp := fun _ => True) ?hr ?hp (fun _ hk => hk) trivial (Below.refl _ _) (Nat.le_refl _) (by simp) ?_; (case hd => rfl); (case hg => rfl); (case hr => first | (go_simp; done) | (go_simp; rfl)); (case hp => exact (Reps.none _ _)); intro v160 w10 ho11 hb hg_ hnew_; clear hg_ hnew_
      (first | rw [← Ny159.out] at ho11 | (simp only [Int.reduceToNat] at ho11; rw [← Ny159.out] at ho11))
      have n0_ := Aside0.mk (Kd.R_below (sqR HO158) hb); have n1_ := Aside0.mk (Kd.R_lower ho11 (below_size (sqB HB))); have n2_ := Aside0.mk (blk_below (g := gb151) (o := .cells #[.slice A0_0 l0_0.length c0_0, .slice A0_1 l0_1.length c0_1] 25 (0, 0)) (sqK BK151) hb); have n3_ := Aside0.mk (blk_below (g := gb152) (o := .cells #[.slice none 0 0, .slice none 0 0] 25 (0, 0)) (sqK BK152) hb); have n4_ := Aside0.mk (below_step (sqB HB) hb); clear HO158 BK151 BK152 HB; have HO158 := n0_; have HO161 := n1_; have BK151 := n2_; have BK152 := n3_; have HB := n4_; clear n0_ n1_ n2_ n3_ n4_ hb ho11; refine hK.out _ _ ⟨(blk_cell BK151.out 0).trans rfl, (blk_cell BK151.out 1).trans rfl⟩ (fun hHeld => ?_); clear hK K; refine norm_ (a' := ?_) ?_ ?_
      rotate_left
      ·show Act.put _ (some 7) _ = _
       simp only [Act.put, sqA, i64_w, i32_w]; rfl
      exact norm_ (by simp only [putAll, Act.put, sqA]) (hCont (v154, v157, v160) _ ⟨hHeld, (sqR HO158), (sqR HO161), (sqK BK151), (sqK BK152), (sqB HB)⟩)
     ·skip
      refine Kd.R_lit_step k80 _ 80 ?hg (N := 7) ?hd (xs := ([] : List (S80))) (inner := []) (ok := fun _ => True) (okp := fun _ => True) ?hr ?hp (fun _ hk => hk) trivial (Below.refl _ _) (Nat.le_refl _) (by simp) ?_; (case hd => rfl); (case hg => rfl); (case hr => first | (go_simp; done) | (go_simp; rfl)); (case hp => exact (Reps.none _ _)); intro v160 w9 ho10 hb hg_ hnew_; clear hg_ hnew_
      (first | rw [← Ny159.out] at ho10 | (simp only [Int.reduceToNat] at ho10; rw [← Ny159.out] at ho10))
      have n0_ := Aside0.mk (Kd.R_below (sqR HO155) hb); have n1_ := Aside0.mk (Kd.R_lower ho10 (below_size (sqB HB))); have n2_ := Aside0.mk (blk_below (g := gb151) (o := .cells #[.slice A0_0 l0_0.length c0_0, .slice A0_1 l0_1.length c0_1] 25 (0, 0)) (sqK BK151) hb); have n3_ := Aside0.mk (blk_below (g := gb152) (o := .cells #[.slice none 0 0, .slice none 0 0] 25 (0, 0)) (sqK BK152) hb); have n4_ := Aside0.mk (below_step (sqB HB) hb); clear HO155 BK151 BK152 HB; have HO155 := n0_; have HO161 := n1_; have BK151 := n2_; have BK152 := n3_; have HB := n4_; clear n0_ n1_ n2_ n3_ n4_ hb ho10; refine hK.out _ _ ⟨(blk_cell BK151.out 0).trans rfl, (blk_cell BK151.out 1).trans rfl⟩ (fun hHeld => ?_); clear hK K; refine norm_ (a' := ?_) ?_ ?_
      rotate_left
      ·show Act.put _ (some 7) _ = _
       simp only [Act.put, sqA, i64_w, i32_w]; rfl
      refine one_ (i := 3) (N := some 6) (bm 10 127) rfl rfl (one_of HT_.out sqF) (by decide) (fun K hK => ?_); refine Kd.R_append_rows_step k41 (w0 := w) w.heap.size (by rfl) (.tmp 3) (.tmp 5) 22 41 (.agg #[(.int .i64 0), (.int .i64 0)]) 16 rfl Tryd.underlying22 info41 rfl (by decide) (by omega) v154 y153 l0_0 _ _ _ (fun _ => True) (fun _ => False) rfl rfl ?aO ?aR (fun _ _ h => h) (fun _ h => h.elim) ?aF ?aB ?aS ?aL ?_
      (case aR => exact sqQ HR0_0 HB)
      (case aB => exact (sqB HB))
      (case aF => exact (fun _ _ => trivial))
      (case aO => exact (sqR HO155))
      (case aS => exact (below_size (sqB HB)))
      (case aL => have := LMc2.out; omega)
      intro v157 w11 ho hb hg hat; rw [← Ny156.out] at ho; have n0_ := Aside0.mk (blk_grown (g := gb151) (o := .cells #[.slice A0_0 l0_0.length c0_0, .slice A0_1 l0_1.length c0_1] 25 (0, 0)) (sqK BK151) hg (Kd.R_ne HO155.out BK151.out (by decide))); have n1_ := Aside0.mk (blk_grown (g := gb152) (o := .cells #[.slice none 0 0, .slice none 0 0] 25 (0, 0)) (sqK BK152) hg (Kd.R_ne HO155.out BK152.out (by decide))); have n2_ := Aside0.mk (Kd.R_over' (sqR HO161) (Kd.R_typed (sqR HO155)) (by decide) hg); have n3_ := Aside0.mk (hb); have n4_ := Aside0.mk (ho); clear BK151 BK152 HO161 HB HO155; have BK151 := n0_; have BK152 := n1_; have HO161 := n2_; have HB := n3_; have HO158 := n4_; clear n0_ n1_ n2_ n3_ n4_ ho hb hg hat; refine hK.out _ _ ⟨(blk_cell BK151.out 0).trans rfl, (blk_cell BK151.out 1).trans rfl⟩ (fun hHeld => ?_); clear hK K; refine norm_ (a' := ?_) ?_ ?_
      rotate_left
      ·show Act.put _ (some 6) _ = _
       simp only [Act.put, sqA, i64_w, i32_w]; rfl
      exact norm_ (by simp only [putAll, Act.put, sqA]) (hCont (v154, v157, v160) _ ⟨hHeld, (sqR HO158), (sqR HO161), (sqK BK151), (sqK BK152), (sqB HB)⟩)
    ·skip
     refine Kd.R_lit_step k80 _ 80 ?hg (N := 7) ?hd (xs := ([] : List (S80))) (inner := []) (ok := fun _ => True) (okp := fun _ => True) ?hr ?hp (fun _ hk => hk) trivial (Below.refl _ _) (Nat.le_refl _) (by simp) ?_; (case hd => rfl); (case hg => rfl); (case hr => first | (go_simp; done) | (go_simp; rfl)); (case hp => exact (Reps.none _ _)); intro v160 w7 ho8 hb hg_ hnew_; clear hg_ hnew_
     (first | rw [← Ny159.out] at ho8 | (simp only [Int.reduceToNat] at ho8; rw [← Ny159.out] at ho8))
     have n0_ := Aside0.mk (Kd.R_lower ho8 (below_size (sqB HB))); have n1_ := Aside0.mk (blk_below (g := gb151) (o := .cells #[.slice A0_0 l0_0.length c0_0, .slice A0_1 l0_1.length c0_1] 25 (0, 0)) (sqK BK151) hb); have n2_ := Aside0.mk (blk_below (g := gb152) (o := .cells #[.slice none 0 0, .slice none 0 0] 25 (0, 0)) (sqK BK152) hb); have n3_ := Aside0.mk (below_step (sqB HB) hb); clear BK151 BK152 HB; have HO161 := n0_; have BK151 := n1_; have BK152 := n2_; have HB := n3_; clear n0_ n1_ n2_ n3_ hb ho8; refine hK.out _ _ ⟨(blk_cell BK151.out 0).trans rfl, (blk_cell BK151.out 1).trans rfl⟩ (fun hHeld => ?_); clear hK K; refine norm_ (a' := ?_) ?_ ?_
     rotate_left
     ·show Act.put _ (some 7) _ = _
      simp only [Act.put, sqA, i64_w, i32_w]; rfl
     refine one_ (i := 0) (N := some 3) (bm 10 119) rfl rfl (one_of HT_.out sqF) (by decide) (fun K hK => ?_); refine Kd.R_lit_step k41 _ 41 ?hg (N := 3) ?hd (xs := ([] : List (S41))) (inner := []) (ok := fun _ => True) (okp := fun _ => True) ?hr ?hp (fun _ hk => hk) trivial (Below.refl _ _) (Nat.le_refl _) (by simp) ?_; (case hd => rfl); (case hg => rfl); (case hr => first | (go_simp; done) | (go_simp; rfl)); (case hp => exact (Reps.none _ _)); intro v154 w9 ho10 hb hg_ hnew_; clear hg_ hnew_
     (first | rw [← Ny153.out] at ho10 | (simp only [Int.reduceToNat] at ho10; rw [← Ny153.out] at ho10))
     have n0_ := Aside0.mk (Kd.R_below (sqR HO161) hb); have n1_ := Aside0.mk (Kd.R_lower ho10 (below_size (sqB HB))); have n2_ := Aside0.mk (blk_below (g := gb151) (o := .cells #[.slice A0_0 l0_0.length c0_0, .slice A0_1 l0_1.length c0_1] 25 (0, 0)) (sqK BK151) hb); have n3_ := Aside0.mk (blk_below (g := gb152) (o := .cells #[.slice none 0 0, .slice none 0 0] 25 (0, 0)) (sqK BK152) hb); have n4_ := Aside0.mk (below_step (sqB HB) hb); clear HO161 BK151 BK152 HB; have HO161 := n0_; have HO155 := n1_; have BK151 := n2_; have BK152 := n3_; have HB := n4_; clear n0_ n1_ n2_ n3_ n4_ hb ho10; refine hK.out _ _ ⟨(blk_cell BK151.out 0).trans rfl, (blk_cell BK151.out 1).trans rfl⟩ (fun hHeld => ?_); clear hK K; refine norm_ (a' := ?_) ?_ ?_
     rotate_left
     ·show Act.put _ (some 3) _ = _
      simp only [Act.put, sqA, i64_w, i32_w]; rfl
     refine one_ (i := 3) (N := some 6) (bm 10 127) rfl rfl (one_of HT_.out sqF) (by decide) (fun K hK => ?_); refine Kd.R_append_rows_step k41 (w0 := w) w.heap.size (by rfl) (.tmp 3) (.tmp 5) 22 41 (.agg #[(.int .i64 0), (.int .i64 0)]) 16 rfl Tryd.underlying22 info41 rfl (by decide) (by omega) v154 y153 l0_0 _ _ _ (fun _ => True) (fun _ => False) rfl rfl ?aO ?aR (fun _ _ h => h) (fun _ h => h.elim) ?aF ?aB ?aS ?aL ?_
     (case aR => exact sqQ HR0_0 HB)
     (case aB => exact (sqB HB))
     (case aF => exact (fun _ _ => trivial))
     (case aO => exact (sqR HO155))
     (case aS => exact (below_size (sqB HB)))
     (case aL => have := LMc2.out; omega)
     intro v157 w11 ho hb hg hat; rw [← Ny156.out] at ho; have n0_ := Aside0.mk (blk_grown (g := gb151) (o := .cells #[.slice A0_0 l0_0.length c0_0, .slice A0_1 l0_1.length c0_1] 25 (0, 0)) (sqK BK151) hg (Kd.R_ne HO155.out BK151.out (by decide))); have n1_ := Aside0.mk (blk_grown (g := gb152) (o := .cells #[.slice none 0 0, .slice none 0 0] 25 (0, 0)) (sqK BK152) hg (Kd.R_ne HO155.out BK152.out (by decide))); have n2_ := Aside0.mk (Kd.R_over' (sqR HO161) (Kd.R_typed (sqR HO155)) (by decide) hg); have n3_ := Aside0.mk (hb); have n4_ := Aside0.mk (ho); clear BK151 BK152 HO161 HB HO155; have BK151 := n0_; have BK152 := n1_; have HO161 := n2_; have HB := n3_; have HO158 := n4_; clear n0_ n1_ n2_ n3_ n4_ ho hb hg hat; refine hK.out _ _ ⟨(blk_cell BK151.out 0).trans rfl, (blk_cell BK151.out 1).trans rfl⟩ (fun hHeld => ?_); clear hK K; refine norm_ (a' := ?_) ?_ ?_
     rotate_left
     ·show Act.put _ (some 6) _ = _
      simp only [Act.put, sqA, i64_w, i32_w]; rfl
     exact norm_ (by simp only [putAll, Act.put, sqA]) (hCont (v154, v157, v160) _ ⟨hHeld, (sqR HO158), (sqR HO161), (sqK BK151), (sqK BK152), (sqB HB)⟩)
   rintro ⟨v154, v157, v160⟩ w12 ⟨hS_, h0_, h1_, h2_, h3_, h4_⟩; have n0_ : Aside0 (Kd.R k41 41 w12 w.heap.size (fun _ => True) v157 y156) := ⟨h0_⟩; have n1_ : Aside0 (Kd.R k80 80 w12 w.heap.size (fun _ => True) v160 y159) := ⟨h1_⟩; have n2_ : Aside0 (w12.heap[gb151]? = some (.cells #[.slice A0_0 l0_0.length c0_0, .slice A0_1 l0_1.length c0_1] 25 (0, 0))) := ⟨h2_⟩; have n3_ : Aside0 (w12.heap[gb152]? = some (.cells #[.slice none 0 0, .slice none 0 0] 25 (0, 0))) := ⟨h3_⟩; have n4_ : Aside0 (Below w.heap.size w w12) := ⟨h4_⟩; clear BK151 BK152 HB h0_ h1_ h2_ h3_ h4_; have HO158 := n0_; have HO161 := n1_; have BK151 := n2_; have BK152 := n3_; have HB := n4_; clear n0_ n1_ n2_ n3_ n4_; have hHeld : w12.cell? ⟨gb151, 0, none⟩ = some (.slice A0_0 l0_0.length c0_0) ∧ w12.cell? ⟨gb151, 1, none⟩ = some (.slice A0_1 l0_1.length c0_1) := hS_
   refine norm_ (a' := ?_) ?_ ?_; rotate_left
   ·simp only [putAll, Act.put, sqA]; rfl
   refine one_ (i := 7) (N := some 10) (bm 10 255) rfl rfl (one_of HT_.out sqF) (by decide) (fun K hK => ?_); refine Kd.R_append_rows_step k80 (w0 := w) w.heap.size (by rfl) (.tmp 7) (.tmp 9) 23 80 (.agg #[(.int .i64 0), (.int .i64 0), (.int .i64 0)]) 24 rfl Tryd.underlying23 info80 rfl (by decide) (by omega) v160 y159 l0_1 _ _ _ (fun _ => True) (fun _ => False) rfl rfl ?aO ?aR (fun _ _ h => h) (fun _ h => h.elim) ?aF ?aB ?aS ?aL ?_
   (case aR => exact sqQ HR0_1 HB)
   (case aB => exact (sqB HB))
   (case aF => exact (fun _ _ => trivial))
   (case aO => exact (sqR HO161))
   (case aS => exact (below_size (sqB HB)))
   (case aL => have := LMc3.out; omega)
   intro v163 w13 ho hb hg hat; rw [← Ny162.out] at ho; have n0_ := Aside0.mk (blk_grown (g := gb151) (o := .cells #[.slice A0_0 l0_0.length c0_0, .slice A0_1 l0_1.length c0_1] 25 (0, 0)) (sqK BK151) hg (Kd.R_ne HO161.out BK151.out (by decide))); have n1_ := Aside0.mk (blk_grown (g := gb152) (o := .cells #[.slice none 0 0, .slice none 0 0] 25 (0, 0)) (sqK BK152) hg (Kd.R_ne HO161.out BK152.out (by decide))); have n2_ := Aside0.mk (Kd.R_over' (sqR HO158) (Kd.R_typed (sqR HO161)) (by decide) hg); have n3_ := Aside0.mk (hb); have n4_ := Aside0.mk (ho); clear BK151 BK152 HO158 HB HO161; have BK151 := n0_; have BK152 := n1_; have HO158 := n2_; have HB := n3_; have HO164 := n4_; clear n0_ n1_ n2_ n3_ n4_ ho hb hg hat; obtain ⟨Ao14, co14, eo14⟩ := Kd.R_slice HO164.out
   (first | subst eo14 | (injection eo14 with f1_ f2_ f3_; have f4_ := f1_.symm; have f5_ := f3_.symm; clear f1_ f2_ f3_; subst f4_; subst f5_))
   obtain ⟨Ao15, co15, eo15⟩ := Kd.R_slice HO158.out
   (first | subst eo15 | (injection eo15 with f1_ f2_ f3_; have f4_ := f1_.symm; have f5_ := f3_.symm; clear f1_ f2_ f3_; subst f4_; subst f5_))
   refine hK.out _ _ ⟨(blk_cell BK151.out 0).trans rfl, (blk_cell BK151.out 1).trans rfl⟩ (fun hHeld => ?_); clear hK K; refine norm_ (a' := ?_) ?_ ?_
   rotate_left
   ·show Act.put _ (some 10) _ = _
    simp only [Act.put, sqA, i64_w, i32_w]; rfl
   refine pure_ (i := 8) (N := some 11) (v := ?_) (a' := ?_) (bm 10 511) rfl rfl (any_of HT_.out sqF) (fun _ _ _ h => h) (Or.inl ⟨by rfl, ?_⟩) ?_ ?_; rotate_left; intro w'; go_simp; (with_reducible rfl); rotate_left; simp only [Act.put, sqA, i64_w, i32_w]; rfl
   refine one_ (i := 9) (N := none) (bm 10 1023) rfl rfl (one_of HT_.out sqF) (by decide) (fun K hK => ?_); have hs16 : w13.cell? ⟨gb152, 0, none⟩ = some (.slice none 0 0) := (blk_cell BK152.out 0).trans rfl; have hfs16 := blk_frozen BK152.out 0; have hns16_0 := NB151_152.out; have hms16_0 := NB152_151.out; have hs17 : w13.cell? ⟨gb152, 1, none⟩ = some (.slice none 0 0) := (blk_cell BK152.out 1).trans rfl; have hfs17 := blk_frozen BK152.out 1; have hns17_0 := NB151_152.out; have hms17_0 := NB152_151.out; refine skip_ (w1 := ?_) (by rfl) rfl ?_ ?_
   rotate_left
   ·go_simp
    rfl
   refine hK.out _ _ ⟨((cell_far (p := ⟨gb152, _, none⟩) NB151_152.out _).trans (((cell_far (p := ⟨gb152, _, none⟩) NB151_152.out _).trans (hHeld.1)))), ((cell_far (p := ⟨gb152, _, none⟩) NB151_152.out _).trans (((cell_far (p := ⟨gb152, _, none⟩) NB151_152.out _).trans (hHeld.2))))⟩ (fun hHeld => ?_); clear hK K; refine done_ (done_of HT_.out sqF) ?_
   try go_wp2
   refine bodyPost_ret (results_cell_row rfl _ _ gb152 25 #[.slice Ao15 y156.length co15, .slice Ao14 y162.length co14] (0, 0) _ rfl (by (with_reducible repeat (first | refine blk_drewN ?_ _ | refine blk_drew ?_ | refine blk_alloc ?_ _)); refine blk_put (cs := #[.slice Ao15 y156.length co15, .slice none 0 0]) ?_ 1 _ rfl; (with_reducible repeat (first | refine blk_drewN ?_ _ | refine blk_drew ?_ | refine blk_alloc ?_ _)); refine blk_put (cs := #[.slice none 0 0, .slice none 0 0]) ?_ 0 _ rfl; (with_reducible repeat (first | refine blk_drewN ?_ _ | refine blk_drew ?_ | refine blk_alloc ?_ _)); exact BK152.out) Tryd.underlying25 rfl sqF) rfl ?_; exact ⟨_, _, by first | rfl | (simp [errW_none, errW_some] <;> rfl) | (simp [*, errW_none, errW_some] <;> rfl), by (with_reducible repeat (first | apply Kd.R_alloc | apply Kd.R_drewN | apply Kd.R_drew)); exact Kd.R_mono (Kd.R_far (p := ⟨gb152, 1, none⟩) (Kd.R_far (p := ⟨gb152, 0, none⟩) (Kd.R_types HO158.out BK152.out (by decide)) (fun _ hk => hk.2) (.slice Ao15 y156.length co15)) (fun _ hk => hk.2) (.slice Ao14 y162.length co14)) (fun _ hk => trivial), by (with_reducible repeat (first | apply Kd.R_alloc | apply Kd.R_drewN | apply Kd.R_drew)); exact Kd.R_mono (Kd.R_far (p := ⟨gb152, 1, none⟩) (Kd.R_far (p := ⟨gb152, 0, none⟩) (Kd.R_types HO164.out BK152.out (by decide)) (fun _ hk => hk.2) (.slice Ao15 y156.length co15)) (fun _ hk => hk.2) (.slice Ao14 y162.length co14)) (fun _ hk => trivial), sqB HB⟩
  ·rw [if_neg c3] at H
   exact absurd H (by simp)
 ·rw [if_neg c2] at H
  exact absurd H (by simp)
end Go.Proofs.YtemingmeidmjkaaDoor.Q
namespace Go.Proofs.YtemingmeidmjkaaDoor.Q
open Go.RowKit Go.Proofs.YtemingmeidmjkaaDoorW.PrintWords Go.Proofs.YtemingmeidmjkaaDoorW.PrintLast Go.Proofs.YtemingmeidmjkaaDoorW.PrintMore
attribute [local go_sem] max2_int min2_int max_two min_two max_three min_three max_four min_four   -- for this text's walks alone
set_option linter.unusedVariables false
set_option linter.unusedSimpArgs false
def rf_In.f (a0 : Int) (a1 : Int) (a2 : Int) : Option (Bool) := if a0 ≥ a1 then (some (decide (a0 ≤ a2))) else (some false)
set_option maxHeartbeats 8000000 in
set_option maxRecDepth 100000 in
theorem rf_In.calls (a0 : Int) (a1 : Int) (a2 : Int) (r : Bool) (w : World) (h : rf_In.f a0 a1 a2 = some r) :
  Calls Tryd.prog 35 #[.int .i64 a0, .int .i64 a1, .int .i64 a2] w fun e w' => e = .returned (.bool r) ∧ Drawn0 w w' := by
 have H : (if a0 ≥ a1 then (some (decide (a0 ≤ a2))) else (some false)) = some r := h; clear h
 by_cases c4 : a0 ≥ a1
 ·rw [if_pos c4] at H
  have c4b0 : decide (a1 ≤ a0) = true := decide_eq_true c4; clear c4; obtain rfl := Option.some.inj H
  go_enter Tryd.func35, Tryd.ntmps35
  go_wp2
  go_ret
  exact ⟨by first | rfl | (simp; done) | (simp [*]; done), by repeat (first | exact Drawn0.refl _ | apply Drawn0.step)⟩
 ·rw [if_neg c4] at H
  have c4b0 : decide (a1 ≤ a0) = false := decide_eq_false c4; clear c4; obtain rfl := Option.some.inj H
  go_enter Tryd.func35, Tryd.ntmps35
  go_wp2
  go_ret
  exact ⟨by first | rfl | (simp; done) | (simp [*]; done), by repeat (first | exact Drawn0.refl _ | apply Drawn0.step)⟩
end Go.Proofs.YtemingmeidmjkaaDoor.Q
namespace Go.Proofs.YtemingmeidmjkaaDoor.Q
open Go.RowKit Go.Proofs.YtemingmeidmjkaaDoorW.PrintWords Go.Proofs.YtemingmeidmjkaaDoorW.PrintLast Go.Proofs.YtemingmeidmjkaaDoorW.PrintMore
attribute [local go_sem] max2_int min2_int max_two min_two max_three min_three max_four min_four   -- for this text's walks alone
set_option linter.unusedVariables false
set_option linter.unusedSimpArgs false
mutual
def rf_Check.l0 : Nat → Int → List (S41) → List (S80) → Option (Int)
 | 0, _, _, _ => none
 | k + 1, x3, x166000, x166001 => if x3 < (x166000.length : Int) then (if 0 ≤ x3 then ((rf_In.f ((rd_T41 x166000 x3).f0) 0 ((rd_T41 x166000 x3).f1)).bind fun t169 => (if t169 = true then (if ((rd_T41 x166000 x3).f1) > 300 then (some 4) else (rf_Check.l0 k (wrap64 (x3 + 1)) x166000 x166001)) else (some 4))) else (none)) else (if (x166001.length : Int) > 8 then (some 5) else (rf_Check.l1 k 0 x166000 x166001))
def rf_Check.l1 : Nat → Int → List (S41) → List (S80) → Option (Int)
 | 0, _, _, _ => none
 | k + 1, x4, x166000, x166001 => if x4 < (x166001.length : Int) then (if 0 ≤ x4 then ((rf_In.f ((rd_T80 x166001 x4).f0) 0 (x166000.length : Int)).bind fun t173 => (if t173 = true then ((rf_In.f ((rd_T80 x166001 x4).f1) 0 400).bind fun t174 => (if t174 = true then ((rf_In.f ((rd_T80 x166001 x4).f2) 0 20).bind fun t175 => (if t175 = true then (rf_Check.l1 k (wrap64 (x4 + 1)) x166000 x166001) else (some 2))) else (some 2))) else (some 2))) else (none)) else (some 0)
end
def rf_Check.f (k : Nat) (l0_0 : List (S41)) (l0_1 : List (S80)) : Option (Int) := (rf_In.f (l0_0.length : Int) 1 5).bind fun t166 => (if t166 = true then (rf_Check.l0 k 0 l0_0 l0_1) else (some 4))
set_option maxHeartbeats 8000000 in
set_option maxRecDepth 100000 in
theorem rf_Check.calls (k : Nat) (A0_0 : Option Addr) (c0_0 : Nat) (l0_0 : List (S41)) (A0_1 : Option Addr) (c0_1 : Nat) (l0_1 : List (S80)) (r : Int) (w : World) (hr0_0 : Kd.C k41 w A0_0 l0_0.length l0_0) (hc0_0 : l0_0.length ≤ c0_0) (hr0_1 : Kd.C k80 w A0_1 l0_1.length l0_1) (hc0_1 : l0_1.length ≤ c0_1) (h : rf_Check.f k l0_0 l0_1 = some r) :
  Calls Tryd.prog 22 #[.agg #[.slice A0_0 l0_0.length c0_0, .slice A0_1 l0_1.length c0_1]] w fun e w' => e = .returned (.int .i64 r) ∧ Below w.heap.size w w' := by
 have hu25 := Tryd.underlying25; have hu80 := Tryd.underlying80; have HR0_0 := Aside0.mk hr0_0; have HC0_0 := Aside0.mk hc0_0; clear hr0_0 hc0_0; have HR0_1 := Aside0.mk hr0_1; have HC0_1 := Aside0.mk hc0_1; clear hr0_1 hc0_1; have HB := Aside0.mk (Below.refl w.heap.size w); have H : ((rf_In.f (l0_0.length : Int) 1 5).bind fun t166 => (if t166 = true then (rf_Check.l0 k 0 l0_0 l0_1) else (some 4))) = some r := h; clear h; obtain ⟨t166, A20, H⟩ := Option.bind_eq_some_iff.mp H; have A2 := Aside0.mk A20; clear A20
 by_cases c3 : t166 = true
 ·subst c3
  rw [if_pos rfl] at H; have H' := Aside0.mk H; clear H; go_enter Tryd.func22, Tryd.ntmps22
  go_wp2_with (first | ((with_reducible refine gate_dst (N := 1) rfl ?_); refine box_event ?hg (N := 1) ?hd (cs := #[.slice A0_0 l0_0.length c0_0, .slice A0_1 l0_1.length c0_1]) (t := 25) ?hr ?_; (case hd => rfl); (case hg => rfl); (case hr => first | (go_simp; done) | (go_simp; rfl)); intro gb165 hg w4 hbox hb; have BK165 := Aside0.mk (hbox); have GW165 := Aside0.mk (sqZ hg HB); have GE165 := Aside0.mk (sqZ hg HB); replace HB := sqb hb HB; clear hb hbox hg; have hcz5_0 := sqc0 BK165; have hcz5_1 := sqc1 BK165; have hfz5_0 := blk_frozen BK165.out 0; have hfz5_1 := blk_frozen BK165.out 1) | (go_at_call 35; (with_reducible refine (rf_In.calls (l0_0.length : Int) 1 5 true _ A2.out).mono ?_); rintro e w' ⟨rfl, ⟨nd, rfl⟩⟩; (try first | exact ⟨rfl, _, World.drewN_drewN _ _ _⟩ | exact ⟨rfl, _, Eq.trans (World.drewN_drewN _ _ _) (congrArg (World.drewN _) (Nat.add_assoc _ _ _))⟩)))
  repeat (go_quiet (first | ((with_reducible refine gate_dst (N := 1) rfl ?_); refine box_event ?hg (N := 1) ?hd (cs := #[.slice A0_0 l0_0.length c0_0, .slice A0_1 l0_1.length c0_1]) (t := 25) ?hr ?_; (case hd => rfl); (case hg => rfl); (case hr => first | (go_simp; done) | (go_simp; rfl)); intro gb165 hg w4 hbox hb; have BK165 := Aside0.mk (hbox); have GW165 := Aside0.mk (sqZ hg HB); have GE165 := Aside0.mk (sqZ hg HB); replace HB := sqb hb HB; clear hb hbox hg; have hcz5_0 := sqc0 BK165; have hcz5_1 := sqc1 BK165; have hfz5_0 := blk_frozen BK165.out 0; have hfz5_1 := blk_frozen BK165.out 1) | (go_at_call 35; (with_reducible refine (rf_In.calls (l0_0.length : Int) 1 5 true _ A2.out).mono ?_); rintro e w' ⟨rfl, ⟨nd, rfl⟩⟩; (try first | exact ⟨rfl, _, World.drewN_drewN _ _ _⟩ | exact ⟨rfl, _, Eq.trans (World.drewN_drewN _ _ _) (congrArg (World.drewN _) (Nat.add_assoc _ _ _))⟩))); try go_wp2_with (first | ((with_reducible refine gate_dst (N := 1) rfl ?_); refine box_event ?hg (N := 1) ?hd (cs := #[.slice A0_0 l0_0.length c0_0, .slice A0_1 l0_1.length c0_1]) (t := 25) ?hr ?_; (case hd => rfl); (case hg => rfl); (case hr => first | (go_simp; done) | (go_simp; rfl)); intro gb165 hg w4 hbox hb; have BK165 := Aside0.mk (hbox); have GW165 := Aside0.mk (sqZ hg HB); have GE165 := Aside0.mk (sqZ hg HB); replace HB := sqb hb HB; clear hb hbox hg; have hcz5_0 := sqc0 BK165; have hcz5_1 := sqc1 BK165; have hfz5_0 := blk_frozen BK165.out 0; have hfz5_1 := blk_frozen BK165.out 1) | (go_at_call 35; (with_reducible refine (rf_In.calls (l0_0.length : Int) 1 5 true _ A2.out).mono ?_); rintro e w' ⟨rfl, ⟨nd, rfl⟩⟩; (try first | exact ⟨rfl, _, World.drewN_drewN _ _ _⟩ | exact ⟨rfl, _, Eq.trans (World.drewN_drewN _ _ _) (congrArg (World.drewN _) (Nat.add_assoc _ _ _))⟩))))
  go_loopg [3] k (fun kq v3 w' => ∃ (x3_1 : Int), v3 = .int .i64 x3_1 ∧ Aside0 (rf_Check.l0 kq x3_1 l0_0 l0_1 = some r) ∧ Aside0 (kq ≤ k) ∧ Aside0 (w'.heap[gb165]? = some (.cells #[(.slice A0_0 l0_0.length c0_0), (.slice A0_1 l0_1.length c0_1)] 25 (0, 0))) ∧ Aside0 (Below w.heap.size w w'))
  case atStart => exact ⟨(0), sqE, H', ⟨Nat.le_refl _⟩, ⟨sqK BK165⟩, ⟨sqB HB⟩⟩
  case round =>
   clear H'; try clear c3
   (try clear hcz5_0); (try clear hcz5_1); (try clear hfz5_0); (try clear hfz5_1); obtain ⟨x3_1, rfl, HA, HK1, BK165, HB⟩ := hrel
   cases gk with
   | zero => exact absurd HA.out (by simp [rf_Check.l0])
   | succ k1 =>
    have H := HA.out; clear HA; simp only [rf_Check.l0] at H
    by_cases c6 : x3_1 < (l0_0.length : Int)
    ·rw [if_pos c6] at H
     have c6b0 : decide (x3_1 < (l0_0.length : Int)) = true := decide_eq_true c6; clear c6
     by_cases c7 : 0 ≤ x3_1
     ·rw [if_pos c7] at H
      have c7b0 : decide (0 ≤ x3_1) = true := decide_eq_true c7; clear c7; obtain ⟨t169, A80, H⟩ := Option.bind_eq_some_iff.mp H; have A8 := Aside0.mk A80; clear A80
      by_cases c9 : t169 = true
      ·subst c9
       rw [if_pos rfl] at H
       by_cases c10 : ((rd_T41 l0_0 x3_1).f1) > 300
       ·rw [if_pos c10] at H
        have c10b0 : decide (300 < ((rd_T41 l0_0 x3_1).f1)) = true := decide_eq_true c10; clear c10; obtain rfl := Option.some.inj H; have hcz11_0 := sqc0 BK165; have hcz11_1 := sqc1 BK165; have hfz11_0 := blk_frozen BK165.out 0; have hfz11_1 := blk_frozen BK165.out 1; have p167 : 0 ≤ (x3_1 : Int) := sqD; have q167 : x3_1 < (l0_0.length : Int) := sqD; obtain ⟨ad167, e167, hx167_0, hx167_1⟩ := at_T41 HR0_0.out x3_1 p167 q167
        cases e167
        replace hx167_0 := (HB.out.cell (World.block_lt_of_cell? w _ hx167_0)).trans hx167_0; replace hx167_1 := (HB.out.cell (World.block_lt_of_cell? w _ hx167_1)).trans hx167_1; replace p167 := eq_true p167; replace q167 := eq_true q167; have p168 : 0 ≤ (x3_1 : Int) := sqD; have q168 : x3_1 < (l0_0.length : Int) := sqD; obtain ⟨ad168, e168, hx168_0, hx168_1⟩ := at_T41 HR0_0.out x3_1 p168 q168; obtain rfl : ad167 = ad168 := (by injection e168); replace hx168_0 := (HB.out.cell (World.block_lt_of_cell? w _ hx168_0)).trans hx168_0; replace hx168_1 := (HB.out.cell (World.block_lt_of_cell? w _ hx168_1)).trans hx168_1; replace p168 := eq_true p168; replace q168 := eq_true q168
        go_wp2_with (first | (go_at_call 35; (with_reducible refine (rf_In.calls ((rd_T41 l0_0 x3_1).f0) 0 ((rd_T41 l0_0 x3_1).f1) true _ A8.out).mono ?_); rintro e w' ⟨rfl, ⟨nd, rfl⟩⟩; (try first | exact ⟨rfl, _, World.drewN_drewN _ _ _⟩ | exact ⟨rfl, _, Eq.trans (World.drewN_drewN _ _ _) (congrArg (World.drewN _) (Nat.add_assoc _ _ _))⟩); have p170 : 0 ≤ (x3_1 : Int) := sqD; have q170 : x3_1 < (l0_0.length : Int) := sqD; obtain ⟨ad170, e170, hx170_0, hx170_1⟩ := at_T41 HR0_0.out x3_1 p170 q170; obtain rfl : ad167 = ad170 := (by injection e170); replace hx170_0 := (HB.out.cell (World.block_lt_of_cell? w _ hx170_0)).trans hx170_0; replace hx170_1 := (HB.out.cell (World.block_lt_of_cell? w _ hx170_1)).trans hx170_1; replace p170 := eq_true p170; replace q170 := eq_true q170))
        repeat (go_quiet (first | (go_at_call 35; (with_reducible refine (rf_In.calls ((rd_T41 l0_0 x3_1).f0) 0 ((rd_T41 l0_0 x3_1).f1) true _ A8.out).mono ?_); rintro e w' ⟨rfl, ⟨nd, rfl⟩⟩; (try first | exact ⟨rfl, _, World.drewN_drewN _ _ _⟩ | exact ⟨rfl, _, Eq.trans (World.drewN_drewN _ _ _) (congrArg (World.drewN _) (Nat.add_assoc _ _ _))⟩); have p170 : 0 ≤ (x3_1 : Int) := sqD; have q170 : x3_1 < (l0_0.length : Int) := sqD; obtain ⟨ad170, e170, hx170_0, hx170_1⟩ := at_T41 HR0_0.out x3_1 p170 q170; obtain rfl : ad167 = ad170 := (by injection e170); replace hx170_0 := (HB.out.cell (World.block_lt_of_cell? w _ hx170_0)).trans hx170_0; replace hx170_1 := (HB.out.cell (World.block_lt_of_cell? w _ hx170_1)).trans hx170_1; replace p170 := eq_true p170; replace q170 := eq_true q170)); try go_wp2_with (first | (go_at_call 35; (with_reducible refine (rf_In.calls ((rd_T41 l0_0 x3_1).f0) 0 ((rd_T41 l0_0 x3_1).f1) true _ A8.out).mono ?_); rintro e w' ⟨rfl, ⟨nd, rfl⟩⟩; (try first | exact ⟨rfl, _, World.drewN_drewN _ _ _⟩ | exact ⟨rfl, _, Eq.trans (World.drewN_drewN _ _ _) (congrArg (World.drewN _) (Nat.add_assoc _ _ _))⟩); have p170 : 0 ≤ (x3_1 : Int) := sqD; have q170 : x3_1 < (l0_0.length : Int) := sqD; obtain ⟨ad170, e170, hx170_0, hx170_1⟩ := at_T41 HR0_0.out x3_1 p170 q170; obtain rfl : ad167 = ad170 := (by injection e170); replace hx170_0 := (HB.out.cell (World.block_lt_of_cell? w _ hx170_0)).trans hx170_0; replace hx170_1 := (HB.out.cell (World.block_lt_of_cell? w _ hx170_1)).trans hx170_1; replace p170 := eq_true p170; replace q170 := eq_true q170)))
        go_ret
        exact ⟨by first | rfl | (simp [errW_none, errW_some] <;> rfl) | (simp [*, errW_none, errW_some] <;> rfl), sqB HB⟩
       ·rw [if_neg c10] at H
        have c10b0 : decide (300 < ((rd_T41 l0_0 x3_1).f1)) = false := decide_eq_false c10; clear c10; have H' := Aside0.mk H; clear H; have hcz12_0 := sqc0 BK165; have hcz12_1 := sqc1 BK165; have hfz12_0 := blk_frozen BK165.out 0; have hfz12_1 := blk_frozen BK165.out 1; have p167 : 0 ≤ (x3_1 : Int) := sqD; have q167 : x3_1 < (l0_0.length : Int) := sqD; obtain ⟨ad167, e167, hx167_0, hx167_1⟩ := at_T41 HR0_0.out x3_1 p167 q167
        cases e167
        replace hx167_0 := (HB.out.cell (World.block_lt_of_cell? w _ hx167_0)).trans hx167_0; replace hx167_1 := (HB.out.cell (World.block_lt_of_cell? w _ hx167_1)).trans hx167_1; replace p167 := eq_true p167; replace q167 := eq_true q167; have p168 : 0 ≤ (x3_1 : Int) := sqD; have q168 : x3_1 < (l0_0.length : Int) := sqD; obtain ⟨ad168, e168, hx168_0, hx168_1⟩ := at_T41 HR0_0.out x3_1 p168 q168; obtain rfl : ad167 = ad168 := (by injection e168); replace hx168_0 := (HB.out.cell (World.block_lt_of_cell? w _ hx168_0)).trans hx168_0; replace hx168_1 := (HB.out.cell (World.block_lt_of_cell? w _ hx168_1)).trans hx168_1; replace p168 := eq_true p168; replace q168 := eq_true q168
        go_wp2_with (first | (go_at_call 35; (with_reducible refine (rf_In.calls ((rd_T41 l0_0 x3_1).f0) 0 ((rd_T41 l0_0 x3_1).f1) true _ A8.out).mono ?_); rintro e w' ⟨rfl, ⟨nd, rfl⟩⟩; (try first | exact ⟨rfl, _, World.drewN_drewN _ _ _⟩ | exact ⟨rfl, _, Eq.trans (World.drewN_drewN _ _ _) (congrArg (World.drewN _) (Nat.add_assoc _ _ _))⟩); have p170 : 0 ≤ (x3_1 : Int) := sqD; have q170 : x3_1 < (l0_0.length : Int) := sqD; obtain ⟨ad170, e170, hx170_0, hx170_1⟩ := at_T41 HR0_0.out x3_1 p170 q170; obtain rfl : ad167 = ad170 := (by injection e170); replace hx170_0 := (HB.out.cell (World.block_lt_of_cell? w _ hx170_0)).trans hx170_0; replace hx170_1 := (HB.out.cell (World.block_lt_of_cell? w _ hx170_1)).trans hx170_1; replace p170 := eq_true p170; replace q170 := eq_true q170))
        repeat (go_quiet (first | (go_at_call 35; (with_reducible refine (rf_In.calls ((rd_T41 l0_0 x3_1).f0) 0 ((rd_T41 l0_0 x3_1).f1) true _ A8.out).mono ?_); rintro e w' ⟨rfl, ⟨nd, rfl⟩⟩; (try first | exact ⟨rfl, _, World.drewN_drewN _ _ _⟩ | exact ⟨rfl, _, Eq.trans (World.drewN_drewN _ _ _) (congrArg (World.drewN _) (Nat.add_assoc _ _ _))⟩); have p170 : 0 ≤ (x3_1 : Int) := sqD; have q170 : x3_1 < (l0_0.length : Int) := sqD; obtain ⟨ad170, e170, hx170_0, hx170_1⟩ := at_T41 HR0_0.out x3_1 p170 q170; obtain rfl : ad167 = ad170 := (by injection e170); replace hx170_0 := (HB.out.cell (World.block_lt_of_cell? w _ hx170_0)).trans hx170_0; replace hx170_1 := (HB.out.cell (World.block_lt_of_cell? w _ hx170_1)).trans hx170_1; replace p170 := eq_true p170; replace q170 := eq_true q170)); try go_wp2_with (first | (go_at_call 35; (with_reducible refine (rf_In.calls ((rd_T41 l0_0 x3_1).f0) 0 ((rd_T41 l0_0 x3_1).f1) true _ A8.out).mono ?_); rintro e w' ⟨rfl, ⟨nd, rfl⟩⟩; (try first | exact ⟨rfl, _, World.drewN_drewN _ _ _⟩ | exact ⟨rfl, _, Eq.trans (World.drewN_drewN _ _ _) (congrArg (World.drewN _) (Nat.add_assoc _ _ _))⟩); have p170 : 0 ≤ (x3_1 : Int) := sqD; have q170 : x3_1 < (l0_0.length : Int) := sqD; obtain ⟨ad170, e170, hx170_0, hx170_1⟩ := at_T41 HR0_0.out x3_1 p170 q170; obtain rfl : ad167 = ad170 := (by injection e170); replace hx170_0 := (HB.out.cell (World.block_lt_of_cell? w _ hx170_0)).trans hx170_0; replace hx170_1 := (HB.out.cell (World.block_lt_of_cell? w _ hx170_1)).trans hx170_1; replace p170 := eq_true p170; replace q170 := eq_true q170)))
        go_roundg k1
        case measure => have := HK1.out; omega
        case rel => exact ⟨(wrap64 (x3_1 + 1)), sqE, H', ⟨by have := HK1.out; omega⟩, ⟨sqK BK165⟩, ⟨sqB HB⟩⟩
      ·replace c9 := Bool.eq_false_iff.mpr c9
       subst c9; rw [if_neg Bool.false_ne_true] at H; obtain rfl := Option.some.inj H; have hcz13_0 := sqc0 BK165; have hcz13_1 := sqc1 BK165; have hfz13_0 := blk_frozen BK165.out 0; have hfz13_1 := blk_frozen BK165.out 1; have p167 : 0 ≤ (x3_1 : Int) := sqD; have q167 : x3_1 < (l0_0.length : Int) := sqD; obtain ⟨ad167, e167, hx167_0, hx167_1⟩ := at_T41 HR0_0.out x3_1 p167 q167
       cases e167
       replace hx167_0 := (HB.out.cell (World.block_lt_of_cell? w _ hx167_0)).trans hx167_0; replace hx167_1 := (HB.out.cell (World.block_lt_of_cell? w _ hx167_1)).trans hx167_1; replace p167 := eq_true p167; replace q167 := eq_true q167; have p168 : 0 ≤ (x3_1 : Int) := sqD; have q168 : x3_1 < (l0_0.length : Int) := sqD; obtain ⟨ad168, e168, hx168_0, hx168_1⟩ := at_T41 HR0_0.out x3_1 p168 q168; obtain rfl : ad167 = ad168 := (by injection e168); replace hx168_0 := (HB.out.cell (World.block_lt_of_cell? w _ hx168_0)).trans hx168_0; replace hx168_1 := (HB.out.cell (World.block_lt_of_cell? w _ hx168_1)).trans hx168_1; replace p168 := eq_true p168; replace q168 := eq_true q168
       go_wp2_with (first | (go_at_call 35; (with_reducible refine (rf_In.calls ((rd_T41 l0_0 x3_1).f0) 0 ((rd_T41 l0_0 x3_1).f1) false _ A8.out).mono ?_); rintro e w' ⟨rfl, ⟨nd, rfl⟩⟩; (try first | exact ⟨rfl, _, World.drewN_drewN _ _ _⟩ | exact ⟨rfl, _, Eq.trans (World.drewN_drewN _ _ _) (congrArg (World.drewN _) (Nat.add_assoc _ _ _))⟩)))
       repeat (go_quiet (first | (go_at_call 35; (with_reducible refine (rf_In.calls ((rd_T41 l0_0 x3_1).f0) 0 ((rd_T41 l0_0 x3_1).f1) false _ A8.out).mono ?_); rintro e w' ⟨rfl, ⟨nd, rfl⟩⟩; (try first | exact ⟨rfl, _, World.drewN_drewN _ _ _⟩ | exact ⟨rfl, _, Eq.trans (World.drewN_drewN _ _ _) (congrArg (World.drewN _) (Nat.add_assoc _ _ _))⟩))); try go_wp2_with (first | (go_at_call 35; (with_reducible refine (rf_In.calls ((rd_T41 l0_0 x3_1).f0) 0 ((rd_T41 l0_0 x3_1).f1) false _ A8.out).mono ?_); rintro e w' ⟨rfl, ⟨nd, rfl⟩⟩; (try first | exact ⟨rfl, _, World.drewN_drewN _ _ _⟩ | exact ⟨rfl, _, Eq.trans (World.drewN_drewN _ _ _) (congrArg (World.drewN _) (Nat.add_assoc _ _ _))⟩))))
       go_ret
       exact ⟨by first | rfl | (simp [errW_none, errW_some] <;> rfl) | (simp [*, errW_none, errW_some] <;> rfl), sqB HB⟩
     ·rw [if_neg c7] at H
      exact absurd H (by simp)
    ·rw [if_neg c6] at H
     have c6b0 : decide (x3_1 < (l0_0.length : Int)) = false := decide_eq_false c6; clear c6
     by_cases c14 : (l0_1.length : Int) > 8
     ·rw [if_pos c14] at H
      have c14b0 : decide (8 < (l0_1.length : Int)) = true := decide_eq_true c14; have c14b1 : decide (8 < l0_1.length) = true := decide_eq_true (by omega); clear c14; obtain rfl := Option.some.inj H; have hcz15_0 := sqc0 BK165; have hcz15_1 := sqc1 BK165; have hfz15_0 := blk_frozen BK165.out 0; have hfz15_1 := blk_frozen BK165.out 1
      go_wp2
      repeat (go_quiet (fail); try go_wp2)
      go_ret
      exact ⟨by first | rfl | (simp [errW_none, errW_some] <;> rfl) | (simp [*, errW_none, errW_some] <;> rfl), sqB HB⟩
     ·rw [if_neg c14] at H
      have c14b0 : decide (8 < (l0_1.length : Int)) = false := decide_eq_false c14; have c14b1 : decide (8 < l0_1.length) = false := decide_eq_false (by omega); clear c14; have H' := Aside0.mk H; clear H; have hcz16_0 := sqc0 BK165; have hcz16_1 := sqc1 BK165; have hfz16_0 := blk_frozen BK165.out 0; have hfz16_1 := blk_frozen BK165.out 1
      go_wp2
      repeat (go_quiet (fail); try go_wp2)
      go_loopg [4] k1 (fun kq v4 w' => ∃ (x4_2 : Int), v4 = .int .i64 x4_2 ∧ Aside0 (rf_Check.l1 kq x4_2 l0_0 l0_1 = some r) ∧ Aside0 (kq ≤ k1) ∧ Aside0 (w'.heap[gb165]? = some (.cells #[(.slice A0_0 l0_0.length c0_0), (.slice A0_1 l0_1.length c0_1)] 25 (0, 0))) ∧ Aside0 (Below w.heap.size w w'))
      case atStart => exact ⟨(0), sqE, H', ⟨Nat.le_refl _⟩, ⟨sqK BK165⟩, ⟨sqB HB⟩⟩
      case round =>
       clear H'; try clear c6b0
       (try clear c14b0); (try clear c14b1); (try clear hcz16_0); (try clear hcz16_1); (try clear hfz16_0); (try clear hfz16_1); obtain ⟨x4_2, rfl, HA, HK2, BK165, HB⟩ := hrel
       cases gk with
       | zero => exact absurd HA.out (by simp [rf_Check.l1])
       | succ k2 =>
        have H := HA.out; clear HA; simp only [rf_Check.l1] at H
        by_cases c17 : x4_2 < (l0_1.length : Int)
        ·rw [if_pos c17] at H
         have c17b0 : decide (x4_2 < (l0_1.length : Int)) = true := decide_eq_true c17; clear c17
         by_cases c18 : 0 ≤ x4_2
         ·rw [if_pos c18] at H
          have c18b0 : decide (0 ≤ x4_2) = true := decide_eq_true c18; clear c18; obtain ⟨t173, A190, H⟩ := Option.bind_eq_some_iff.mp H; have A19 := Aside0.mk A190; clear A190
          by_cases c20 : t173 = true
          ·subst c20
           rw [if_pos rfl] at H; obtain ⟨t174, A210, H⟩ := Option.bind_eq_some_iff.mp H; have A21 := Aside0.mk A210; clear A210
           by_cases c22 : t174 = true
           ·subst c22
            rw [if_pos rfl] at H; obtain ⟨t175, A230, H⟩ := Option.bind_eq_some_iff.mp H; have A23 := Aside0.mk A230; clear A230
            by_cases c24 : t175 = true
            ·subst c24
             rw [if_pos rfl] at H; have H' := Aside0.mk H; clear H; have hcz25_0 := sqc0 BK165; have hcz25_1 := sqc1 BK165; have hfz25_0 := blk_frozen BK165.out 0; have hfz25_1 := blk_frozen BK165.out 1; have p171 : 0 ≤ (x4_2 : Int) := sqD; have q171 : x4_2 < (l0_1.length : Int) := sqD; obtain ⟨ad171, e171, hx171_0, hx171_1, hx171_2⟩ := at_T80 HR0_1.out x4_2 p171 q171
             cases e171
             replace hx171_0 := (HB.out.cell (World.block_lt_of_cell? w _ hx171_0)).trans hx171_0; replace hx171_1 := (HB.out.cell (World.block_lt_of_cell? w _ hx171_1)).trans hx171_1; replace hx171_2 := (HB.out.cell (World.block_lt_of_cell? w _ hx171_2)).trans hx171_2; replace p171 := eq_true p171; replace q171 := eq_true q171
             go_wp2_with (first | ((with_reducible refine gate_dst (N := 5) rfl ?_); refine box_event ?hg (N := 5) ?hd (cs := #[.int .i64 0, .int .i64 0, .int .i64 0]) (t := 80) ?hr ?_; (case hd => rfl); (case hg => rfl); (case hr => first | (go_simp; done) | (go_simp; rfl)); intro gb172 hg w26 hbox hb; have BK172 := Aside0.mk (hbox); have GW172 := Aside0.mk (sqZ hg HB); have GE172 := Aside0.mk (sqZ hg HB); replace HB := sqb hb HB; have NB165_172 := Aside0.mk (sqL hg BK165); have NB172_165 := Aside0.mk (sqG hg BK165); replace BK165 := sqk BK165 hb; clear hb hbox hg; have hnb27 := NB172_165.out; have hnc27 := NB165_172.out; have hcz28_0 := sqc0 BK172; have hcz28_1 := sqc1 BK172; have hcz28_2 := sqc2 BK172; have hfz28_0 := blk_frozen BK172.out 0; have hfz28_1 := blk_frozen BK172.out 1; have hfz28_2 := blk_frozen BK172.out 2; have hcz29_0 := sqc0 BK165; have hcz29_1 := sqc1 BK165; have hfz29_0 := blk_frozen BK165.out 0; have hfz29_1 := blk_frozen BK165.out 1) | (go_at_call 35; (with_reducible refine (rf_In.calls ((rd_T80 l0_1 x4_2).f0) 0 (l0_0.length : Int) true _ A19.out).mono ?_); rintro e w' ⟨rfl, ⟨nd, rfl⟩⟩; (try first | exact ⟨rfl, _, World.drewN_drewN _ _ _⟩ | exact ⟨rfl, _, Eq.trans (World.drewN_drewN _ _ _) (congrArg (World.drewN _) (Nat.add_assoc _ _ _))⟩)) | (go_at_call 35; (with_reducible refine (rf_In.calls ((rd_T80 l0_1 x4_2).f1) 0 400 true _ A21.out).mono ?_); rintro e w' ⟨rfl, ⟨nd, rfl⟩⟩; (try first | exact ⟨rfl, _, World.drewN_drewN _ _ _⟩ | exact ⟨rfl, _, Eq.trans (World.drewN_drewN _ _ _) (congrArg (World.drewN _) (Nat.add_assoc _ _ _))⟩)) | (go_at_call 35; (with_reducible refine (rf_In.calls ((rd_T80 l0_1 x4_2).f2) 0 20 true _ A23.out).mono ?_); rintro e w' ⟨rfl, ⟨nd, rfl⟩⟩; (try first | exact ⟨rfl, _, World.drewN_drewN _ _ _⟩ | exact ⟨rfl, _, Eq.trans (World.drewN_drewN _ _ _) (congrArg (World.drewN _) (Nat.add_assoc _ _ _))⟩)))
             repeat (go_quiet (first | ((with_reducible refine gate_dst (N := 5) rfl ?_); refine box_event ?hg (N := 5) ?hd (cs := #[.int .i64 0, .int .i64 0, .int .i64 0]) (t := 80) ?hr ?_; (case hd => rfl); (case hg => rfl); (case hr => first | (go_simp; done) | (go_simp; rfl)); intro gb172 hg w26 hbox hb; have BK172 := Aside0.mk (hbox); have GW172 := Aside0.mk (sqZ hg HB); have GE172 := Aside0.mk (sqZ hg HB); replace HB := sqb hb HB; have NB165_172 := Aside0.mk (sqL hg BK165); have NB172_165 := Aside0.mk (sqG hg BK165); replace BK165 := sqk BK165 hb; clear hb hbox hg; have hnb27 := NB172_165.out; have hnc27 := NB165_172.out; have hcz28_0 := sqc0 BK172; have hcz28_1 := sqc1 BK172; have hcz28_2 := sqc2 BK172; have hfz28_0 := blk_frozen BK172.out 0; have hfz28_1 := blk_frozen BK172.out 1; have hfz28_2 := blk_frozen BK172.out 2; have hcz29_0 := sqc0 BK165; have hcz29_1 := sqc1 BK165; have hfz29_0 := blk_frozen BK165.out 0; have hfz29_1 := blk_frozen BK165.out 1) | (go_at_call 35; (with_reducible refine (rf_In.calls ((rd_T80 l0_1 x4_2).f0) 0 (l0_0.length : Int) true _ A19.out).mono ?_); rintro e w' ⟨rfl, ⟨nd, rfl⟩⟩; (try first | exact ⟨rfl, _, World.drewN_drewN _ _ _⟩ | exact ⟨rfl, _, Eq.trans (World.drewN_drewN _ _ _) (congrArg (World.drewN _) (Nat.add_assoc _ _ _))⟩)) | (go_at_call 35; (with_reducible refine (rf_In.calls ((rd_T80 l0_1 x4_2).f1) 0 400 true _ A21.out).mono ?_); rintro e w' ⟨rfl, ⟨nd, rfl⟩⟩; (try first | exact ⟨rfl, _, World.drewN_drewN _ _ _⟩ | exact ⟨rfl, _, Eq.trans (World.drewN_drewN _ _ _) (congrArg (World.drewN _) (Nat.add_assoc _ _ _))⟩)) | (go_at_call 35; (with_reducible refine (rf_In.calls ((rd_T80 l0_1 x4_2).f2) 0 20 true _ A23.out).mono ?_); rintro e w' ⟨rfl, ⟨nd, rfl⟩⟩; (try first | exact ⟨rfl, _, World.drewN_drewN _ _ _⟩ | exact ⟨rfl, _, Eq.trans (World.drewN_drewN _ _ _) (congrArg (World.drewN _) (Nat.add_assoc _ _ _))⟩))); try go_wp2_with (first | ((with_reducible refine gate_dst (N := 5) rfl ?_); refine box_event ?hg (N := 5) ?hd (cs := #[.int .i64 0, .int .i64 0, .int .i64 0]) (t := 80) ?hr ?_; (case hd => rfl); (case hg => rfl); (case hr => first | (go_simp; done) | (go_simp; rfl)); intro gb172 hg w26 hbox hb; have BK172 := Aside0.mk (hbox); have GW172 := Aside0.mk (sqZ hg HB); have GE172 := Aside0.mk (sqZ hg HB); replace HB := sqb hb HB; have NB165_172 := Aside0.mk (sqL hg BK165); have NB172_165 := Aside0.mk (sqG hg BK165); replace BK165 := sqk BK165 hb; clear hb hbox hg; have hnb27 := NB172_165.out; have hnc27 := NB165_172.out; have hcz28_0 := sqc0 BK172; have hcz28_1 := sqc1 BK172; have hcz28_2 := sqc2 BK172; have hfz28_0 := blk_frozen BK172.out 0; have hfz28_1 := blk_frozen BK172.out 1; have hfz28_2 := blk_frozen BK172.out 2; have hcz29_0 := sqc0 BK165; have hcz29_1 := sqc1 BK165; have hfz29_0 := blk_frozen BK165.out 0; have hfz29_1 := blk_frozen BK165.out 1) | (go_at_call 35; (with_reducible refine (rf_In.calls ((rd_T80 l0_1 x4_2).f0) 0 (l0_0.length : Int) true _ A19.out).mono ?_); rintro e w' ⟨rfl, ⟨nd, rfl⟩⟩; (try first | exact ⟨rfl, _, World.drewN_drewN _ _ _⟩ | exact ⟨rfl, _, Eq.trans (World.drewN_drewN _ _ _) (congrArg (World.drewN _) (Nat.add_assoc _ _ _))⟩)) | (go_at_call 35; (with_reducible refine (rf_In.calls ((rd_T80 l0_1 x4_2).f1) 0 400 true _ A21.out).mono ?_); rintro e w' ⟨rfl, ⟨nd, rfl⟩⟩; (try first | exact ⟨rfl, _, World.drewN_drewN _ _ _⟩ | exact ⟨rfl, _, Eq.trans (World.drewN_drewN _ _ _) (congrArg (World.drewN _) (Nat.add_assoc _ _ _))⟩)) | (go_at_call 35; (with_reducible refine (rf_In.calls ((rd_T80 l0_1 x4_2).f2) 0 20 true _ A23.out).mono ?_); rintro e w' ⟨rfl, ⟨nd, rfl⟩⟩; (try first | exact ⟨rfl, _, World.drewN_drewN _ _ _⟩ | exact ⟨rfl, _, Eq.trans (World.drewN_drewN _ _ _) (congrArg (World.drewN _) (Nat.add_assoc _ _ _))⟩))))
             go_roundg k2
             case measure => have := HK1.out; have := HK2.out; omega
             case rel => exact ⟨(wrap64 (x4_2 + 1)), sqE, H', ⟨by have := HK1.out; have := HK2.out; omega⟩, ⟨sqX⟩, ⟨sqB HB⟩⟩
            ·replace c24 := Bool.eq_false_iff.mpr c24
             subst c24; rw [if_neg Bool.false_ne_true] at H; obtain rfl := Option.some.inj H; have hcz30_0 := sqc0 BK165; have hcz30_1 := sqc1 BK165; have hfz30_0 := blk_frozen BK165.out 0; have hfz30_1 := blk_frozen BK165.out 1; have p171 : 0 ≤ (x4_2 : Int) := sqD; have q171 : x4_2 < (l0_1.length : Int) := sqD; obtain ⟨ad171, e171, hx171_0, hx171_1, hx171_2⟩ := at_T80 HR0_1.out x4_2 p171 q171
             cases e171
             replace hx171_0 := (HB.out.cell (World.block_lt_of_cell? w _ hx171_0)).trans hx171_0; replace hx171_1 := (HB.out.cell (World.block_lt_of_cell? w _ hx171_1)).trans hx171_1; replace hx171_2 := (HB.out.cell (World.block_lt_of_cell? w _ hx171_2)).trans hx171_2; replace p171 := eq_true p171; replace q171 := eq_true q171
             go_wp2_with (first | ((with_reducible refine gate_dst (N := 5) rfl ?_); refine box_event ?hg (N := 5) ?hd (cs := #[.int .i64 0, .int .i64 0, .int .i64 0]) (t := 80) ?hr ?_; (case hd => rfl); (case hg => rfl); (case hr => first | (go_simp; done) | (go_simp; rfl)); intro gb172 hg w31 hbox hb; have BK172 := Aside0.mk (hbox); have GW172 := Aside0.mk (sqZ hg HB); have GE172 := Aside0.mk (sqZ hg HB); replace HB := sqb hb HB; have NB165_172 := Aside0.mk (sqL hg BK165); have NB172_165 := Aside0.mk (sqG hg BK165); replace BK165 := sqk BK165 hb; clear hb hbox hg; have hnb32 := NB172_165.out; have hnc32 := NB165_172.out; have hcz33_0 := sqc0 BK172; have hcz33_1 := sqc1 BK172; have hcz33_2 := sqc2 BK172; have hfz33_0 := blk_frozen BK172.out 0; have hfz33_1 := blk_frozen BK172.out 1; have hfz33_2 := blk_frozen BK172.out 2; have hcz34_0 := sqc0 BK165; have hcz34_1 := sqc1 BK165; have hfz34_0 := blk_frozen BK165.out 0; have hfz34_1 := blk_frozen BK165.out 1) | (go_at_call 35; (with_reducible refine (rf_In.calls ((rd_T80 l0_1 x4_2).f0) 0 (l0_0.length : Int) true _ A19.out).mono ?_); rintro e w' ⟨rfl, ⟨nd, rfl⟩⟩; (try first | exact ⟨rfl, _, World.drewN_drewN _ _ _⟩ | exact ⟨rfl, _, Eq.trans (World.drewN_drewN _ _ _) (congrArg (World.drewN _) (Nat.add_assoc _ _ _))⟩)) | (go_at_call 35; (with_reducible refine (rf_In.calls ((rd_T80 l0_1 x4_2).f1) 0 400 true _ A21.out).mono ?_); rintro e w' ⟨rfl, ⟨nd, rfl⟩⟩; (try first | exact ⟨rfl, _, World.drewN_drewN _ _ _⟩ | exact ⟨rfl, _, Eq.trans (World.drewN_drewN _ _ _) (congrArg (World.drewN _) (Nat.add_assoc _ _ _))⟩)) | (go_at_call 35; (with_reducible refine (rf_In.calls ((rd_T80 l0_1 x4_2).f2) 0 20 false _ A23.out).mono ?_); rintro e w' ⟨rfl, ⟨nd, rfl⟩⟩; (try first | exact ⟨rfl, _, World.drewN_drewN _ _ _⟩ | exact ⟨rfl, _, Eq.trans (World.drewN_drewN _ _ _) (congrArg (World.drewN _) (Nat.add_assoc _ _ _))⟩)))
             repeat (go_quiet (first | ((with_reducible refine gate_dst (N := 5) rfl ?_); refine box_event ?hg (N := 5) ?hd (cs := #[.int .i64 0, .int .i64 0, .int .i64 0]) (t := 80) ?hr ?_; (case hd => rfl); (case hg => rfl); (case hr => first | (go_simp; done) | (go_simp; rfl)); intro gb172 hg w31 hbox hb; have BK172 := Aside0.mk (hbox); have GW172 := Aside0.mk (sqZ hg HB); have GE172 := Aside0.mk (sqZ hg HB); replace HB := sqb hb HB; have NB165_172 := Aside0.mk (sqL hg BK165); have NB172_165 := Aside0.mk (sqG hg BK165); replace BK165 := sqk BK165 hb; clear hb hbox hg; have hnb32 := NB172_165.out; have hnc32 := NB165_172.out; have hcz33_0 := sqc0 BK172; have hcz33_1 := sqc1 BK172; have hcz33_2 := sqc2 BK172; have hfz33_0 := blk_frozen BK172.out 0; have hfz33_1 := blk_frozen BK172.out 1; have hfz33_2 := blk_frozen BK172.out 2; have hcz34_0 := sqc0 BK165; have hcz34_1 := sqc1 BK165; have hfz34_0 := blk_frozen BK165.out 0; have hfz34_1 := blk_frozen BK165.out 1) | (go_at_call 35; (with_reducible refine (rf_In.calls ((rd_T80 l0_1 x4_2).f0) 0 (l0_0.length : Int) true _ A19.out).mono ?_); rintro e w' ⟨rfl, ⟨nd, rfl⟩⟩; (try first | exact ⟨rfl, _, World.drewN_drewN _ _ _⟩ | exact ⟨rfl, _, Eq.trans (World.drewN_drewN _ _ _) (congrArg (World.drewN _) (Nat.add_assoc _ _ _))⟩)) | (go_at_call 35; (with_reducible refine (rf_In.calls ((rd_T80 l0_1 x4_2).f1) 0 400 true _ A21.out).mono ?_); rintro e w' ⟨rfl, ⟨nd, rfl⟩⟩; (try first | exact ⟨rfl, _, World.drewN_drewN _ _ _⟩ | exact ⟨rfl, _, Eq.trans (World.drewN_drewN _ _ _) (congrArg (World.drewN _) (Nat.add_assoc _ _ _))⟩)) | (go_at_call 35; (with_reducible refine (rf_In.calls ((rd_T80 l0_1 x4_2).f2) 0 20 false _ A23.out).mono ?_); rintro e w' ⟨rfl, ⟨nd, rfl⟩⟩; (try first | exact ⟨rfl, _, World.drewN_drewN _ _ _⟩ | exact ⟨rfl, _, Eq.trans (World.drewN_drewN _ _ _) (congrArg (World.drewN _) (Nat.add_assoc _ _ _))⟩))); try go_wp2_with (first | ((with_reducible refine gate_dst (N := 5) rfl ?_); refine box_event ?hg (N := 5) ?hd (cs := #[.int .i64 0, .int .i64 0, .int .i64 0]) (t := 80) ?hr ?_; (case hd => rfl); (case hg => rfl); (case hr => first | (go_simp; done) | (go_simp; rfl)); intro gb172 hg w31 hbox hb; have BK172 := Aside0.mk (hbox); have GW172 := Aside0.mk (sqZ hg HB); have GE172 := Aside0.mk (sqZ hg HB); replace HB := sqb hb HB; have NB165_172 := Aside0.mk (sqL hg BK165); have NB172_165 := Aside0.mk (sqG hg BK165); replace BK165 := sqk BK165 hb; clear hb hbox hg; have hnb32 := NB172_165.out; have hnc32 := NB165_172.out; have hcz33_0 := sqc0 BK172; have hcz33_1 := sqc1 BK172; have hcz33_2 := sqc2 BK172; have hfz33_0 := blk_frozen BK172.out 0; have hfz33_1 := blk_frozen BK172.out 1; have hfz33_2 := blk_frozen BK172.out 2; have hcz34_0 := sqc0 BK165; have hcz34_1 := sqc1 BK165; have hfz34_0 := blk_frozen BK165.out 0; have hfz34_1 := blk_frozen BK165.out 1) | (go_at_call 35; (with_reducible refine (rf_In.calls ((rd_T80 l0_1 x4_2).f0) 0 (l0_0.length : Int) true _ A19.out).mono ?_); rintro e w' ⟨rfl, ⟨nd, rfl⟩⟩; (try first | exact ⟨rfl, _, World.drewN_drewN _ _ _⟩ | exact ⟨rfl, _, Eq.trans (World.drewN_drewN _ _ _) (congrArg (World.drewN _) (Nat.add_assoc _ _ _))⟩)) | (go_at_call 35; (with_reducible refine (rf_In.calls ((rd_T80 l0_1 x4_2).f1) 0 400 true _ A21.out).mono ?_); rintro e w' ⟨rfl, ⟨nd, rfl⟩⟩; (try first | exact ⟨rfl, _, World.drewN_drewN _ _ _⟩ | exact ⟨rfl, _, Eq.trans (World.drewN_drewN _ _ _) (congrArg (World.drewN _) (Nat.add_assoc _ _ _))⟩)) | (go_at_call 35; (with_reducible refine (rf_In.calls ((rd_T80 l0_1 x4_2).f2) 0 20 false _ A23.out).mono ?_); rintro e w' ⟨rfl, ⟨nd, rfl⟩⟩; (try first | exact ⟨rfl, _, World.drewN_drewN _ _ _⟩ | exact ⟨rfl, _, Eq.trans (World.drewN_drewN _ _ _) (congrArg (World.drewN _) (Nat.add_assoc _ _ _))⟩))))
             go_ret
             exact ⟨by first | rfl | (simp [errW_none, errW_some] <;> rfl) | (simp [*, errW_none, errW_some] <;> rfl), sqB HB⟩
           ·replace c22 := Bool.eq_false_iff.mpr c22
            subst c22; rw [if_neg Bool.false_ne_true] at H; obtain rfl := Option.some.inj H; have hcz35_0 := sqc0 BK165; have hcz35_1 := sqc1 BK165; have hfz35_0 := blk_frozen BK165.out 0; have hfz35_1 := blk_frozen BK165.out 1; have p171 : 0 ≤ (x4_2 : Int) := sqD; have q171 : x4_2 < (l0_1.length : Int) := sqD; obtain ⟨ad171, e171, hx171_0, hx171_1, hx171_2⟩ := at_T80 HR0_1.out x4_2 p171 q171
            cases e171
            replace hx171_0 := (HB.out.cell (World.block_lt_of_cell? w _ hx171_0)).trans hx171_0; replace hx171_1 := (HB.out.cell (World.block_lt_of_cell? w _ hx171_1)).trans hx171_1; replace hx171_2 := (HB.out.cell (World.block_lt_of_cell? w _ hx171_2)).trans hx171_2; replace p171 := eq_true p171; replace q171 := eq_true q171
            go_wp2_with (first | ((with_reducible refine gate_dst (N := 5) rfl ?_); refine box_event ?hg (N := 5) ?hd (cs := #[.int .i64 0, .int .i64 0, .int .i64 0]) (t := 80) ?hr ?_; (case hd => rfl); (case hg => rfl); (case hr => first | (go_simp; done) | (go_simp; rfl)); intro gb172 hg w36 hbox hb; have BK172 := Aside0.mk (hbox); have GW172 := Aside0.mk (sqZ hg HB); have GE172 := Aside0.mk (sqZ hg HB); replace HB := sqb hb HB; have NB165_172 := Aside0.mk (sqL hg BK165); have NB172_165 := Aside0.mk (sqG hg BK165); replace BK165 := sqk BK165 hb; clear hb hbox hg; have hnb37 := NB172_165.out; have hnc37 := NB165_172.out; have hcz38_0 := sqc0 BK172; have hcz38_1 := sqc1 BK172; have hcz38_2 := sqc2 BK172; have hfz38_0 := blk_frozen BK172.out 0; have hfz38_1 := blk_frozen BK172.out 1; have hfz38_2 := blk_frozen BK172.out 2; have hcz39_0 := sqc0 BK165; have hcz39_1 := sqc1 BK165; have hfz39_0 := blk_frozen BK165.out 0; have hfz39_1 := blk_frozen BK165.out 1) | (go_at_call 35; (with_reducible refine (rf_In.calls ((rd_T80 l0_1 x4_2).f0) 0 (l0_0.length : Int) true _ A19.out).mono ?_); rintro e w' ⟨rfl, ⟨nd, rfl⟩⟩; (try first | exact ⟨rfl, _, World.drewN_drewN _ _ _⟩ | exact ⟨rfl, _, Eq.trans (World.drewN_drewN _ _ _) (congrArg (World.drewN _) (Nat.add_assoc _ _ _))⟩)) | (go_at_call 35; (with_reducible refine (rf_In.calls ((rd_T80 l0_1 x4_2).f1) 0 400 false _ A21.out).mono ?_); rintro e w' ⟨rfl, ⟨nd, rfl⟩⟩; (try first | exact ⟨rfl, _, World.drewN_drewN _ _ _⟩ | exact ⟨rfl, _, Eq.trans (World.drewN_drewN _ _ _) (congrArg (World.drewN _) (Nat.add_assoc _ _ _))⟩)))
            repeat (go_quiet (first | ((with_reducible refine gate_dst (N := 5) rfl ?_); refine box_event ?hg (N := 5) ?hd (cs := #[.int .i64 0, .int .i64 0, .int .i64 0]) (t := 80) ?hr ?_; (case hd => rfl); (case hg => rfl); (case hr => first | (go_simp; done) | (go_simp; rfl)); intro gb172 hg w36 hbox hb; have BK172 := Aside0.mk (hbox); have GW172 := Aside0.mk (sqZ hg HB); have GE172 := Aside0.mk (sqZ hg HB); replace HB := sqb hb HB; have NB165_172 := Aside0.mk (sqL hg BK165); have NB172_165 := Aside0.mk (sqG hg BK165); replace BK165 := sqk BK165 hb; clear hb hbox hg; have hnb37 := NB172_165.out; have hnc37 := NB165_172.out; have hcz38_0 := sqc0 BK172; have hcz38_1 := sqc1 BK172; have hcz38_2 := sqc2 BK172; have hfz38_0 := blk_frozen BK172.out 0; have hfz38_1 := blk_frozen BK172.out 1; have hfz38_2 := blk_frozen BK172.out 2; have hcz39_0 := sqc0 BK165; have hcz39_1 := sqc1 BK165; have hfz39_0 := blk_frozen BK165.out 0; have hfz39_1 := blk_frozen BK165.out 1) | (go_at_call 35; (with_reducible refine (rf_In.calls ((rd_T80 l0_1 x4_2).f0) 0 (l0_0.length : Int) true _ A19.out).mono ?_); rintro e w' ⟨rfl, ⟨nd, rfl⟩⟩; (try first | exact ⟨rfl, _, World.drewN_drewN _ _ _⟩ | exact ⟨rfl, _, Eq.trans (World.drewN_drewN _ _ _) (congrArg (World.drewN _) (Nat.add_assoc _ _ _))⟩)) | (go_at_call 35; (with_reducible refine (rf_In.calls ((rd_T80 l0_1 x4_2).f1) 0 400 false _ A21.out).mono ?_); rintro e w' ⟨rfl, ⟨nd, rfl⟩⟩; (try first | exact ⟨rfl, _, World.drewN_drewN _ _ _⟩ | exact ⟨rfl, _, Eq.trans (World.drewN_drewN _ _ _) (congrArg (World.drewN _) (Nat.add_assoc _ _ _))⟩))); try go_wp2_with (first | ((with_reducible refine gate_dst (N := 5) rfl ?_); refine box_event ?hg (N := 5) ?hd (cs := #[.int .i64 0, .int .i64 0, .int .i64 0]) (t := 80) ?hr ?_; (case hd => rfl); (case hg => rfl); (case hr => first | (go_simp; done) | (go_simp; rfl)); intro gb172 hg w36 hbox hb; have BK172 := Aside0.mk (hbox); have GW172 := Aside0.mk (sqZ hg HB); have GE172 := Aside0.mk (sqZ hg HB); replace HB := sqb hb HB; have NB165_172 := Aside0.mk (sqL hg BK165); have NB172_165 := Aside0.mk (sqG hg BK165); replace BK165 := sqk BK165 hb; clear hb hbox hg; have hnb37 := NB172_165.out; have hnc37 := NB165_172.out; have hcz38_0 := sqc0 BK172; have hcz38_1 := sqc1 BK172; have hcz38_2 := sqc2 BK172; have hfz38_0 := blk_frozen BK172.out 0; have hfz38_1 := blk_frozen BK172.out 1; have hfz38_2 := blk_frozen BK172.out 2; have hcz39_0 := sqc0 BK165; have hcz39_1 := sqc1 BK165; have hfz39_0 := blk_frozen BK165.out 0; have hfz39_1 := blk_frozen BK165.out 1) | (go_at_call 35; (with_reducible refine (rf_In.calls ((rd_T80 l0_1 x4_2).f0) 0 (l0_0.length : Int) true _ A19.out).mono ?_); rintro e w' ⟨rfl, ⟨nd, rfl⟩⟩; (try first | exact ⟨rfl, _, World.drewN_drewN _ _ _⟩ | exact ⟨rfl, _, Eq.trans (World.drewN_drewN _ _ _) (congrArg (World.drewN _) (Nat.add_assoc _ _ _))⟩)) | (go_at_call 35; (with_reducible refine (rf_In.calls ((rd_T80 l0_1 x4_2).f1) 0 400 false _ A21.out).mono ?_); rintro e w' ⟨rfl, ⟨nd, rfl⟩⟩; (try first | exact ⟨rfl, _, World.drewN_drewN _ _ _⟩ | exact ⟨rfl, _, Eq.trans (World.drewN_drewN _ _ _) (congrArg (World.drewN _) (Nat.add_assoc _ _ _))⟩))))
            go_ret
            exact ⟨by first | rfl | (simp [errW_none, errW_some] <;> rfl) | (simp [*, errW_none, errW_some] <;> rfl), sqB HB⟩
          ·replace c20 := Bool.eq_false_iff.mpr c20
           subst c20; rw [if_neg Bool.false_ne_true] at H; obtain rfl := Option.some.inj H; have hcz40_0 := sqc0 BK165; have hcz40_1 := sqc1 BK165; have hfz40_0 := blk_frozen BK165.out 0; have hfz40_1 := blk_frozen BK165.out 1; have p171 : 0 ≤ (x4_2 : Int) := sqD; have q171 : x4_2 < (l0_1.length : Int) := sqD; obtain ⟨ad171, e171, hx171_0, hx171_1, hx171_2⟩ := at_T80 HR0_1.out x4_2 p171 q171
           cases e171
           replace hx171_0 := (HB.out.cell (World.block_lt_of_cell? w _ hx171_0)).trans hx171_0; replace hx171_1 := (HB.out.cell (World.block_lt_of_cell? w _ hx171_1)).trans hx171_1; replace hx171_2 := (HB.out.cell (World.block_lt_of_cell? w _ hx171_2)).trans hx171_2; replace p171 := eq_true p171; replace q171 := eq_true q171
           go_wp2_with (first | ((with_reducible refine gate_dst (N := 5) rfl ?_); refine box_event ?hg (N := 5) ?hd (cs := #[.int .i64 0, .int .i64 0, .int .i64 0]) (t := 80) ?hr ?_; (case hd => rfl); (case hg => rfl); (case hr => first | (go_simp; done) | (go_simp; rfl)); intro gb172 hg w41 hbox hb; have BK172 := Aside0.mk (hbox); have GW172 := Aside0.mk (sqZ hg HB); have GE172 := Aside0.mk (sqZ hg HB); replace HB := sqb hb HB; have NB165_172 := Aside0.mk (sqL hg BK165); have NB172_165 := Aside0.mk (sqG hg BK165); replace BK165 := sqk BK165 hb; clear hb hbox hg; have hnb42 := NB172_165.out; have hnc42 := NB165_172.out; have hcz43_0 := sqc0 BK172; have hcz43_1 := sqc1 BK172; have hcz43_2 := sqc2 BK172; have hfz43_0 := blk_frozen BK172.out 0; have hfz43_1 := blk_frozen BK172.out 1; have hfz43_2 := blk_frozen BK172.out 2; have hcz44_0 := sqc0 BK165; have hcz44_1 := sqc1 BK165; have hfz44_0 := blk_frozen BK165.out 0; have hfz44_1 := blk_frozen BK165.out 1) | (go_at_call 35; (with_reducible refine (rf_In.calls ((rd_T80 l0_1 x4_2).f0) 0 (l0_0.length : Int) false _ A19.out).mono ?_); rintro e w' ⟨rfl, ⟨nd, rfl⟩⟩; (try first | exact ⟨rfl, _, World.drewN_drewN _ _ _⟩ | exact ⟨rfl, _, Eq.trans (World.drewN_drewN _ _ _) (congrArg (World.drewN _) (Nat.add_assoc _ _ _))⟩)))
           repeat (go_quiet (first | ((with_reducible refine gate_dst (N := 5) rfl ?_); refine box_event ?hg (N := 5) ?hd (cs := #[.int .i64 0, .int .i64 0, .int .i64 0]) (t := 80) ?hr ?_; (case hd => rfl); (case hg => rfl); (case hr => first | (go_simp; done) | (go_simp; rfl)); intro gb172 hg w41 hbox hb; have BK172 := Aside0.mk (hbox); have GW172 := Aside0.mk (sqZ hg HB); have GE172 := Aside0.mk (sqZ hg HB); replace HB := sqb hb HB; have NB165_172 := Aside0.mk (sqL hg BK165); have NB172_165 := Aside0.mk (sqG hg BK165); replace BK165 := sqk BK165 hb; clear hb hbox hg; have hnb42 := NB172_165.out; have hnc42 := NB165_172.out; have hcz43_0 := sqc0 BK172; have hcz43_1 := sqc1 BK172; have hcz43_2 := sqc2 BK172; have hfz43_0 := blk_frozen BK172.out 0; have hfz43_1 := blk_frozen BK172.out 1; have hfz43_2 := blk_frozen BK172.out 2; have hcz44_0 := sqc0 BK165; have hcz44_1 := sqc1 BK165; have hfz44_0 := blk_frozen BK165.out 0; have hfz44_1 := blk_frozen BK165.out 1) | (go_at_call 35; (with_reducible refine (rf_In.calls ((rd_T80 l0_1 x4_2).f0) 0 (l0_0.length : Int) false _ A19.out).mono ?_); rintro e w' ⟨rfl, ⟨nd, rfl⟩⟩; (try first | exact ⟨rfl, _, World.drewN_drewN _ _ _⟩ | exact ⟨rfl, _, Eq.trans (World.drewN_drewN _ _ _) (congrArg (World.drewN _) (Nat.add_assoc _ _ _))⟩))); try go_wp2_with (first | ((with_reducible refine gate_dst (N := 5) rfl ?_); refine box_event ?hg (N := 5) ?hd (cs := #[.int .i64 0, .int .i64 0, .int .i64 0]) (t := 80) ?hr ?_; (case hd => rfl); (case hg => rfl); (case hr => first | (go_simp; done) | (go_simp; rfl)); intro gb172 hg w41 hbox hb; have BK172 := Aside0.mk (hbox); have GW172 := Aside0.mk (sqZ hg HB); have GE172 := Aside0.mk (sqZ hg HB); replace HB := sqb hb HB; have NB165_172 := Aside0.mk (sqL hg BK165); have NB172_165 := Aside0.mk (sqG hg BK165); replace BK165 := sqk BK165 hb; clear hb hbox hg; have hnb42 := NB172_165.out; have hnc42 := NB165_172.out; have hcz43_0 := sqc0 BK172; have hcz43_1 := sqc1 BK172; have hcz43_2 := sqc2 BK172; have hfz43_0 := blk_frozen BK172.out 0; have hfz43_1 := blk_frozen BK172.out 1; have hfz43_2 := blk_frozen BK172.out 2; have hcz44_0 := sqc0 BK165; have hcz44_1 := sqc1 BK165; have hfz44_0 := blk_frozen BK165.out 0; have hfz44_1 := blk_frozen BK165.out 1) | (go_at_call 35; (with_reducible refine (rf_In.calls ((rd_T80 l0_1 x4_2).f0) 0 (l0_0.length : Int) false _ A19.out).mono ?_); rintro e w' ⟨rfl, ⟨nd, rfl⟩⟩; (try first | exact ⟨rfl, _, World.drewN_drewN _ _ _⟩ | exact ⟨rfl, _, Eq.trans (World.drewN_drewN _ _ _) (congrArg (World.drewN _) (Nat.add_assoc _ _ _))⟩))))
           go_ret
           exact ⟨by first | rfl | (simp [errW_none, errW_some] <;> rfl) | (simp [*, errW_none, errW_some] <;> rfl), sqB HB⟩
         ·rw [if_neg c18] at H
          exact absurd H (by simp)
        ·rw [if_neg c17] at H
         have c17b0 : decide (x4_2 < (l0_1.length : Int)) = false := decide_eq_false c17; clear c17; obtain rfl := Option.some.inj H; have hcz45_0 := sqc0 BK165; have hcz45_1 := sqc1 BK165; have hfz45_0 := blk_frozen BK165.out 0; have hfz45_1 := blk_frozen BK165.out 1
         go_wp2
         repeat (go_quiet (fail); try go_wp2)
         go_ret
         exact ⟨by first | rfl | (simp [errW_none, errW_some] <;> rfl) | (simp [*, errW_none, errW_some] <;> rfl), sqB HB⟩
 ·replace c3 := Bool.eq_false_iff.mpr c3
  subst c3; rw [if_neg Bool.false_ne_true] at H; obtain rfl := Option.some.inj H
  go_enter Tryd.func22, Tryd.ntmps22
  go_wp2_with (first | ((with_reducible refine gate_dst (N := 1) rfl ?_); refine box_event ?hg (N := 1) ?hd (cs := #[.slice A0_0 l0_0.length c0_0, .slice A0_1 l0_1.length c0_1]) (t := 25) ?hr ?_; (case hd => rfl); (case hg => rfl); (case hr => first | (go_simp; done) | (go_simp; rfl)); intro gb165 hg w46 hbox hb; have BK165 := Aside0.mk (hbox); have GW165 := Aside0.mk (sqZ hg HB); have GE165 := Aside0.mk (sqZ hg HB); replace HB := sqb hb HB; clear hb hbox hg; have hcz47_0 := sqc0 BK165; have hcz47_1 := sqc1 BK165; have hfz47_0 := blk_frozen BK165.out 0; have hfz47_1 := blk_frozen BK165.out 1) | (go_at_call 35; (with_reducible refine (rf_In.calls (l0_0.length : Int) 1 5 false _ A2.out).mono ?_); rintro e w' ⟨rfl, ⟨nd, rfl⟩⟩; (try first | exact ⟨rfl, _, World.drewN_drewN _ _ _⟩ | exact ⟨rfl, _, Eq.trans (World.drewN_drewN _ _ _) (congrArg (World.drewN _) (Nat.add_assoc _ _ _))⟩)))
  repeat (go_quiet (first | ((with_reducible refine gate_dst (N := 1) rfl ?_); refine box_event ?hg (N := 1) ?hd (cs := #[.slice A0_0 l0_0.length c0_0, .slice A0_1 l0_1.length c0_1]) (t := 25) ?hr ?_; (case hd => rfl); (case hg => rfl); (case hr => first | (go_simp; done) | (go_simp; rfl)); intro gb165 hg w46 hbox hb; have BK165 := Aside0.mk (hbox); have GW165 := Aside0.mk (sqZ hg HB); have GE165 := Aside0.mk (sqZ hg HB); replace HB := sqb hb HB; clear hb hbox hg; have hcz47_0 := sqc0 BK165; have hcz47_1 := sqc1 BK165; have hfz47_0 := blk_frozen BK165.out 0; have hfz47_1 := blk_frozen BK165.out 1) | (go_at_call 35; (with_reducible refine (rf_In.calls (l0_0.length : Int) 1 5 false _ A2.out).mono ?_); rintro e w' ⟨rfl, ⟨nd, rfl⟩⟩; (try first | exact ⟨rfl, _, World.drewN_drewN _ _ _⟩ | exact ⟨rfl, _, Eq.trans (World.drewN_drewN _ _ _) (congrArg (World.drewN _) (Nat.add_assoc _ _ _))⟩))); try go_wp2_with (first | ((with_reducible refine gate_dst (N := 1) rfl ?_); refine box_event ?hg (N := 1) ?hd (cs := #[.slice A0_0 l0_0.length c0_0, .slice A0_1 l0_1.length c0_1]) (t := 25) ?hr ?_; (case hd => rfl); (case hg => rfl); (case hr => first | (go_simp; done) | (go_simp; rfl)); intro gb165 hg w46 hbox hb; have BK165 := Aside0.mk (hbox); have GW165 := Aside0.mk (sqZ hg HB); have GE165 := Aside0.mk (sqZ hg HB); replace HB := sqb hb HB; clear hb hbox hg; have hcz47_0 := sqc0 BK165; have hcz47_1 := sqc1 BK165; have hfz47_0 := blk_frozen BK165.out 0; have hfz47_1 := blk_frozen BK165.out 1) | (go_at_call 35; (with_reducible refine (rf_In.calls (l0_0.length : Int) 1 5 false _ A2.out).mono ?_); rintro e w' ⟨rfl, ⟨nd, rfl⟩⟩; (try first | exact ⟨rfl, _, World.drewN_drewN _ _ _⟩ | exact ⟨rfl, _, Eq.trans (World.drewN_drewN _ _ _) (congrArg (World.drewN _) (Nat.add_assoc _ _ _))⟩))))
  go_ret
  exact ⟨by first | rfl | (simp [errW_none, errW_some] <;> rfl) | (simp [*, errW_none, errW_some] <;> rfl), sqB HB⟩
end Go.Proofs.YtemingmeidmjkaaDoor.Q
namespace Go.Proofs.YtemingmeidmjkaaDoor.Q
open Go.RowKit Go.Proofs.YtemingmeidmjkaaDoorW.PrintWords Go.Proofs.YtemingmeidmjkaaDoorW.PrintLast Go.Proofs.YtemingmeidmjkaaDoorW.PrintMore
attribute [local go_sem] max2_int min2_int max_two min_two max_three min_three max_four min_four   -- for this text's walks alone
set_option linter.unusedVariables false
set_option linter.unusedSimpArgs false
theorem eqA80 (d : Nat) (w : World) (x0 y0 : Int) (x1 y1 : Int) (x2 y2 : Int) :
  (Op.equalIn (d + 2) 80 (.agg #[.int .i64 x0, .int .i64 x1, .int .i64 x2]) (.agg #[.int .i64 y0, .int .i64 y1, .int .i64 y2])).run Tryd.prog w = .ok (x0 == y0 && (x1 == y1 && (x2 == y2))) w := by
 refine eqA_of Tryd.underlying80 sqF ?_; refine eqf_cons (by rfl) (by go_simp; rfl) (by go_simp; rfl) (by go_simp) ?_; refine eqf_cons (by rfl) (by go_simp; rfl) (by go_simp; rfl) (by go_simp) ?_; exact eqf_last (by rfl) (by go_simp; rfl) (by go_simp; rfl) (by go_simp)
end Go.Proofs.YtemingmeidmjkaaDoor.Q
namespace Go.Proofs.YtemingmeidmjkaaDoor.Q
open Go.RowKit Go.Proofs.YtemingmeidmjkaaDoorW.PrintWords Go.Proofs.YtemingmeidmjkaaDoorW.PrintLast Go.Proofs.YtemingmeidmjkaaDoorW.PrintMore
attribute [local go_sem] max2_int min2_int max_two min_two max_three min_three max_four min_four   -- for this text's walks alone
set_option linter.unusedVariables false
set_option linter.unusedSimpArgs false
attribute [local go_sem high] eqA80
mutual
def rf_Same.j0 : Nat → Bool → List (S41) → List (S80) → List (S41) → List (S80) → Option (Bool)
 | 0, _, _, _, _, _ => none
 | k + 1, x20, x179000, x179001, x180000, x180001 => if x20 = true then (some false) else (rf_Same.l0 k 0 x179000 x179001 x180000 x180001)
def rf_Same.l0 : Nat → Int → List (S41) → List (S80) → List (S41) → List (S80) → Option (Bool)
 | 0, _, _, _, _, _ => none
 | k + 1, x5, x179000, x179001, x180000, x180001 => if x5 < (x179001.length : Int) then (if 0 ≤ x5 then (if x5 < (x180001.length : Int) then (if (!(((rd_T80 x179001 x5).f0) == ((rd_T80 x180001 x5).f0)) || (!(((rd_T80 x179001 x5).f1) == ((rd_T80 x180001 x5).f1)) || (!(((rd_T80 x179001 x5).f2) == ((rd_T80 x180001 x5).f2))))) = true then (some false) else (rf_Same.l0 k (wrap64 (x5 + 1)) x179000 x179001 x180000 x180001)) else (none)) else (none)) else (some true)
end
def rf_Same.f (k : Nat) (l0_0 : List (S41)) (l0_1 : List (S80)) (l1_0 : List (S41)) (l1_1 : List (S80)) : Option (Bool) := (rf_Spans.f k l0_0 l1_0).bind fun t180 => (if t180 = true then (rf_Same.j0 k ((l0_1.length : Int) != (l1_1.length : Int)) l0_0 l0_1 l1_0 l1_1) else (rf_Same.j0 k true l0_0 l0_1 l1_0 l1_1))
set_option maxHeartbeats 8000000 in
set_option maxRecDepth 100000 in
theorem rf_Same.calls (k : Nat) (A0_0 : Option Addr) (c0_0 : Nat) (l0_0 : List (S41)) (A0_1 : Option Addr) (c0_1 : Nat) (l0_1 : List (S80)) (A1_0 : Option Addr) (c1_0 : Nat) (l1_0 : List (S41)) (A1_1 : Option Addr) (c1_1 : Nat) (l1_1 : List (S80)) (r : Bool) (w : World) (hr0_0 : Kd.C k41 w A0_0 l0_0.length l0_0) (hc0_0 : l0_0.length ≤ c0_0) (hr0_1 : Kd.C k80 w A0_1 l0_1.length l0_1) (hc0_1 : l0_1.length ≤ c0_1) (hr1_0 : Kd.C k41 w A1_0 l1_0.length l1_0) (hc1_0 : l1_0.length ≤ c1_0) (hr1_1 : Kd.C k80 w A1_1 l1_1.length l1_1) (hc1_1 : l1_1.length ≤ c1_1) (h : rf_Same.f k l0_0 l0_1 l1_0 l1_1 = some r) :
  Calls Tryd.prog 23 #[.agg #[.slice A0_0 l0_0.length c0_0, .slice A0_1 l0_1.length c0_1], .agg #[.slice A1_0 l1_0.length c1_0, .slice A1_1 l1_1.length c1_1]] w fun e w' => e = .returned (.bool r) ∧ Below w.heap.size w w' := by
 have hu25 := Tryd.underlying25; have hu80 := Tryd.underlying80; have HR0_0 := Aside0.mk hr0_0; have HC0_0 := Aside0.mk hc0_0; clear hr0_0 hc0_0; have HR0_1 := Aside0.mk hr0_1; have HC0_1 := Aside0.mk hc0_1; clear hr0_1 hc0_1; have HR1_0 := Aside0.mk hr1_0; have HC1_0 := Aside0.mk hc1_0; clear hr1_0 hc1_0; have HR1_1 := Aside0.mk hr1_1; have HC1_1 := Aside0.mk hc1_1; clear hr1_1 hc1_1; have HB := Aside0.mk (Below.refl w.heap.size w); have H : ((rf_Spans.f k l0_0 l1_0).bind fun t180 => (if t180 = true then (rf_Same.j0 k ((l0_1.length : Int) != (l1_1.length : Int)) l0_0 l0_1 l1_0 l1_1) else (rf_Same.j0 k true l0_0 l0_1 l1_0 l1_1))) = some r := h; clear h; have HC3 := Aside0.mk H; clear H; go_enter Tryd.func23, Tryd.ntmps23
 go_upto_region 1 with (first | ((with_reducible refine gate_dst (N := 2) rfl ?_); (try (refine gate_guard (by rfl) ?_; dsimp only)); refine box_event ?hg (N := 2) ?hd (cs := #[.slice A0_0 l0_0.length c0_0, .slice A0_1 l0_1.length c0_1]) (t := 25) ?hr ?_; (case hd => rfl); (case hg => rfl); (case hr => first | (go_simp; done) | (go_simp; rfl)); intro gb178 hg w4 hbox hb; have BK178 := Aside0.mk (hbox); have GW178 := Aside0.mk (sqZ hg HB); have GE178 := Aside0.mk (sqZ hg HB); replace HB := sqb hb HB; clear hb hbox hg) | ((with_reducible refine gate_dst (N := 3) rfl ?_); (try (refine gate_guard (by rfl) ?_; dsimp only)); refine box_event ?hg (N := 3) ?hd (cs := #[.slice A1_0 l1_0.length c1_0, .slice A1_1 l1_1.length c1_1]) (t := 25) ?hr ?_; (case hd => rfl); (case hg => rfl); (case hr => first | (go_simp; done) | (go_simp; rfl)); intro gb179 hg w5 hbox hb; have BK179 := Aside0.mk (hbox); have GW179 := Aside0.mk (sqZ hg HB); have GE179 := Aside0.mk (sqZ hg HB); replace HB := sqb hb HB; have NB178_179 := Aside0.mk (sqL hg BK178); have NB179_178 := Aside0.mk (sqG hg BK178); replace BK178 := sqk BK178 hb; clear hb hbox hg))
 repeat (go_quiet (first | ((with_reducible refine gate_dst (N := 2) rfl ?_); (try (refine gate_guard (by rfl) ?_; dsimp only)); refine box_event ?hg (N := 2) ?hd (cs := #[.slice A0_0 l0_0.length c0_0, .slice A0_1 l0_1.length c0_1]) (t := 25) ?hr ?_; (case hd => rfl); (case hg => rfl); (case hr => first | (go_simp; done) | (go_simp; rfl)); intro gb178 hg w4 hbox hb; have BK178 := Aside0.mk (hbox); have GW178 := Aside0.mk (sqZ hg HB); have GE178 := Aside0.mk (sqZ hg HB); replace HB := sqb hb HB; clear hb hbox hg) | ((with_reducible refine gate_dst (N := 3) rfl ?_); (try (refine gate_guard (by rfl) ?_; dsimp only)); refine box_event ?hg (N := 3) ?hd (cs := #[.slice A1_0 l1_0.length c1_0, .slice A1_1 l1_1.length c1_1]) (t := 25) ?hr ?_; (case hd => rfl); (case hg => rfl); (case hr => first | (go_simp; done) | (go_simp; rfl)); intro gb179 hg w5 hbox hb; have BK179 := Aside0.mk (hbox); have GW179 := Aside0.mk (sqZ hg HB); have GE179 := Aside0.mk (sqZ hg HB); replace HB := sqb hb HB; have NB178_179 := Aside0.mk (sqL hg BK178); have NB179_178 := Aside0.mk (sqG hg BK178); replace BK178 := sqk BK178 hb; clear hb hbox hg)); go_upto_region 1 with (first | ((with_reducible refine gate_dst (N := 2) rfl ?_); (try (refine gate_guard (by rfl) ?_; dsimp only)); refine box_event ?hg (N := 2) ?hd (cs := #[.slice A0_0 l0_0.length c0_0, .slice A0_1 l0_1.length c0_1]) (t := 25) ?hr ?_; (case hd => rfl); (case hg => rfl); (case hr => first | (go_simp; done) | (go_simp; rfl)); intro gb178 hg w4 hbox hb; have BK178 := Aside0.mk (hbox); have GW178 := Aside0.mk (sqZ hg HB); have GE178 := Aside0.mk (sqZ hg HB); replace HB := sqb hb HB; clear hb hbox hg) | ((with_reducible refine gate_dst (N := 3) rfl ?_); (try (refine gate_guard (by rfl) ?_; dsimp only)); refine box_event ?hg (N := 3) ?hd (cs := #[.slice A1_0 l1_0.length c1_0, .slice A1_1 l1_1.length c1_1]) (t := 25) ?hr ?_; (case hd => rfl); (case hg => rfl); (case hr => first | (go_simp; done) | (go_simp; rfl)); intro gb179 hg w5 hbox hb; have BK179 := Aside0.mk (hbox); have GW179 := Aside0.mk (sqZ hg HB); have GE179 := Aside0.mk (sqZ hg HB); replace HB := sqb hb HB; have NB178_179 := Aside0.mk (sqL hg BK178); have NB179_178 := Aside0.mk (sqG hg BK178); replace BK178 := sqk BK178 hb; clear hb hbox hg)))
 (try simp only [Act.put, sqA])
 go_cut [20] (fun v20 wc => ∃ (kq : Nat) (x20_2 : Bool), v20 = .bool x20_2 ∧ Aside0 (rf_Same.j0 kq x20_2 l0_0 l0_1 l1_0 l1_1 = some r) ∧ Aside0 (kq ≤ k) ∧ Aside0 (wc.heap[gb178]? = some (.cells #[(.slice A0_0 l0_0.length c0_0), (.slice A0_1 l0_1.length c0_1)] 25 (0, 0))) ∧ Aside0 (wc.heap[gb179]? = some (.cells #[(.slice A1_0 l1_0.length c1_0), (.slice A1_1 l1_1.length c1_1)] 25 (0, 0))) ∧ Aside0 (Below w.heap.size w wc))
 case first =>
  have H := HC3.out; clear HC3; obtain ⟨t180, A60, H⟩ := Option.bind_eq_some_iff.mp H; have A6 := Aside0.mk A60; clear A60
  by_cases c7 : t180 = true
  ·subst c7
   rw [if_pos rfl] at H; have H' := Aside0.mk H; clear H; have hnb8 := NB178_179.out; have hnc8 := NB179_178.out; have hcz9_0 := sqc0 BK178; have hcz9_1 := sqc1 BK178; have hfz9_0 := blk_frozen BK178.out 0; have hfz9_1 := blk_frozen BK178.out 1; have hcz10_0 := sqc0 BK179; have hcz10_1 := sqc1 BK179; have hfz10_0 := blk_frozen BK179.out 0; have hfz10_1 := blk_frozen BK179.out 1
   go_wp2_with (first | (go_at_call 26; (with_reducible refine (rf_Spans.calls k _ _ l0_0 _ _ l1_0 true _ ?side1 ?side2 ?side3 ?side4 A6.out).mono ?_); (case side1 => exact sqQ HR0_0 HB); (case side2 => exact HC0_0.out); (case side3 => exact sqQ HR1_0 HB); (case side4 => exact HC1_0.out); rintro e w' ⟨rfl, ⟨nd, rfl⟩⟩; (try first | exact ⟨rfl, _, World.drewN_drewN _ _ _⟩ | exact ⟨rfl, _, Eq.trans (World.drewN_drewN _ _ _) (congrArg (World.drewN _) (Nat.add_assoc _ _ _))⟩)))
   repeat (go_quiet (first | (go_at_call 26; (with_reducible refine (rf_Spans.calls k _ _ l0_0 _ _ l1_0 true _ ?side1 ?side2 ?side3 ?side4 A6.out).mono ?_); (case side1 => exact sqQ HR0_0 HB); (case side2 => exact HC0_0.out); (case side3 => exact sqQ HR1_0 HB); (case side4 => exact HC1_0.out); rintro e w' ⟨rfl, ⟨nd, rfl⟩⟩; (try first | exact ⟨rfl, _, World.drewN_drewN _ _ _⟩ | exact ⟨rfl, _, Eq.trans (World.drewN_drewN _ _ _) (congrArg (World.drewN _) (Nat.add_assoc _ _ _))⟩))); try go_wp2_with (first | (go_at_call 26; (with_reducible refine (rf_Spans.calls k _ _ l0_0 _ _ l1_0 true _ ?side1 ?side2 ?side3 ?side4 A6.out).mono ?_); (case side1 => exact sqQ HR0_0 HB); (case side2 => exact HC0_0.out); (case side3 => exact sqQ HR1_0 HB); (case side4 => exact HC1_0.out); rintro e w' ⟨rfl, ⟨nd, rfl⟩⟩; (try first | exact ⟨rfl, _, World.drewN_drewN _ _ _⟩ | exact ⟨rfl, _, Eq.trans (World.drewN_drewN _ _ _) (congrArg (World.drewN _) (Nat.add_assoc _ _ _))⟩))))
   go_meet
   case rel => exact ⟨_, (((l0_1.length : Int) != (l1_1.length : Int))), sqE, H', ⟨by first | omega | exact Nat.le_refl _⟩, ⟨sqK BK178⟩, ⟨sqK BK179⟩, ⟨sqB HB⟩⟩
  ·replace c7 := Bool.eq_false_iff.mpr c7
   subst c7; rw [if_neg Bool.false_ne_true] at H; have H' := Aside0.mk H; clear H; have hnb11 := NB178_179.out; have hnc11 := NB179_178.out; have hcz12_0 := sqc0 BK178; have hcz12_1 := sqc1 BK178; have hfz12_0 := blk_frozen BK178.out 0; have hfz12_1 := blk_frozen BK178.out 1; have hcz13_0 := sqc0 BK179; have hcz13_1 := sqc1 BK179; have hfz13_0 := blk_frozen BK179.out 0; have hfz13_1 := blk_frozen BK179.out 1
   go_wp2_with (first | (go_at_call 26; (with_reducible refine (rf_Spans.calls k _ _ l0_0 _ _ l1_0 false _ ?side1 ?side2 ?side3 ?side4 A6.out).mono ?_); (case side1 => exact sqQ HR0_0 HB); (case side2 => exact HC0_0.out); (case side3 => exact sqQ HR1_0 HB); (case side4 => exact HC1_0.out); rintro e w' ⟨rfl, ⟨nd, rfl⟩⟩; (try first | exact ⟨rfl, _, World.drewN_drewN _ _ _⟩ | exact ⟨rfl, _, Eq.trans (World.drewN_drewN _ _ _) (congrArg (World.drewN _) (Nat.add_assoc _ _ _))⟩)))
   repeat (go_quiet (first | (go_at_call 26; (with_reducible refine (rf_Spans.calls k _ _ l0_0 _ _ l1_0 false _ ?side1 ?side2 ?side3 ?side4 A6.out).mono ?_); (case side1 => exact sqQ HR0_0 HB); (case side2 => exact HC0_0.out); (case side3 => exact sqQ HR1_0 HB); (case side4 => exact HC1_0.out); rintro e w' ⟨rfl, ⟨nd, rfl⟩⟩; (try first | exact ⟨rfl, _, World.drewN_drewN _ _ _⟩ | exact ⟨rfl, _, Eq.trans (World.drewN_drewN _ _ _) (congrArg (World.drewN _) (Nat.add_assoc _ _ _))⟩))); try go_wp2_with (first | (go_at_call 26; (with_reducible refine (rf_Spans.calls k _ _ l0_0 _ _ l1_0 false _ ?side1 ?side2 ?side3 ?side4 A6.out).mono ?_); (case side1 => exact sqQ HR0_0 HB); (case side2 => exact HC0_0.out); (case side3 => exact sqQ HR1_0 HB); (case side4 => exact HC1_0.out); rintro e w' ⟨rfl, ⟨nd, rfl⟩⟩; (try first | exact ⟨rfl, _, World.drewN_drewN _ _ _⟩ | exact ⟨rfl, _, Eq.trans (World.drewN_drewN _ _ _) (congrArg (World.drewN _) (Nat.add_assoc _ _ _))⟩))))
   go_meet
   case rel => exact ⟨_, (true), sqE, H', ⟨by first | omega | exact Nat.le_refl _⟩, ⟨sqK BK178⟩, ⟨sqK BK179⟩, ⟨sqB HB⟩⟩
 case rest =>
  clear HC3; obtain ⟨kq, x20_2, rfl, HA, HJ2, BK178, BK179, HB⟩ := hcut
  cases kq with
  | zero => exact absurd HA.out (by simp [rf_Same.j0])
  | succ kj2 =>
   have H := HA.out; clear HA; simp only [rf_Same.j0] at H
   by_cases c14 : x20_2 = true
   ·subst c14
    rw [if_pos rfl] at H; obtain rfl := Option.some.inj H
    go_wp2
    repeat (go_quiet (fail); try go_wp2)
    go_ret
    exact ⟨by first | rfl | (simp [errW_none, errW_some] <;> rfl) | (simp [*, errW_none, errW_some] <;> rfl), sqB HB⟩
   ·replace c14 := Bool.eq_false_iff.mpr c14
    subst c14; rw [if_neg Bool.false_ne_true] at H; have H' := Aside0.mk H; clear H; go_wp2
    repeat (go_quiet (fail); try go_wp2)
    go_loopg [5] kj2 (fun kq v5 w' => ∃ (x5_2 : Int), v5 = .int .i64 x5_2 ∧ Aside0 (rf_Same.l0 kq x5_2 l0_0 l0_1 l1_0 l1_1 = some r) ∧ Aside0 (kq ≤ kj2) ∧ Aside0 (w'.heap[gb178]? = some (.cells #[(.slice A0_0 l0_0.length c0_0), (.slice A0_1 l0_1.length c0_1)] 25 (0, 0))) ∧ Aside0 (w'.heap[gb179]? = some (.cells #[(.slice A1_0 l1_0.length c1_0), (.slice A1_1 l1_1.length c1_1)] 25 (0, 0))) ∧ Aside0 (Below w.heap.size w w'))
    case atStart => exact ⟨(0), sqE, H', ⟨Nat.le_refl _⟩, ⟨sqK BK178⟩, ⟨sqK BK179⟩, ⟨sqB HB⟩⟩
    case round =>
     clear H'; try clear c14
     obtain ⟨x5_2, rfl, HA, HK2, BK178, BK179, HB⟩ := hrel
     cases gk with
     | zero => exact absurd HA.out (by simp [rf_Same.l0])
     | succ k2 =>
      have H := HA.out; clear HA; simp only [rf_Same.l0] at H
      by_cases c15 : x5_2 < (l0_1.length : Int)
      ·rw [if_pos c15] at H
       have c15b0 : decide (x5_2 < (l0_1.length : Int)) = true := decide_eq_true c15; clear c15
       by_cases c16 : 0 ≤ x5_2
       ·rw [if_pos c16] at H
        have c16b0 : decide (0 ≤ x5_2) = true := decide_eq_true c16; clear c16
        by_cases c17 : x5_2 < (l1_1.length : Int)
        ·rw [if_pos c17] at H
         have c17b0 : decide (x5_2 < (l1_1.length : Int)) = true := decide_eq_true c17; clear c17
         by_cases c18 : (!(((rd_T80 l0_1 x5_2).f0) == ((rd_T80 l1_1 x5_2).f0)) || (!(((rd_T80 l0_1 x5_2).f1) == ((rd_T80 l1_1 x5_2).f1)) || (!(((rd_T80 l0_1 x5_2).f2) == ((rd_T80 l1_1 x5_2).f2))))) = true
         ·rw [if_pos c18] at H
          have c18b0 : (!(((rd_T80 l0_1 x5_2).f0) == ((rd_T80 l1_1 x5_2).f0)) || (!(((rd_T80 l0_1 x5_2).f1) == ((rd_T80 l1_1 x5_2).f1)) || (!(((rd_T80 l0_1 x5_2).f2) == ((rd_T80 l1_1 x5_2).f2))))) = true := c18; clear c18; obtain rfl := Option.some.inj H; have hnb19 := NB178_179.out; have hnc19 := NB179_178.out; have hcz20_0 := sqc0 BK178; have hcz20_1 := sqc1 BK178; have hfz20_0 := blk_frozen BK178.out 0; have hfz20_1 := blk_frozen BK178.out 1; have p181 : 0 ≤ (x5_2 : Int) := sqD; have q181 : x5_2 < (l0_1.length : Int) := sqD; obtain ⟨ad181, e181, hx181_0, hx181_1, hx181_2⟩ := at_T80 HR0_1.out x5_2 p181 q181
          cases e181
          replace hx181_0 := (HB.out.cell (World.block_lt_of_cell? w _ hx181_0)).trans hx181_0; replace hx181_1 := (HB.out.cell (World.block_lt_of_cell? w _ hx181_1)).trans hx181_1; replace hx181_2 := (HB.out.cell (World.block_lt_of_cell? w _ hx181_2)).trans hx181_2; replace p181 := eq_true p181; replace q181 := eq_true q181; have hcz21_0 := sqc0 BK179; have hcz21_1 := sqc1 BK179; have hfz21_0 := blk_frozen BK179.out 0; have hfz21_1 := blk_frozen BK179.out 1; have p182 : 0 ≤ (x5_2 : Int) := sqD; have q182 : x5_2 < (l1_1.length : Int) := sqD; obtain ⟨ad182, e182, hx182_0, hx182_1, hx182_2⟩ := at_T80 HR1_1.out x5_2 p182 q182
          cases e182
          replace hx182_0 := (HB.out.cell (World.block_lt_of_cell? w _ hx182_0)).trans hx182_0; replace hx182_1 := (HB.out.cell (World.block_lt_of_cell? w _ hx182_1)).trans hx182_1; replace hx182_2 := (HB.out.cell (World.block_lt_of_cell? w _ hx182_2)).trans hx182_2; replace p182 := eq_true p182; replace q182 := eq_true q182
          go_wp2
          repeat (go_quiet (fail); try go_wp2)
          go_ret
          exact ⟨by first | rfl | (simp [errW_none, errW_some] <;> rfl) | (simp [*, errW_none, errW_some] <;> rfl), sqB HB⟩
         ·rw [if_neg c18] at H
          have c18b0 : (!(((rd_T80 l0_1 x5_2).f0) == ((rd_T80 l1_1 x5_2).f0)) || (!(((rd_T80 l0_1 x5_2).f1) == ((rd_T80 l1_1 x5_2).f1)) || (!(((rd_T80 l0_1 x5_2).f2) == ((rd_T80 l1_1 x5_2).f2))))) = false := by simpa using c18
          clear c18; have H' := Aside0.mk H; clear H; have hnb22 := NB178_179.out; have hnc22 := NB179_178.out; have hcz23_0 := sqc0 BK178; have hcz23_1 := sqc1 BK178; have hfz23_0 := blk_frozen BK178.out 0; have hfz23_1 := blk_frozen BK178.out 1; have p181 : 0 ≤ (x5_2 : Int) := sqD; have q181 : x5_2 < (l0_1.length : Int) := sqD; obtain ⟨ad181, e181, hx181_0, hx181_1, hx181_2⟩ := at_T80 HR0_1.out x5_2 p181 q181
          cases e181
          replace hx181_0 := (HB.out.cell (World.block_lt_of_cell? w _ hx181_0)).trans hx181_0; replace hx181_1 := (HB.out.cell (World.block_lt_of_cell? w _ hx181_1)).trans hx181_1; replace hx181_2 := (HB.out.cell (World.block_lt_of_cell? w _ hx181_2)).trans hx181_2; replace p181 := eq_true p181; replace q181 := eq_true q181; have hcz24_0 := sqc0 BK179; have hcz24_1 := sqc1 BK179; have hfz24_0 := blk_frozen BK179.out 0; have hfz24_1 := blk_frozen BK179.out 1; have p182 : 0 ≤ (x5_2 : Int) := sqD; have q182 : x5_2 < (l1_1.length : Int) := sqD; obtain ⟨ad182, e182, hx182_0, hx182_1, hx182_2⟩ := at_T80 HR1_1.out x5_2 p182 q182
          cases e182
          replace hx182_0 := (HB.out.cell (World.block_lt_of_cell? w _ hx182_0)).trans hx182_0; replace hx182_1 := (HB.out.cell (World.block_lt_of_cell? w _ hx182_1)).trans hx182_1; replace hx182_2 := (HB.out.cell (World.block_lt_of_cell? w _ hx182_2)).trans hx182_2; replace p182 := eq_true p182; replace q182 := eq_true q182
          go_wp2
          repeat (go_quiet (fail); try go_wp2)
          go_roundg k2
          case measure => have := HJ2.out; have := HK2.out; omega
          case rel => exact ⟨(wrap64 (x5_2 + 1)), sqE, H', ⟨by have := HJ2.out; have := HK2.out; omega⟩, ⟨sqK BK178⟩, ⟨sqK BK179⟩, ⟨sqB HB⟩⟩
        ·rw [if_neg c17] at H
         exact absurd H (by simp)
       ·rw [if_neg c16] at H
        exact absurd H (by simp)
      ·rw [if_neg c15] at H
       have c15b0 : decide (x5_2 < (l0_1.length : Int)) = false := decide_eq_false c15; clear c15; obtain rfl := Option.some.inj H; have hnb25 := NB178_179.out; have hnc25 := NB179_178.out; have hcz26_0 := sqc0 BK178; have hcz26_1 := sqc1 BK178; have hfz26_0 := blk_frozen BK178.out 0; have hfz26_1 := blk_frozen BK178.out 1
       go_wp2
       repeat (go_quiet (fail); try go_wp2)
       go_ret
       exact ⟨by first | rfl | (simp [errW_none, errW_some] <;> rfl) | (simp [*, errW_none, errW_some] <;> rfl), sqB HB⟩
end Go.Proofs.YtemingmeidmjkaaDoor.Q
namespace Go.Proofs.YtemingmeidmjkaaDoor.Q
open Go.RowKit Go.Proofs.YtemingmeidmjkaaDoorW.PrintWords Go.Proofs.YtemingmeidmjkaaDoorW.PrintLast Go.Proofs.YtemingmeidmjkaaDoorW.PrintMore
attribute [local go_sem] max2_int min2_int max_two min_two max_three min_three max_four min_four   -- for this text's walks alone
set_option linter.unusedVariables false
set_option linter.unusedSimpArgs false
def wool_Wrong.f (l0_0 : List (S41)) (l0_1 : List (S80)) : Option (List Int × Int) := some (wrR (toSt l0_0) (toWg l0_1), wrE (toSt l0_0) (toWg l0_1))
theorem wool_Wrong.calls (A0_0 : Option Addr) (c0_0 : Nat) (l0_0 : List (S41)) (A0_1 : Option Addr) (c0_1 : Nat) (l0_1 : List (S80)) (r1 : List Int) (r2 : Int) (w : World) (hG : GL w) (hr0_0 : Kd.C k41 w A0_0 l0_0.length l0_0) (hc0_0 : l0_0.length ≤ c0_0) (hr0_1 : Kd.C k80 w A0_1 l0_1.length l0_1) (hc0_1 : l0_1.length ≤ c0_1) (h : wool_Wrong.f l0_0 l0_1 = some (r1, r2)) :
  Calls Tryd.prog 37 #[.agg #[.slice A0_0 l0_0.length c0_0, .slice A0_1 l0_1.length c0_1]] w fun e w' => ∃ v0_ : Value, e = .returned (.tuple #[v0_, .int .i64 r2]) ∧ Kd.R (Kd.int .i64) 3 w' w.heap.size (fun _ => True) v0_ r1 ∧ Below w.heap.size w w' := by
 simp only [wool_Wrong.f, Option.some.injEq, Prod.mk.injEq] at h; obtain ⟨rfl, rfl⟩ := h; have H := wrong_ A0_0 c0_0 (toSt l0_0) A0_1 c0_1 (toWg l0_1) w hG (toSt_C hr0_0) (toSt_c hc0_0) (toWg_C hr0_1) (toWg_c hc0_1); rw [toSt_len, toWg_len] at H; refine H.mono ?_; rintro e w' ⟨v, he, h1, h2⟩; exact ⟨v, he, ints_R h1, h2⟩
end Go.Proofs.YtemingmeidmjkaaDoor.Q
namespace Go.Proofs.YtemingmeidmjkaaDoor.Q
open Go.RowKit Go.Proofs.YtemingmeidmjkaaDoorW.PrintWords Go.Proofs.YtemingmeidmjkaaDoorW.PrintLast Go.Proofs.YtemingmeidmjkaaDoorW.PrintMore
attribute [local go_sem] max2_int min2_int max_two min_two max_three min_three max_four min_four   -- for this text's walks alone
set_option linter.unusedVariables false
set_option linter.unusedSimpArgs false
def rf_Fits.l0 : Nat → Int → Int → Int → List (S41) → List (S80) → Option (Bool)
 | 0, _, _, _, _, _ => none
 | k + 1, x1, x2, x7, x184000, x184001 => if x7 < (x184001.length : Int) then (if 0 ≤ x7 then (if ((rd_T80 x184001 x7).f0) = x1 then ((rf_In.f x2 (wrap64 (((rd_T80 x184001 x7).f1) - ((rd_T80 x184001 x7).f2))) (wrap64 (((rd_T80 x184001 x7).f1) + ((rd_T80 x184001 x7).f2)))).bind fun t186 => (if t186 = true then (rf_Fits.l0 k x1 x2 (wrap64 (x7 + 1)) x184000 x184001) else (some false))) else (rf_Fits.l0 k x1 x2 (wrap64 (x7 + 1)) x184000 x184001)) else (none)) else (some true)
def rf_Fits.f (k : Nat) (l0_0 : List (S41)) (l0_1 : List (S80)) (a1 : Int) (a2 : Int) : Option (Bool) := rf_Fits.l0 k a1 a2 0 l0_0 l0_1
set_option maxHeartbeats 8000000 in
set_option maxRecDepth 100000 in
theorem rf_Fits.calls (k : Nat) (A0_0 : Option Addr) (c0_0 : Nat) (l0_0 : List (S41)) (A0_1 : Option Addr) (c0_1 : Nat) (l0_1 : List (S80)) (a1 : Int) (a2 : Int) (r : Bool) (w : World) (hr0_0 : Kd.C k41 w A0_0 l0_0.length l0_0) (hc0_0 : l0_0.length ≤ c0_0) (hr0_1 : Kd.C k80 w A0_1 l0_1.length l0_1) (hc0_1 : l0_1.length ≤ c0_1) (h : rf_Fits.f k l0_0 l0_1 a1 a2 = some r) :
  Calls Tryd.prog 64 #[.agg #[.slice A0_0 l0_0.length c0_0, .slice A0_1 l0_1.length c0_1], .int .i64 a1, .int .i64 a2] w fun e w' => e = .returned (.bool r) ∧ Below w.heap.size w w' := by
 have hu25 := Tryd.underlying25; have hu80 := Tryd.underlying80; have HR0_0 := Aside0.mk hr0_0; have HC0_0 := Aside0.mk hc0_0; clear hr0_0 hc0_0; have HR0_1 := Aside0.mk hr0_1; have HC0_1 := Aside0.mk hc0_1; clear hr0_1 hc0_1; have HB := Aside0.mk (Below.refl w.heap.size w); have H : (rf_Fits.l0 k a1 a2 0 l0_0 l0_1) = some r := h; clear h; have H' := Aside0.mk H; clear H; go_enter Tryd.func64, Tryd.ntmps64
 go_wp2_with (first | ((with_reducible refine gate_dst (N := 3) rfl ?_); refine box_event ?hg (N := 3) ?hd (cs := #[.slice A0_0 l0_0.length c0_0, .slice A0_1 l0_1.length c0_1]) (t := 25) ?hr ?_; (case hd => rfl); (case hg => rfl); (case hr => first | (go_simp; done) | (go_simp; rfl)); intro gb183 hg w4 hbox hb; have BK183 := Aside0.mk (hbox); have GW183 := Aside0.mk (sqZ hg HB); have GE183 := Aside0.mk (sqZ hg HB); replace HB := sqb hb HB; clear hb hbox hg))
 go_loopg [7] k (fun kq v7 w' => ∃ (x7_1 : Int), v7 = .int .i64 x7_1 ∧ Aside0 (rf_Fits.l0 kq a1 a2 x7_1 l0_0 l0_1 = some r) ∧ Aside0 (kq ≤ k) ∧ Aside0 (w'.heap[gb183]? = some (.cells #[(.slice A0_0 l0_0.length c0_0), (.slice A0_1 l0_1.length c0_1)] 25 (0, 0))) ∧ Aside0 (Below w.heap.size w w'))
 case atStart => exact ⟨(0), sqE, H', ⟨Nat.le_refl _⟩, ⟨sqK BK183⟩, ⟨sqB HB⟩⟩
 case round =>
  clear H'; obtain ⟨x7_1, rfl, HA, HK1, BK183, HB⟩ := hrel
  cases gk with
  | zero => exact absurd HA.out (by simp [rf_Fits.l0])
  | succ k1 =>
   have H := HA.out; clear HA; simp only [rf_Fits.l0] at H
   by_cases c5 : x7_1 < (l0_1.length : Int)
   ·rw [if_pos c5] at H
    have c5b0 : decide (x7_1 < (l0_1.length : Int)) = true := decide_eq_true c5; clear c5
    by_cases c6 : 0 ≤ x7_1
    ·rw [if_pos c6] at H
     have c6b0 : decide (0 ≤ x7_1) = true := decide_eq_true c6; clear c6
     by_cases c7 : ((rd_T80 l0_1 x7_1).f0) = a1
     ·rw [if_pos c7] at H
      have c7b0 : (((rd_T80 l0_1 x7_1).f0) == a1) = true := beq_iff_eq.mpr c7; have c7b1 : (((rd_T80 l0_1 x7_1).f0) != a1) = false := bne_eq_false_iff_eq.mpr c7; clear c7; obtain ⟨t186, A80, H⟩ := Option.bind_eq_some_iff.mp H; have A8 := Aside0.mk A80; clear A80
      by_cases c9 : t186 = true
      ·subst c9
       rw [if_pos rfl] at H; have H' := Aside0.mk H; clear H; have hcz10_0 := sqc0 BK183; have hcz10_1 := sqc1 BK183; have hfz10_0 := blk_frozen BK183.out 0; have hfz10_1 := blk_frozen BK183.out 1; have p184 : 0 ≤ (x7_1 : Int) := sqD; have q184 : x7_1 < (l0_1.length : Int) := sqD; obtain ⟨ad184, e184, hx184_0, hx184_1, hx184_2⟩ := at_T80 HR0_1.out x7_1 p184 q184
       cases e184
       replace hx184_0 := (HB.out.cell (World.block_lt_of_cell? w _ hx184_0)).trans hx184_0; replace hx184_1 := (HB.out.cell (World.block_lt_of_cell? w _ hx184_1)).trans hx184_1; replace hx184_2 := (HB.out.cell (World.block_lt_of_cell? w _ hx184_2)).trans hx184_2; replace p184 := eq_true p184; replace q184 := eq_true q184
       go_wp2_with (first | ((with_reducible refine gate_dst (N := 8) rfl ?_); refine box_event ?hg (N := 8) ?hd (cs := #[.int .i64 0, .int .i64 0, .int .i64 0]) (t := 80) ?hr ?_; (case hd => rfl); (case hg => rfl); (case hr => first | (go_simp; done) | (go_simp; rfl)); intro gb185 hg w11 hbox hb; have BK185 := Aside0.mk (hbox); have GW185 := Aside0.mk (sqZ hg HB); have GE185 := Aside0.mk (sqZ hg HB); replace HB := sqb hb HB; have NB183_185 := Aside0.mk (sqL hg BK183); have NB185_183 := Aside0.mk (sqG hg BK183); replace BK183 := sqk BK183 hb; clear hb hbox hg; have hnb12 := NB185_183.out; have hnc12 := NB183_185.out; have hcz13_0 := sqc0 BK185; have hcz13_1 := sqc1 BK185; have hcz13_2 := sqc2 BK185; have hfz13_0 := blk_frozen BK185.out 0; have hfz13_1 := blk_frozen BK185.out 1; have hfz13_2 := blk_frozen BK185.out 2) | (go_at_call 35; (with_reducible refine (rf_In.calls a2 (wrap64 (((rd_T80 l0_1 x7_1).f1) - ((rd_T80 l0_1 x7_1).f2))) (wrap64 (((rd_T80 l0_1 x7_1).f1) + ((rd_T80 l0_1 x7_1).f2))) true _ A8.out).mono ?_); rintro e w' ⟨rfl, ⟨nd, rfl⟩⟩))
       go_roundg k1
       case measure => have := HK1.out; omega
       case rel => exact ⟨(wrap64 (x7_1 + 1)), sqE, H', ⟨by have := HK1.out; omega⟩, ⟨sqX⟩, ⟨sqB HB⟩⟩
      ·replace c9 := Bool.eq_false_iff.mpr c9
       subst c9; rw [if_neg Bool.false_ne_true] at H; obtain rfl := Option.some.inj H; have hcz14_0 := sqc0 BK183; have hcz14_1 := sqc1 BK183; have hfz14_0 := blk_frozen BK183.out 0; have hfz14_1 := blk_frozen BK183.out 1; have p184 : 0 ≤ (x7_1 : Int) := sqD; have q184 : x7_1 < (l0_1.length : Int) := sqD; obtain ⟨ad184, e184, hx184_0, hx184_1, hx184_2⟩ := at_T80 HR0_1.out x7_1 p184 q184
       cases e184
       replace hx184_0 := (HB.out.cell (World.block_lt_of_cell? w _ hx184_0)).trans hx184_0; replace hx184_1 := (HB.out.cell (World.block_lt_of_cell? w _ hx184_1)).trans hx184_1; replace hx184_2 := (HB.out.cell (World.block_lt_of_cell? w _ hx184_2)).trans hx184_2; replace p184 := eq_true p184; replace q184 := eq_true q184
       go_wp2_with (first | ((with_reducible refine gate_dst (N := 8) rfl ?_); refine box_event ?hg (N := 8) ?hd (cs := #[.int .i64 0, .int .i64 0, .int .i64 0]) (t := 80) ?hr ?_; (case hd => rfl); (case hg => rfl); (case hr => first | (go_simp; done) | (go_simp; rfl)); intro gb185 hg w15 hbox hb; have BK185 := Aside0.mk (hbox); have GW185 := Aside0.mk (sqZ hg HB); have GE185 := Aside0.mk (sqZ hg HB); replace HB := sqb hb HB; have NB183_185 := Aside0.mk (sqL hg BK183); have NB185_183 := Aside0.mk (sqG hg BK183); replace BK183 := sqk BK183 hb; clear hb hbox hg; have hnb16 := NB185_183.out; have hnc16 := NB183_185.out; have hcz17_0 := sqc0 BK185; have hcz17_1 := sqc1 BK185; have hcz17_2 := sqc2 BK185; have hfz17_0 := blk_frozen BK185.out 0; have hfz17_1 := blk_frozen BK185.out 1; have hfz17_2 := blk_frozen BK185.out 2) | (go_at_call 35; (with_reducible refine (rf_In.calls a2 (wrap64 (((rd_T80 l0_1 x7_1).f1) - ((rd_T80 l0_1 x7_1).f2))) (wrap64 (((rd_T80 l0_1 x7_1).f1) + ((rd_T80 l0_1 x7_1).f2))) false _ A8.out).mono ?_); rintro e w' ⟨rfl, ⟨nd, rfl⟩⟩))
       go_ret
       exact ⟨by first | rfl | (simp [errW_none, errW_some] <;> rfl) | (simp [*, errW_none, errW_some] <;> rfl), sqB HB⟩
     ·rw [if_neg c7] at H
      have c7b0 : (((rd_T80 l0_1 x7_1).f0) == a1) = false := beq_eq_false_iff_ne.mpr c7; have c7b1 : (((rd_T80 l0_1 x7_1).f0) != a1) = true := bne_iff_ne.mpr c7; have H' := Aside0.mk H; clear H; have hcz18_0 := sqc0 BK183; have hcz18_1 := sqc1 BK183; have hfz18_0 := blk_frozen BK183.out 0; have hfz18_1 := blk_frozen BK183.out 1; have p184 : 0 ≤ (x7_1 : Int) := sqD; have q184 : x7_1 < (l0_1.length : Int) := sqD; obtain ⟨ad184, e184, hx184_0, hx184_1, hx184_2⟩ := at_T80 HR0_1.out x7_1 p184 q184
      cases e184
      replace hx184_0 := (HB.out.cell (World.block_lt_of_cell? w _ hx184_0)).trans hx184_0; replace hx184_1 := (HB.out.cell (World.block_lt_of_cell? w _ hx184_1)).trans hx184_1; replace hx184_2 := (HB.out.cell (World.block_lt_of_cell? w _ hx184_2)).trans hx184_2; replace p184 := eq_true p184; replace q184 := eq_true q184
      go_wp2_with (first | ((with_reducible refine gate_dst (N := 8) rfl ?_); refine box_event ?hg (N := 8) ?hd (cs := #[.int .i64 0, .int .i64 0, .int .i64 0]) (t := 80) ?hr ?_; (case hd => rfl); (case hg => rfl); (case hr => first | (go_simp; done) | (go_simp; rfl)); intro gb185 hg w19 hbox hb; have BK185 := Aside0.mk (hbox); have GW185 := Aside0.mk (sqZ hg HB); have GE185 := Aside0.mk (sqZ hg HB); replace HB := sqb hb HB; have NB183_185 := Aside0.mk (sqL hg BK183); have NB185_183 := Aside0.mk (sqG hg BK183); replace BK183 := sqk BK183 hb; clear hb hbox hg; have hnb20 := NB185_183.out; have hnc20 := NB183_185.out; have hcz21_0 := sqc0 BK185; have hcz21_1 := sqc1 BK185; have hcz21_2 := sqc2 BK185; have hfz21_0 := blk_frozen BK185.out 0; have hfz21_1 := blk_frozen BK185.out 1; have hfz21_2 := blk_frozen BK185.out 2))
      go_roundg k1
      case measure => have := HK1.out; omega
      case rel => exact ⟨(wrap64 (x7_1 + 1)), sqE, H', ⟨by have := HK1.out; omega⟩, ⟨sqX⟩, ⟨sqB HB⟩⟩
    ·rw [if_neg c6] at H
     exact absurd H (by simp)
   ·rw [if_neg c5] at H
    have c5b0 : decide (x7_1 < (l0_1.length : Int)) = false := decide_eq_false c5; clear c5; obtain rfl := Option.some.inj H; have hcz22_0 := sqc0 BK183; have hcz22_1 := sqc1 BK183; have hfz22_0 := blk_frozen BK183.out 0; have hfz22_1 := blk_frozen BK183.out 1
    go_wp2
    go_ret
    exact ⟨by first | rfl | (simp [errW_none, errW_some] <;> rfl) | (simp [*, errW_none, errW_some] <;> rfl), sqB HB⟩
def rf_Least.f (a0_0 : Int) (a0_1 : Int) (a1 : Int) : Option (Int) := if (wrap64 ((wrap64 (Int.tdiv (wrap64 (a1 * a0_1)) 1000)) * 1000)) < (wrap64 (a1 * a0_1)) then (some (wrap64 (a1 - (wrap64 ((wrap64 (Int.tdiv (wrap64 (a1 * a0_1)) 1000)) + 1))))) else (some (wrap64 (a1 - (wrap64 (Int.tdiv (wrap64 (a1 * a0_1)) 1000)))))
set_option maxHeartbeats 8000000 in
set_option maxRecDepth 100000 in
theorem rf_Least.calls (a0_0 : Int) (a0_1 : Int) (a1 : Int) (r : Int) (w : World) (h : rf_Least.f a0_0 a0_1 a1 = some r) :
  Calls Tryd.prog 74 #[.agg #[.int .i64 a0_0, .int .i64 a0_1], .int .i64 a1] w fun e w' => e = .returned (.int .i64 r) ∧ Below w.heap.size w w' := by
 have hu41 := Tryd.underlying41; have HB := Aside0.mk (Below.refl w.heap.size w); have H : (if (wrap64 ((wrap64 (Int.tdiv (wrap64 (a1 * a0_1)) 1000)) * 1000)) < (wrap64 (a1 * a0_1)) then (some (wrap64 (a1 - (wrap64 ((wrap64 (Int.tdiv (wrap64 (a1 * a0_1)) 1000)) + 1))))) else (some (wrap64 (a1 - (wrap64 (Int.tdiv (wrap64 (a1 * a0_1)) 1000)))))) = some r := h; clear h
 by_cases c3 : (wrap64 ((wrap64 (Int.tdiv (wrap64 (a1 * a0_1)) 1000)) * 1000)) < (wrap64 (a1 * a0_1))
 ·rw [if_pos c3] at H
  have c3b0 : decide ((wrap64 ((wrap64 (Int.tdiv (wrap64 (a1 * a0_1)) 1000)) * 1000)) < (wrap64 (a1 * a0_1))) = true := decide_eq_true c3; clear c3; obtain rfl := Option.some.inj H
  go_enter Tryd.func74, Tryd.ntmps74
  go_wp2_with (first | ((with_reducible refine gate_dst (N := 2) rfl ?_); refine box_event ?hg (N := 2) ?hd (cs := #[.int .i64 a0_0, .int .i64 a0_1]) (t := 41) ?hr ?_; (case hd => rfl); (case hg => rfl); (case hr => first | (go_simp; done) | (go_simp; rfl)); intro gb187 hg w4 hbox hb; have BK187 := Aside0.mk (hbox); have GW187 := Aside0.mk (sqZ hg HB); have GE187 := Aside0.mk (sqZ hg HB); replace HB := sqb hb HB; clear hb hbox hg; have hcz5_0 := sqc0 BK187; have hcz5_1 := sqc1 BK187; have hfz5_0 := blk_frozen BK187.out 0; have hfz5_1 := blk_frozen BK187.out 1))
  go_ret
  exact ⟨by first | rfl | (simp [errW_none, errW_some] <;> rfl) | (simp [*, errW_none, errW_some] <;> rfl), sqB HB⟩
 ·rw [if_neg c3] at H
  have c3b0 : decide ((wrap64 ((wrap64 (Int.tdiv (wrap64 (a1 * a0_1)) 1000)) * 1000)) < (wrap64 (a1 * a0_1))) = false := decide_eq_false c3; clear c3; obtain rfl := Option.some.inj H
  go_enter Tryd.func74, Tryd.ntmps74
  go_wp2_with (first | ((with_reducible refine gate_dst (N := 2) rfl ?_); refine box_event ?hg (N := 2) ?hd (cs := #[.int .i64 a0_0, .int .i64 a0_1]) (t := 41) ?hr ?_; (case hd => rfl); (case hg => rfl); (case hr => first | (go_simp; done) | (go_simp; rfl)); intro gb187 hg w6 hbox hb; have BK187 := Aside0.mk (hbox); have GW187 := Aside0.mk (sqZ hg HB); have GE187 := Aside0.mk (sqZ hg HB); replace HB := sqb hb HB; clear hb hbox hg; have hcz7_0 := sqc0 BK187; have hcz7_1 := sqc1 BK187; have hfz7_0 := blk_frozen BK187.out 0; have hfz7_1 := blk_frozen BK187.out 1))
  go_ret
  exact ⟨by first | rfl | (simp [errW_none, errW_some] <;> rfl) | (simp [*, errW_none, errW_some] <;> rfl), sqB HB⟩
def rf_Greatest.f (a0_0 : Int) (a0_1 : Int) (a1 : Int) : Option (Int) := some (wrap64 (a1 - (wrap64 (Int.tdiv (wrap64 (a1 * a0_0)) 1000))))
set_option maxHeartbeats 8000000 in
set_option maxRecDepth 100000 in
theorem rf_Greatest.calls (a0_0 : Int) (a0_1 : Int) (a1 : Int) (r : Int) (w : World) (h : rf_Greatest.f a0_0 a0_1 a1 = some r) :
  Calls Tryd.prog 75 #[.agg #[.int .i64 a0_0, .int .i64 a0_1], .int .i64 a1] w fun e w' => e = .returned (.int .i64 r) ∧ Below w.heap.size w w' := by
 have hu41 := Tryd.underlying41; have HB := Aside0.mk (Below.refl w.heap.size w); have H : (some (wrap64 (a1 - (wrap64 (Int.tdiv (wrap64 (a1 * a0_0)) 1000))))) = some r := h; clear h; obtain rfl := Option.some.inj H
 go_enter Tryd.func75, Tryd.ntmps75
 go_wp2_with (first | ((with_reducible refine gate_dst (N := 2) rfl ?_); refine box_event ?hg (N := 2) ?hd (cs := #[.int .i64 a0_0, .int .i64 a0_1]) (t := 41) ?hr ?_; (case hd => rfl); (case hg => rfl); (case hr => first | (go_simp; done) | (go_simp; rfl)); intro gb188 hg w3 hbox hb; have BK188 := Aside0.mk (hbox); have GW188 := Aside0.mk (sqZ hg HB); have GE188 := Aside0.mk (sqZ hg HB); replace HB := sqb hb HB; clear hb hbox hg; have hcz4_0 := sqc0 BK188; have hcz4_1 := sqc1 BK188; have hfz4_0 := blk_frozen BK188.out 0; have hfz4_1 := blk_frozen BK188.out 1))
 go_ret
 exact ⟨by first | rfl | (simp [errW_none, errW_some] <;> rfl) | (simp [*, errW_none, errW_some] <;> rfl), sqB HB⟩
end Go.Proofs.YtemingmeidmjkaaDoor.Q
namespace Go.Proofs.YtemingmeidmjkaaDoor.Q
open Go.RowKit Go.Proofs.YtemingmeidmjkaaDoorW.PrintWords
set_option linter.unusedVariables false
set_option linter.unusedSimpArgs false
theorem rdI (l : List Int) (i : Nat) (h : i < l.length) : rd l (i : Int) = l[i] := by simp [rd, h]
theorem rdA (l : List S41) (i : Nat) (h : i < l.length) : rd_T41 l (i : Int) = l[i] := by simp [rd_T41, h]
theorem rdW (l : List S80) (i : Nat) (h : i < l.length) : rd_T80 l (i : Int) = l[i] := by simp [rd_T80, h]
theorem drop_dec {α : Type} [DecidableEq α] (a b : List α) (i : Nat) (ha : i < a.length) (hb : i < b.length) : decide (a.drop i = b.drop i) = (decide (a[i] = b[i]) && decide (a.drop (i + 1) = b.drop (i + 1))) := by
 rw [List.drop_eq_getElem_cons ha, List.drop_eq_getElem_cons hb, Bool.eq_iff_iff]; simp only [decide_eq_true_eq, Bool.and_eq_true, List.cons.injEq]
theorem In_f (a b c : Int) : rf_In.f a b c = some (inB b c [a]) := by
 have e : inB b c [a] = (decide (b ≤ a) && decide (a ≤ c)) := by
  rw [Bool.eq_iff_iff, inB_iff]
  simp
 rw [e]
 unfold rf_In.f
 split <;> simp_all <;> omega
theorem inB_one (b c a : Int) : inB b c [a] = true ↔ b ≤ a ∧ a ≤ c := by rw [inB_iff]; simp
theorem known_f : lw_known.f = some true := rfl
theorem long_f (l0 : List S41) (l1 : List S80) : lw_long.f l0 l1 = some (decide ((l0.length : Int) > 10 ∨ (l1.length : Int) > 12)) := by
 unfold lw_long.f
 by_cases h : (l0.length : Int) > 10 <;> simp [h]
theorem Copy_f (l0 : List S41) (l1 : List S80) (h0 : l0.length ≤ 1000) (h1 : l1.length ≤ 1000) : rf_Copy.f l0 l1 = some (l0, l1) := by
 unfold rf_Copy.f
 simp only [Option.bind_some, List.length_nil, List.nil_append]; rw [if_pos (by omega), if_pos (by omega)]
theorem dec_S (x y : S41) : decide ((⟨x.f0, x.f1⟩ : Sp) = ⟨y.f0, y.f1⟩) = !(!(x.f0 == y.f0) || !(x.f1 == y.f1)) := by
 rw [Bool.eq_iff_iff]
 simp
theorem toSt_get (l : List S41) (i : Nat) (h : i < l.length) : (toSt l)[i]'(by rw [toSt_len]; exact h) = ⟨l[i].f0, l[i].f1⟩ := by simp [toSt]
theorem Spans_l0 (a b : List S41) (hl : a.length ≤ 1000) (hab : a.length = b.length) : ∀ (d i : Nat), i + d = a.length → Ev (fun k => rf_Spans.l0 k a b (i : Int)) (decide ((toSt a).drop i = (toSt b).drop i))
 | 0, i, h => by
  refine Ev.up ?_; simp only [rf_Spans.l0, if_neg (show ¬ (i : Int) < (a.length : Int) by omega)]; rw [List.drop_eq_nil_of_le (by rw [toSt_len]; omega), List.drop_eq_nil_of_le (by rw [toSt_len]; omega)]
  simpa using Ev.now true
 | d + 1, i, h => by
  refine Ev.up ?_; simp only [rf_Spans.l0, if_pos (show (i : Int) < (a.length : Int) by omega), if_pos (show (0 : Int) ≤ (i : Int) by omega), if_pos (show (i : Int) < (b.length : Int) by omega), wi i (by omega), rdA a i (by omega), rdA b i (by omega)]; rw [drop_dec (toSt a) (toSt b) i (by rw [toSt_len]; omega) (by rw [toSt_len]; omega), toSt_get a i (by omega), toSt_get b i (by omega), dec_S]
  cases hq : (!(a[i].f0 == b[i].f0) || !(a[i].f1 == b[i].f1))
  ·simp only [Bool.false_eq_true, if_false, Bool.not_false, Bool.true_and]
   exact Spans_l0 a b hl hab d (i + 1) (by omega)
  ·simp only [if_true, Bool.not_true, Bool.false_and]
   exact Ev.now _
theorem Spans_f (a b : List S41) (ha : a.length ≤ 1000) : Ev (fun k => rf_Spans.f k a b) (decide (toSt a = toSt b)) := by
 unfold rf_Spans.f
 by_cases h : a.length = b.length
 ·simp only [if_pos (show (a.length : Int) = (b.length : Int) by omega)]
  exact Spans_l0 a b ha h a.length 0 (by omega)
 ·simp only [if_neg (show ¬ (a.length : Int) = (b.length : Int) by omega)]
  rw [decide_eq_false (fun e => h (by have := congrArg List.length e; rwa [toSt_len, toSt_len] at this))]; exact Ev.now _
theorem Ints_l0 (a b : List Int) (hl : a.length ≤ 1000) (hab : a.length = b.length) : ∀ (d i : Nat), i + d = a.length → Ev (fun k => rf_Ints.l0 k a b (i : Int)) (decide (a.drop i = b.drop i))
 | 0, i, h => by
  refine Ev.up ?_; simp only [rf_Ints.l0, if_neg (show ¬ (i : Int) < (a.length : Int) by omega)]; rw [List.drop_eq_nil_of_le (by omega), List.drop_eq_nil_of_le (by omega)]
  simpa using Ev.now true
 | d + 1, i, h => by
  refine Ev.up ?_; simp only [rf_Ints.l0, if_pos (show (i : Int) < (a.length : Int) by omega), if_pos (show (0 : Int) ≤ (i : Int) by omega), if_pos (show (i : Int) < (b.length : Int) by omega), wi i (by omega), rdI a i (by omega), rdI b i (by omega)]; rw [drop_dec a b i (by omega) (by omega)]
  by_cases hq : a[i] = b[i]
  ·rw [decide_eq_true hq, Bool.true_and]
   simp only [if_pos hq]; exact Ints_l0 a b hl hab d (i + 1) (by omega)
  ·rw [decide_eq_false hq, Bool.false_and]
   simp only [if_neg hq]; exact Ev.now _
theorem Ints_f (a b : List Int) (ha : a.length ≤ 1000) : Ev (fun k => rf_Ints.f k a b) (decide (a = b)) := by
 unfold rf_Ints.f
 by_cases h : a.length = b.length
 ·simp only [if_pos (show (a.length : Int) = (b.length : Int) by omega)]
  exact Ints_l0 a b ha h a.length 0 (by omega)
 ·simp only [if_neg (show ¬ (a.length : Int) = (b.length : Int) by omega)]
  rw [decide_eq_false (fun e => h (by rw [e]))]; exact Ev.now _
theorem Same_l0 (st : List S41) (wg : List S80) (hl : wg.length ≤ 1000) : ∀ (d i : Nat), i + d = wg.length → Ev (fun k => rf_Same.l0 k (i : Int) st wg st wg) true
 | 0, i, h => by
  refine Ev.up ?_; simp only [rf_Same.l0, if_neg (show ¬ (i : Int) < (wg.length : Int) by omega)]; exact Ev.now true
 | d + 1, i, h => by
  refine Ev.up ?_; simp only [rf_Same.l0, if_pos (show (i : Int) < (wg.length : Int) by omega), if_pos (show (0 : Int) ≤ (i : Int) by omega), wi i (by omega), beq_self_eq_true, Bool.not_true, Bool.or_self, Bool.false_eq_true, if_false]; exact Same_l0 st wg hl d (i + 1) (by omega)
theorem Same_f (st : List S41) (wg : List S80) (h0 : st.length ≤ 1000) (hl : wg.length ≤ 1000) : Ev (fun k => rf_Same.f k st wg st wg) true := by
 unfold rf_Same.f
 refine Ev.bind (Spans_f st st h0) ?_; simp only [decide_true, if_true, bne_self_eq_false]; refine Ev.up ?_; simp only [rf_Same.j0, Bool.false_eq_true, if_false]; exact Same_l0 st wg hl wg.length 0 (by omega)
theorem Least_f (s : Sp) (h : stB s) (w : Int) (hw : 0 ≤ w ∧ w ≤ 400) : rf_Least.f s.lo s.hi w = some (loS s w) := by
 obtain ⟨h0, h1, h2⟩ := h
 unfold rf_Least.f loS
 have e1 : 0 ≤ w * s.hi := Int.mul_nonneg hw.1 (by omega); have e2 : w * s.hi ≤ 400 * 300 := Int.mul_le_mul hw.2 h2 (by omega) (by omega)
 generalize w * s.hi = y at *
 rw [wr (x := y) (by omega), Int.tdiv_eq_ediv_of_nonneg (by omega), wr (x := y / 1000) (by omega), wr (x := y / 1000 * 1000) (by omega), wr (x := y / 1000 + 1) (by omega)]
 split
 ·rw [wr (by omega)]; congr 1; omega
 ·rw [wr (by omega)]; congr 1; omega
theorem Greatest_f (s : Sp) (h : stB s) (w : Int) (hw : 0 ≤ w ∧ w ≤ 400) : rf_Greatest.f s.lo s.hi w = some (hiS s w) := by
 obtain ⟨h0, h1, h2⟩ := h
 unfold rf_Greatest.f hiS
 have e1 : 0 ≤ w * s.lo := Int.mul_nonneg hw.1 (by omega); have e2 : w * s.lo ≤ 400 * 300 := Int.mul_le_mul hw.2 (by omega) (by omega) (by omega)
 generalize w * s.lo = y at *
 rw [wr (x := y) (by omega), Int.tdiv_eq_ediv_of_nonneg (by omega), wr (x := y / 1000) (by omega), wr (by omega)]
theorem Check_l1 (st : List S41) (wg : List S80) (hl : wg.length ≤ 1000) : ∀ (d i : Nat), i + d = wg.length → Ev (fun k => rf_Check.l1 k (i : Int) st wg) (if (toWg (wg.drop i)).any (wgBad st.length) then 2 else 0)
 | 0, i, h => by
  refine Ev.up ?_; simp only [rf_Check.l1, if_neg (show ¬ (i : Int) < (wg.length : Int) by omega)]; rw [List.drop_eq_nil_of_le (by omega)]; exact Ev.now _
 | d + 1, i, h => by
  refine Ev.up ?_
  have hi : i < wg.length := by omega
  simp only [rf_Check.l1, if_pos (show (i : Int) < (wg.length : Int) by omega), if_pos (show (0 : Int) ≤ (i : Int) by omega), wi i (by omega), rdW wg i hi, In_f, Option.bind_some]; have ih := Check_l1 st wg hl d (i + 1) (by omega); rw [List.drop_eq_getElem_cons hi]; have e : (toWg (wg[i] :: wg.drop (i + 1))).any (wgBad st.length) = (wgBad st.length ⟨wg[i].f0, wg[i].f1, wg[i].f2⟩ || (toWg (wg.drop (i + 1))).any (wgBad st.length)) := rfl; rw [e]
  unfold wgBad at ih ⊢
  cases h1 : inB 0 (st.length : Int) [wg[i].f0] <;> cases h2 : inB 0 400 [wg[i].f1] <;> cases h3 : inB 0 20 [wg[i].f2] <;> simp only [Bool.false_eq_true, if_false, if_true, Bool.not_true, Bool.not_false, Bool.or_true, Bool.true_or, Bool.or_false, Bool.false_or]
  all_goals first | exact Ev.now _ | exact ih
theorem Check_l0 (st : List S41) (wg : List S80) (hs : st.length ≤ 1000) (hl : wg.length ≤ 1000) : ∀ (d i : Nat), i + d = st.length → Ev (fun k => rf_Check.l0 k (i : Int) st wg) (if (toSt (st.drop i)).any stBad then 4 else if wg.length > 8 then 5 else if (toWg wg).any (wgBad st.length) then 2 else 0)
 | 0, i, h => by
  refine Ev.up ?_; simp only [rf_Check.l0, if_neg (show ¬ (i : Int) < (st.length : Int) by omega)]; rw [List.drop_eq_nil_of_le (by omega)]; have e : (toSt []).any stBad = false := rfl; rw [e]; simp only [Bool.false_eq_true, if_false]
  by_cases h8 : wg.length > 8
  ·simp only [if_pos h8, if_pos (show (wg.length : Int) > 8 by omega)]
   exact Ev.now _
  ·simp only [if_neg h8, if_neg (show ¬ (wg.length : Int) > 8 by omega)]
   have h9 := Check_l1 st wg hl wg.length 0 (by omega); rw [List.drop_zero] at h9; exact h9
 | d + 1, i, h => by
  refine Ev.up ?_
  have hi : i < st.length := by omega
  simp only [rf_Check.l0, if_pos (show (i : Int) < (st.length : Int) by omega), if_pos (show (0 : Int) ≤ (i : Int) by omega), wi i (by omega), rdA st i hi, In_f, Option.bind_some]; have ih := Check_l0 st wg hs hl d (i + 1) (by omega); rw [List.drop_eq_getElem_cons hi]; have e : (toSt (st[i] :: st.drop (i + 1))).any stBad = (stBad ⟨st[i].f0, st[i].f1⟩ || (toSt (st.drop (i + 1))).any stBad) := rfl; rw [e]
  have e2 : stBad ⟨st[i].f0, st[i].f1⟩ = !(inB 0 st[i].f1 [st[i].f0] && !decide (st[i].f1 > 300)) := by
   unfold stBad
   rw [Bool.eq_iff_iff]; simp only [Bool.or_eq_true, decide_eq_true_eq, Bool.not_eq_true', Bool.and_eq_false_iff, Bool.not_eq_false']
   have a1 : (inB 0 300 [st[i].f0, st[i].f1] = false) ↔ ¬ ((0 ≤ st[i].f0 ∧ st[i].f0 ≤ 300) ∧ (0 ≤ st[i].f1 ∧ st[i].f1 ≤ 300)) := by
    rw [← Bool.not_eq_true, inB_iff]
    simp
   have a2 : (inB 0 st[i].f1 [st[i].f0] = false) ↔ ¬ (0 ≤ st[i].f0 ∧ st[i].f0 ≤ st[i].f1) := by rw [← Bool.not_eq_true, inB_one]
   rw [a1, a2]; omega
  rw [e2]
  cases h1 : inB 0 st[i].f1 [st[i].f0]
  ·simp only [Bool.false_eq_true, if_false, Bool.false_and, Bool.not_false, Bool.true_or, if_true]
   exact Ev.now _
  ·by_cases h3 : st[i].f1 > 300
   ·simp only [h3, if_true, decide_true, Bool.not_true, Bool.and_false, Bool.not_false, Bool.true_or]
    exact Ev.now _
   ·simp only [h3, if_true, decide_false, Bool.not_false, Bool.and_true, Bool.not_true, Bool.false_or, if_false]
    exact ih
theorem Check_f (st : List S41) (wg : List S80) (hs : st.length ≤ 1000) (hl : wg.length ≤ 1000) : Ev (fun k => rf_Check.f k st wg) (roadE (toSt st) (toWg wg)) := by
 unfold rf_Check.f roadE
 simp only [In_f, Option.bind_some, toSt_len, toWg_len]
 cases h1 : inB 1 5 [(st.length : Int)]
 ·simp only [Bool.false_eq_true, if_false]
  exact Ev.now _
 ·simp only [if_true]
  have h9 := Check_l0 st wg hs hl st.length 0 (by omega); rw [List.drop_zero] at h9; exact h9
end Go.Proofs.YtemingmeidmjkaaDoor.Q
namespace Go.Proofs.YtemingmeidmjkaaDoor.Q
open Go.RowKit Go.Proofs.YtemingmeidmjkaaDoorW.PrintWords Go.Proofs.YtemingmeidmjkaaDoorW.PrintLast Go.Proofs.YtemingmeidmjkaaDoorW.PrintMore
attribute [local go_sem] max2_int min2_int max_two min_two max_three min_three max_four min_four   -- for this text's walks alone
set_option linter.unusedVariables false
set_option linter.unusedSimpArgs false
def rf_Step.f (l0_0 : List (S41)) (l0_1 : List (S80)) (a1 : Int) (a2 : Int) (a3 : Int) (a4 : Bool) : Option (Bool) := if a4 = true then (if 0 ≤ a1 then (if a1 < (l0_0.length : Int) then ((rf_Greatest.f ((rd_T41 l0_0 a1).f0) ((rd_T41 l0_0 a1).f1) a2).bind fun t191 => (some (decide (a3 < t191)))) else (none)) else (none)) else (if 0 ≤ a1 then (if a1 < (l0_0.length : Int) then ((rf_Least.f ((rd_T41 l0_0 a1).f0) ((rd_T41 l0_0 a1).f1) a2).bind fun t193 => ((rf_Greatest.f ((rd_T41 l0_0 a1).f0) ((rd_T41 l0_0 a1).f1) a2).bind fun t195 => ((rf_In.f a3 t193 t195).bind fun t196 => (some t196)))) else (none)) else (none))
def rf_Step.T3 : Bool × List (List Nat × List Nat) := (true, [([], []), ([], []), ([1], [1]), ([], []), ([2, 3], [2, 3]), ([4], [4]), ([], []), ([5, 6], [5, 6]), ([], []), ([8], [8]), ([], []), ([9, 10], [9, 10]), ([11], [11]), ([], []), ([12, 13, 7], [12, 13]), ([0, 7, 14, 14], [0, 7, 14]), ([15, 15, 0, 1, 2, 3, 4, 5, 6, 7, 8, 9, 10, 11, 12, 13, 14, 15], [15])])
def rf_Step.B3 : List Nat := [0, 0, 2, 0, 14, 30, 0, 126, 0, 256, 0, 1792, 3840, 0, 16382, 32767, 65535]
theorem rf_Step.tab3 : rtab .any (opsOf Tryd.f65 3) = rf_Step.T3 := by kernel_rfl
theorem rf_Step.bits3 : waitsOk rf_Step.T3.2 rf_Step.B3 = true := by kernel_rfl
set_option maxHeartbeats 8000000 in
set_option maxRecDepth 100000 in
theorem rf_Step.calls (A0_0 : Option Addr) (c0_0 : Nat) (l0_0 : List (S41)) (A0_1 : Option Addr) (c0_1 : Nat) (l0_1 : List (S80)) (a1 : Int) (a2 : Int) (a3 : Int) (a4 : Bool) (r : Bool) (w : World) (hr0_0 : Kd.C k41 w A0_0 l0_0.length l0_0) (hc0_0 : l0_0.length ≤ c0_0) (hr0_1 : Kd.C k80 w A0_1 l0_1.length l0_1) (hc0_1 : l0_1.length ≤ c0_1) (h : rf_Step.f l0_0 l0_1 a1 a2 a3 a4 = some r) :
  Calls Tryd.prog 65 #[.agg #[.slice A0_0 l0_0.length c0_0, .slice A0_1 l0_1.length c0_1], .int .i64 a1, .int .i64 a2, .int .i64 a3, .bool a4] w fun e w' => e = .returned (.bool r) ∧ Below w.heap.size w w' := by
 have hu25 := Tryd.underlying25; have hu41 := Tryd.underlying41; have HR0_0 := Aside0.mk hr0_0; have HC0_0 := Aside0.mk hc0_0; clear hr0_0 hc0_0; have HR0_1 := Aside0.mk hr0_1; have HC0_1 := Aside0.mk hc0_1; clear hr0_1 hc0_1; have HB := Aside0.mk (Below.refl w.heap.size w); have H : (if a4 = true then (if 0 ≤ a1 then (if a1 < (l0_0.length : Int) then ((rf_Greatest.f ((rd_T41 l0_0 a1).f0) ((rd_T41 l0_0 a1).f1) a2).bind fun t191 => (some (decide (a3 < t191)))) else (none)) else (none)) else (if 0 ≤ a1 then (if a1 < (l0_0.length : Int) then ((rf_Least.f ((rd_T41 l0_0 a1).f0) ((rd_T41 l0_0 a1).f1) a2).bind fun t193 => ((rf_Greatest.f ((rd_T41 l0_0 a1).f0) ((rd_T41 l0_0 a1).f1) a2).bind fun t195 => ((rf_In.f a3 t193 t195).bind fun t196 => (some t196)))) else (none)) else (none))) = some r := h; clear h
 by_cases c6 : a4 = true
 ·subst c6
  rw [if_pos rfl] at H
  by_cases c7 : 0 ≤ a1
  ·rw [if_pos c7] at H
   have c7b0 : decide (0 ≤ a1) = true := decide_eq_true c7; clear c7
   by_cases c8 : a1 < (l0_0.length : Int)
   ·rw [if_pos c8] at H
    have c8b0 : decide (a1 < (l0_0.length : Int)) = true := decide_eq_true c8; clear c8; obtain ⟨t191, A90, H⟩ := Option.bind_eq_some_iff.mp H; have A9 := Aside0.mk A90; clear A90; obtain rfl := Option.some.inj H
    go_enter Tryd.func65, Tryd.ntmps65
    go_wp2_with (first | ((with_reducible refine gate_dst (N := 5) rfl ?_); refine box_event ?hg (N := 5) ?hd (cs := #[.slice A0_0 l0_0.length c0_0, .slice A0_1 l0_1.length c0_1]) (t := 25) ?hr ?_; (case hd => rfl); (case hg => rfl); (case hr => first | (go_simp; done) | (go_simp; rfl)); intro gb189 hg w10 hbox hb; have BK189 := Aside0.mk (hbox); have GW189 := Aside0.mk (sqZ hg HB); have GE189 := Aside0.mk (sqZ hg HB); replace HB := sqb hb HB; clear hb hbox hg; have hcz11_0 := sqc0 BK189; have hcz11_1 := sqc1 BK189; have hfz11_0 := blk_frozen BK189.out 0; have hfz11_1 := blk_frozen BK189.out 1; have p190 : 0 ≤ (a1 : Int) := sqD; have q190 : a1 < (l0_0.length : Int) := sqD; obtain ⟨ad190, e190, hx190_0, hx190_1⟩ := at_T41 HR0_0.out a1 p190 q190; cases e190; replace hx190_0 := (HB.out.cell (World.block_lt_of_cell? w _ hx190_0)).trans hx190_0; replace hx190_1 := (HB.out.cell (World.block_lt_of_cell? w _ hx190_1)).trans hx190_1; replace p190 := eq_true p190; replace q190 := eq_true q190) | ((with_reducible refine gate_callee (f := 75) rfl ?_); refine goesL_ (some 19) rfl rfl Tryd.func75 sqF rfl #[.agg #[.int .i64 ((rd_T41 l0_0 a1).f0), .int .i64 ((rd_T41 l0_0 a1).f1)], .int .i64 a2] rfl sqM ?_; (with_reducible refine (rf_Greatest.calls ((rd_T41 l0_0 a1).f0) ((rd_T41 l0_0 a1).f1) a2 t191 _ A9.out).mono ?_); rintro e w12 ⟨rfl, hb⟩; refine ⟨_, rfl, ?_⟩; replace BK189 := sqk BK189 hb; replace HB := sqb hb HB; (try clear hb); (try clear hb2); (try clear hk); (try clear hi)))
    go_ret
    exact ⟨by first | rfl | (simp [errW_none, errW_some] <;> rfl) | (simp [*, errW_none, errW_some] <;> rfl), sqB HB⟩
   ·rw [if_neg c8] at H
    exact absurd H (by simp)
  ·rw [if_neg c7] at H
   exact absurd H (by simp)
 ·replace c6 := Bool.eq_false_iff.mpr c6
  subst c6; rw [if_neg Bool.false_ne_true] at H
  by_cases c13 : 0 ≤ a1
  ·rw [if_pos c13] at H
   have c13b0 : decide (0 ≤ a1) = true := decide_eq_true c13; clear c13
   by_cases c14 : a1 < (l0_0.length : Int)
   ·rw [if_pos c14] at H
    have c14b0 : decide (a1 < (l0_0.length : Int)) = true := decide_eq_true c14; clear c14; obtain ⟨t193, A150, H⟩ := Option.bind_eq_some_iff.mp H; have A15 := Aside0.mk A150; clear A150; obtain ⟨t195, A160, H⟩ := Option.bind_eq_some_iff.mp H; have A16 := Aside0.mk A160; clear A160; obtain ⟨t196, A170, H⟩ := Option.bind_eq_some_iff.mp H; have A17 := Aside0.mk A170; clear A170; obtain rfl := Option.some.inj H
    go_enter Tryd.func65, Tryd.ntmps65
    try go_wp2_with (first | ((with_reducible refine gate_dst (N := 5) rfl ?_); refine box_event ?hg (N := 5) ?hd (cs := #[.slice A0_0 l0_0.length c0_0, .slice A0_1 l0_1.length c0_1]) (t := 25) ?hr ?_; (case hd => rfl); (case hg => rfl); (case hr => first | (go_simp; done) | (go_simp; rfl)); intro gb189 hg w18 hbox hb; have BK189 := Aside0.mk (hbox); have GW189 := Aside0.mk (sqZ hg HB); have GE189 := Aside0.mk (sqZ hg HB); replace HB := sqb hb HB; clear hb hbox hg))
    have n0_ := Aside0.mk (blk_drew BK189.out); have n1_ := Aside0.mk (below_drew1 HB.out); clear BK189 HB; have BK189 := n0_; have HB := n1_; clear n0_ n1_; have p192 : 0 ≤ (a1 : Int) := sqD; have q192 : a1 < (l0_0.length : Int) := sqD; obtain ⟨ad192, e192, hx192_0, hx192_1⟩ := at_T41 HR0_0.out a1 p192 q192; have hw192_1 := hx192_1; have hw192_0 := hx192_0
    cases e192
    replace hx192_0 := (HB.out.cell (World.block_lt_of_cell? w _ hx192_0)).trans hx192_0; replace hx192_1 := (HB.out.cell (World.block_lt_of_cell? w _ hx192_1)).trans hx192_1; replace p192 := eq_true p192; replace q192 := eq_true q192; have p194 : 0 ≤ (a1 : Int) := sqD; have q194 : a1 < (l0_0.length : Int) := sqD; obtain ⟨ad194, e194, hx194_0, hx194_1⟩ := at_T41 HR0_0.out a1 p194 q194; have hw194_1 := hx194_1; have hw194_0 := hx194_0; obtain rfl : ad192 = ad194 := (by injection e194); replace hx194_0 := (HB.out.cell (World.block_lt_of_cell? w _ hx194_0)).trans hx194_0; replace hx194_1 := (HB.out.cell (World.block_lt_of_cell? w _ hx194_1)).trans hx194_1; replace p194 := eq_true p194; replace q194 := eq_true q194; refine start_ (n := 17) (S := fun w' => w'.cell? ⟨gb189, 0, none⟩ = some (.slice (some ad192) l0_0.length c0_0) ∧ w'.cell? ⟨gb189, 1, none⟩ = some (.slice A0_1 l0_1.length c0_1) ∧ w'.cell? (ad192.add ((a1).toNat * 2)) = some (.int .i64 ((rd_T41 l0_0 a1).f0)) ∧ w'.cell? ⟨(ad192.add ((a1).toNat * 2)).block, (ad192.add ((a1).toNat * 2)).off + 1, none⟩ = some (.int .i64 ((rd_T41 l0_0 a1).f1)) ∧ w'.cell? (ad192.add ((a1).toNat * 2)) = some (.int .i64 ((rd_T41 l0_0 a1).f0)) ∧ w'.cell? ⟨(ad192.add ((a1).toNat * 2)).block, (ad192.add ((a1).toNat * 2)).off + 1, none⟩ = some (.int .i64 ((rd_T41 l0_0 a1).f1))) (ds := []) (bm 17 0) sqF rfl rfl ⟨(blk_cell BK189.out 0).trans rfl, (blk_cell BK189.out 1).trans rfl, ((HB.out.cell (World.block_lt_of_cell? w _ hw192_0)).trans hw192_0), ((HB.out.cell (World.block_lt_of_cell? w _ hw192_1)).trans hw192_1), ((HB.out.cell (World.block_lt_of_cell? w _ hw194_0)).trans hw194_0), ((HB.out.cell (World.block_lt_of_cell? w _ hw194_1)).trans hw194_1)⟩ (fun hHeld => ?_); refine with_tabW rf_Step.tab3 rf_Step.bits3 (fun HT_ HW_ => ?_)
    generalize w18.drew = w19 at BK189 HB hx192_0 hx192_1 hx194_0 hx194_1 hHeld ⊢
    refine pure_ (i := 0) (N := some 21) (v := ?_) (a' := ?_) (bm 17 1) rfl rfl (any_of HT_.out sqF) (fun _ _ _ h => h) (Or.inl ⟨by rfl, ?_⟩) ?_ ?_; rotate_left; intro w'; go_simp; (with_reducible rfl); rotate_left; simp only [Act.put, sqA, i64_w, i32_w]; rfl; refine pure_ (i := 1) (N := some 22) (v := ?_) (a' := ?_) (bm 17 3) rfl rfl (any_of HT_.out sqF) (fun _ _ _ h => h) (Or.inl ⟨by rfl, ?_⟩) ?_ ?_; rotate_left; intro w'; go_simp; (with_reducible rfl); rotate_left; simp only [Act.put, sqA, i64_w, i32_w]; rfl; refine pure_ (i := 3) (N := some 24) (v := ?_) (a' := ?_) (bm 17 11) rfl rfl (any_of HT_.out sqF) (fun _ _ _ h => h) (Or.inl ⟨by rfl, ?_⟩) ?_ ?_; rotate_left; intro w'; go_simp; (with_reducible rfl); rotate_left; simp only [Act.put, sqA, i64_w, i32_w]; rfl; refine pure_ (i := 6) (N := some 27) (v := ?_) (a' := ?_) (bm 17 75) rfl rfl (any_of HT_.out sqF) (fun _ _ _ h => h) (Or.inl ⟨by rfl, ?_⟩) ?_ ?_; rotate_left; intro w'; go_simp; (with_reducible rfl); rotate_left; simp only [Act.put, sqA, i64_w, i32_w]; rfl; refine pure_ (i := 8) (N := some 29) (v := ?_) (a' := ?_) (bm 17 331) rfl rfl (any_of HT_.out sqF) (fun _ _ _ h => h) (Or.inl ⟨by rfl, ?_⟩) ?_ ?_; rotate_left; intro w'; go_simp; (with_reducible rfl); rotate_left; simp only [Act.put, sqA, i64_w, i32_w]; rfl; refine pure_ (i := 10) (N := some 31) (v := ?_) (a' := ?_) (bm 17 1355) rfl rfl (any_of HT_.out sqF) (fun _ _ _ h => h) (Or.inl ⟨by rfl, ?_⟩) ?_ ?_; rotate_left; intro w'; go_simp; (with_reducible rfl); rotate_left; simp only [Act.put, sqA, i64_w, i32_w]; rfl; refine pure_ (i := 13) (N := some 34) (v := ?_) (a' := ?_) (bm 17 9547) rfl rfl (any_of HT_.out sqF) (fun _ _ _ h => h) (Or.inl ⟨by rfl, ?_⟩) ?_ ?_; rotate_left; intro w'; go_simp; (with_reducible rfl); rotate_left; simp only [Act.put, sqA, i64_w, i32_w]; rfl; refine take_ (i := 2) (N := some 23) (v := ?_) (a' := ?_) (bm 17 9551) rfl rfl (take_ofW HT_.out HW_.out sqF) (fun _ _ _ h => h) (Or.inl ⟨by rfl, ?_⟩) hHeld ?_ ?_; rotate_left; rintro w' ⟨s0, s1, s2, s3, s4, s5⟩; go_simp; (with_reducible rfl); rotate_left; simp only [Act.put, sqA, i64_w, i32_w]; rfl; refine pure_ (i := 4) (N := some 25) (v := ?_) (a' := ?_) (bm 17 9567) rfl rfl (any_of HT_.out sqF) (fun _ _ _ h => h) (Or.inl ⟨by rfl, ?_⟩) ?_ ?_; rotate_left; intro w'; go_simp; (with_reducible rfl); rotate_left; simp only [Act.put, sqA, i64_w, i32_w]; rfl; refine take_ (i := 5) (N := some 26) (v := ?_) (a' := ?_) (bm 17 9599) rfl rfl (take_ofW HT_.out HW_.out sqF) (fun _ _ _ h => h) (Or.inl ⟨by rfl, ?_⟩) hHeld ?_ ?_; rotate_left; rintro w' ⟨s0, s1, s2, s3, s4, s5⟩; go_simp; (with_reducible rfl); rotate_left; simp only [Act.put, sqA, i64_w, i32_w]; rfl; refine take_ (i := 9) (N := some 30) (v := ?_) (a' := ?_) (bm 17 10111) rfl rfl (take_ofW HT_.out HW_.out sqF) (fun _ _ _ h => h) (Or.inl ⟨by rfl, ?_⟩) hHeld ?_ ?_; rotate_left; rintro w' ⟨s0, s1, s2, s3, s4, s5⟩; go_simp; (with_reducible rfl); rotate_left; simp only [Act.put, sqA, i64_w, i32_w]; rfl; refine pure_ (i := 11) (N := some 32) (v := ?_) (a' := ?_) (bm 17 12159) rfl rfl (any_of HT_.out sqF) (fun _ _ _ h => h) (Or.inl ⟨by rfl, ?_⟩) ?_ ?_; rotate_left; intro w'; go_simp; (with_reducible rfl); rotate_left; simp only [Act.put, sqA, i64_w, i32_w]; rfl
    refine take_ (i := 12) (N := some 33) (v := ?_) (a' := ?_) (bm 17 16255) rfl rfl (take_ofW HT_.out HW_.out sqF) (fun _ _ _ h => h) (Or.inl ⟨by rfl, ?_⟩) hHeld ?_ ?_; rotate_left; rintro w' ⟨s0, s1, s2, s3, s4, s5⟩; go_simp; (with_reducible rfl); rotate_left; simp only [Act.put, sqA, i64_w, i32_w]; rfl
    refine one_ (i := 7) (N := some 28) (bm 17 16383) rfl rfl (one_of HT_.out sqF) (by decide) (fun K hK => ?_); refine goes_ Tryd.func74 sqF rfl #[.agg #[.int .i64 ((rd_T41 l0_0 a1).f0), .int .i64 ((rd_T41 l0_0 a1).f1)], .int .i64 a2] (by rfl) rfl rfl sqM ?_
    with_reducible refine (rf_Least.calls ((rd_T41 l0_0 a1).f0) ((rd_T41 l0_0 a1).f1) a2 t193 _ A15.out).mono ?_
    rintro e w20 ⟨rfl, hb⟩; refine ⟨_, rfl, ?_⟩; have n0_ := Aside0.mk (blk_below (g := gb189) (o := .cells #[.slice (some ad192) l0_0.length c0_0, .slice A0_1 l0_1.length c0_1] 25 (0, 0)) (sqK BK189) hb); have n1_ := Aside0.mk (below_step (sqB HB) hb); clear BK189 HB; have BK189 := n0_; have HB := n1_; clear n0_ n1_; (try clear hb); (try clear hb2); (try clear hk); (try clear hi); refine hK.out _ _ ⟨(blk_cell BK189.out 0).trans rfl, (blk_cell BK189.out 1).trans rfl, ((HB.out.cell (World.block_lt_of_cell? w _ hw192_0)).trans hw192_0), ((HB.out.cell (World.block_lt_of_cell? w _ hw192_1)).trans hw192_1), ((HB.out.cell (World.block_lt_of_cell? w _ hw194_0)).trans hw194_0), ((HB.out.cell (World.block_lt_of_cell? w _ hw194_1)).trans hw194_1)⟩ (fun hHeld => ?_); clear hK K; refine norm_ (a' := ?_) ?_ ?_
    rotate_left
    ·show Act.put _ (some 28) _ = _
     simp only [Act.put, sqA, i64_w, i32_w]; rfl
    refine one_ (i := 14) (N := some 35) (bm 17 32767) rfl rfl (one_of HT_.out sqF) (by decide) (fun K hK => ?_); refine goes_ Tryd.func75 sqF rfl #[.agg #[.int .i64 ((rd_T41 l0_0 a1).f0), .int .i64 ((rd_T41 l0_0 a1).f1)], .int .i64 a2] (by rfl) rfl rfl sqM ?_
    with_reducible refine (rf_Greatest.calls ((rd_T41 l0_0 a1).f0) ((rd_T41 l0_0 a1).f1) a2 t195 _ A16.out).mono ?_
    rintro e w21 ⟨rfl, hb⟩; refine ⟨_, rfl, ?_⟩; have n0_ := Aside0.mk (blk_below (g := gb189) (o := .cells #[.slice (some ad192) l0_0.length c0_0, .slice A0_1 l0_1.length c0_1] 25 (0, 0)) (sqK BK189) hb); have n1_ := Aside0.mk (below_step (sqB HB) hb); clear BK189 HB; have BK189 := n0_; have HB := n1_; clear n0_ n1_; (try clear hb); (try clear hb2); (try clear hk); (try clear hi); refine hK.out _ _ ⟨(blk_cell BK189.out 0).trans rfl, (blk_cell BK189.out 1).trans rfl, ((HB.out.cell (World.block_lt_of_cell? w _ hw192_0)).trans hw192_0), ((HB.out.cell (World.block_lt_of_cell? w _ hw192_1)).trans hw192_1), ((HB.out.cell (World.block_lt_of_cell? w _ hw194_0)).trans hw194_0), ((HB.out.cell (World.block_lt_of_cell? w _ hw194_1)).trans hw194_1)⟩ (fun hHeld => ?_); clear hK K; refine norm_ (a' := ?_) ?_ ?_
    rotate_left
    ·show Act.put _ (some 35) _ = _
     simp only [Act.put, sqA, i64_w, i32_w]; rfl
    refine one_ (i := 15) (N := some 36) (bm 17 65535) rfl rfl (one_of HT_.out sqF) (by decide) (fun K hK => ?_); refine goes_ Tryd.func35 sqF rfl #[.int .i64 a3, .int .i64 t193, .int .i64 t195] (by rfl) rfl rfl sqM ?_
    with_reducible refine (rf_In.calls a3 t193 t195 t196 _ A17.out).mono ?_
    rintro e w' ⟨rfl, ⟨nd, rfl⟩⟩; refine ⟨_, rfl, ?_⟩; refine hK.out _ _ ⟨(blk_cell BK189.out 0).trans rfl, (blk_cell BK189.out 1).trans rfl, ((HB.out.cell (World.block_lt_of_cell? w _ hw192_0)).trans hw192_0), ((HB.out.cell (World.block_lt_of_cell? w _ hw192_1)).trans hw192_1), ((HB.out.cell (World.block_lt_of_cell? w _ hw194_0)).trans hw194_0), ((HB.out.cell (World.block_lt_of_cell? w _ hw194_1)).trans hw194_1)⟩ (fun hHeld => ?_); clear hK K; refine norm_ (a' := ?_) ?_ ?_
    rotate_left
    ·show Act.put _ (some 36) _ = _
     simp only [Act.put, sqA, i64_w, i32_w]; rfl
    refine pure_ (i := 16) (N := some 10) (v := ?_) (a' := ?_) (bm 17 131071) rfl rfl (any_of HT_.out sqF) (fun _ _ _ h => h) (Or.inl ⟨by rfl, ?_⟩) ?_ ?_; rotate_left; intro w'; go_simp; (with_reducible rfl); rotate_left; simp only [Act.put, sqA, i64_w, i32_w]; rfl
    refine done_ (done_of HT_.out sqF) ?_
    try go_wp2
    go_ret
    exact ⟨by first | rfl | (simp [errW_none, errW_some] <;> rfl) | (simp [*, errW_none, errW_some] <;> rfl), sqB HB⟩
   ·rw [if_neg c14] at H
    exact absurd H (by simp)
  ·rw [if_neg c13] at H
   exact absurd H (by simp)
end Go.Proofs.YtemingmeidmjkaaDoor.Q
namespace Go.Proofs.YtemingmeidmjkaaDoor.Q
open Go.RowKit Go.Proofs.YtemingmeidmjkaaDoorW.PrintWords Go.Proofs.YtemingmeidmjkaaDoorW.PrintLast Go.Proofs.YtemingmeidmjkaaDoorW.PrintMore
attribute [local go_sem] max2_int min2_int max_two min_two max_three min_three max_four min_four   -- for this text's walks alone
set_option linter.unusedVariables false
set_option linter.unusedSimpArgs false
mutual
def rf_Sets.l0 : Nat → Int → Int → List (List Bool) → Int → List (S41) → List (S80) → Option ((List (List Bool)))
 | 0, _, _, _, _, _, _ => none
 | k + 1, x1, x5, x6, x7, x198000, x198001 => if x7 < x5 then (if 401 ≤ 281474976710656 then (rf_Sets.l1 k x1 x5 x6 x7 (List.replicate 401 false) 0 x198000 x198001) else (none)) else (rf_Sets.l5 k x1 x6 (wrap64 (x5 - 2)) x198000 x198001)
def rf_Sets.l1 : Nat → Int → Int → List (List Bool) → Int → List Bool → Int → List (S41) → List (S80) → Option ((List (List Bool)))
 | 0, _, _, _, _, _, _, _, _ => none
 | k + 1, x1, x5, x6, x7, x8, x9, x198000, x198001 => if x9 ≤ 400 then (if x7 = 0 then ((rf_Fits.f k x198000 x198001 0 x9).bind fun t204 => (if 0 ≤ x9 then (if x9 < (x8.length : Int) then (rf_Sets.l1 k x1 x5 x6 x7 (x8.set (x9 : Int).toNat t204) (wrap64 (x9 + 1)) x198000 x198001) else (none)) else (none))) else (if 0 ≤ x9 then (if x9 < (x8.length : Int) then (rf_Sets.l1 k x1 x5 x6 x7 (x8.set (x9 : Int).toNat false) (wrap64 (x9 + 1)) x198000 x198001) else (none)) else (none))) else (rf_Sets.l2 k x1 x5 x6 x7 x8 0 x198000 x198001)
def rf_Sets.l2 : Nat → Int → Int → List (List Bool) → Int → List Bool → Int → List (S41) → List (S80) → Option ((List (List Bool)))
 | 0, _, _, _, _, _, _, _, _ => none
 | k + 1, x1, x5, x6, x7, x8, x10, x198000, x198001 => if x10 ≤ 400 then (rf_Sets.j3 k x1 x5 x6 x7 x8 x10 (decide (x7 > 0)) x198000 x198001) else (rf_Sets.j3 k x1 x5 x6 x7 x8 x10 false x198000 x198001)
def rf_Sets.j3 : Nat → Int → Int → List (List Bool) → Int → List Bool → Int → Bool → List (S41) → List (S80) → Option ((List (List Bool)))
 | 0, _, _, _, _, _, _, _, _, _ => none
 | k + 1, x1, x5, x6, x7, x8, x10, x47, x198000, x198001 => if x47 = true then (rf_Sets.l3 k x1 x5 x6 x7 x8 x10 0 x198000 x198001) else (rf_Sets.l4 k x1 x5 x6 x7 x8 0 x198000 x198001)
def rf_Sets.l3 : Nat → Int → Int → List (List Bool) → Int → List Bool → Int → Int → List (S41) → List (S80) → Option ((List (List Bool)))
 | 0, _, _, _, _, _, _, _, _, _ => none
 | k + 1, x1, x5, x6, x7, x8, x10, x11, x198000, x198001 => if x11 ≤ x10 then (if 0 ≤ (wrap64 (x7 - 1)) then (if (wrap64 (x7 - 1)) < (x6.length : Int) then (if 0 ≤ x10 then (if x10 < ((rd_L9 x6 (wrap64 (x7 - 1))).length : Int) then (if rdOf false (rd_L9 x6 (wrap64 (x7 - 1))) x10 = true then (if 0 ≤ x11 then (if x11 < (x8.length : Int) then (if rdOf false x8 x11 = true then (rf_Sets.l3 k x1 x5 x6 x7 (x8.set (x11 : Int).toNat true) x10 (wrap64 (x11 + 1)) x198000 x198001) else ((rf_Step.f x198000 x198001 (wrap64 (x7 - 1)) x10 x11 ((wrap64 (x7 - 1)) == x1)).bind fun t211 => (rf_Sets.l3 k x1 x5 x6 x7 (x8.set (x11 : Int).toNat t211) x10 (wrap64 (x11 + 1)) x198000 x198001))) else (none)) else (none)) else (rf_Sets.l2 k x1 x5 x6 x7 x8 (wrap64 (x10 + 1)) x198000 x198001)) else (none)) else (none)) else (none)) else (none)) else (rf_Sets.l2 k x1 x5 x6 x7 x8 (wrap64 (x10 + 1)) x198000 x198001)
def rf_Sets.l4 : Nat → Int → Int → List (List Bool) → Int → List Bool → Int → List (S41) → List (S80) → Option ((List (List Bool)))
 | 0, _, _, _, _, _, _, _, _ => none
 | k + 1, x1, x5, x6, x7, x8, x12, x198000, x198001 => if x12 ≤ 400 then (if 0 ≤ x12 then (if x12 < (x8.length : Int) then (if rdOf false x8 x12 = true then ((rf_Fits.f k x198000 x198001 x7 x12).bind fun t214 => (rf_Sets.l4 k x1 x5 x6 x7 (x8.set (x12 : Int).toNat t214) (wrap64 (x12 + 1)) x198000 x198001)) else (rf_Sets.l4 k x1 x5 x6 x7 (x8.set (x12 : Int).toNat false) (wrap64 (x12 + 1)) x198000 x198001)) else (none)) else (none)) else (if x6.length < 5864062014805 then (rf_Sets.l0 k x1 x5 (x6 ++ [x8]) (wrap64 (x7 + 1)) x198000 x198001) else (none))
def rf_Sets.l5 : Nat → Int → List (List Bool) → Int → List (S41) → List (S80) → Option ((List (List Bool)))
 | 0, _, _, _, _, _ => none
 | k + 1, x1, x6, x13, x198000, x198001 => if x13 ≥ 0 then (rf_Sets.l6 k x1 x6 x13 0 x198000 x198001) else (some x6)
def rf_Sets.l6 : Nat → Int → List (List Bool) → Int → Int → List (S41) → List (S80) → Option ((List (List Bool)))
 | 0, _, _, _, _, _, _ => none
 | k + 1, x1, x6, x13, x14, x198000, x198001 => if x14 ≤ 400 then (rf_Sets.l7 k x1 x6 x13 x14 false 0 x198000 x198001) else (rf_Sets.l5 k x1 x6 (wrap64 (x13 - 1)) x198000 x198001)
def rf_Sets.l7 : Nat → Int → List (List Bool) → Int → Int → Bool → Int → List (S41) → List (S80) → Option ((List (List Bool)))
 | 0, _, _, _, _, _, _, _, _ => none
 | k + 1, x1, x6, x13, x14, x15, x16, x198000, x198001 => if x16 ≤ x14 then (if 0 ≤ x13 then (if x13 < (x6.length : Int) then (if 0 ≤ x14 then (if x14 < ((rd_L9 x6 x13).length : Int) then (if rdOf false (rd_L9 x6 x13) x14 = true then (if x15 = true then (rf_Sets.l6 k x1 (x6.set (x13 : Int).toNat ((rd_L9 x6 x13).set (x14 : Int).toNat x15)) x13 (wrap64 (x14 + 1)) x198000 x198001) else (if 0 ≤ (wrap64 (x13 + 1)) then (if (wrap64 (x13 + 1)) < (x6.length : Int) then (if 0 ≤ x16 then (if x16 < ((rd_L9 x6 (wrap64 (x13 + 1))).length : Int) then (if rdOf false (rd_L9 x6 (wrap64 (x13 + 1))) x16 = true then ((rf_Step.f x198000 x198001 x13 x14 x16 (x13 == x1)).bind fun t228 => (rf_Sets.l7 k x1 x6 x13 x14 t228 (wrap64 (x16 + 1)) x198000 x198001)) else (rf_Sets.l7 k x1 x6 x13 x14 false (wrap64 (x16 + 1)) x198000 x198001)) else (none)) else (none)) else (none)) else (none))) else (rf_Sets.l6 k x1 (x6.set (x13 : Int).toNat ((rd_L9 x6 x13).set (x14 : Int).toNat x15)) x13 (wrap64 (x14 + 1)) x198000 x198001)) else (none)) else (none)) else (none)) else (none)) else (if 0 ≤ x13 then (if x13 < (x6.length : Int) then (if 0 ≤ x14 then (if x14 < ((rd_L9 x6 x13).length : Int) then (rf_Sets.l6 k x1 (x6.set (x13 : Int).toNat ((rd_L9 x6 x13).set (x14 : Int).toNat x15)) x13 (wrap64 (x14 + 1)) x198000 x198001) else (none)) else (none)) else (none)) else (none))
end
def rf_Sets.f (k : Nat) (l0_0 : List (S41)) (l0_1 : List (S80)) (a1 : Int) : Option ((List (List Bool))) := rf_Sets.l0 k a1 (wrap64 ((l0_0.length : Int) + 1)) (([] : List (List Bool))) 0 l0_0 l0_1
set_option maxHeartbeats 8000000 in
set_option maxRecDepth 100000 in
theorem rf_Sets.calls (k : Nat) (A0_0 : Option Addr) (c0_0 : Nat) (l0_0 : List (S41)) (A0_1 : Option Addr) (c0_1 : Nat) (l0_1 : List (S80)) (a1 : Int) (r : List (List Bool)) (w : World) (hr0_0 : Kd.C k41 w A0_0 l0_0.length l0_0) (hc0_0 : l0_0.length ≤ c0_0) (hr0_1 : Kd.C k80 w A0_1 l0_1.length l0_1) (hc0_1 : l0_1.length ≤ c0_1) (h : rf_Sets.f k l0_0 l0_1 a1 = some r) :
  Calls Tryd.prog 24 #[.agg #[.slice A0_0 l0_0.length c0_0, .slice A0_1 l0_1.length c0_1], .int .i64 a1] w fun e w' => ∃ v0_ : Value, e = .returned (v0_) ∧ Kd.S (Kd.slice 4 Kd.bool) 104 w' w.heap.size (fun _ => True) v0_ r ∧ Below w.heap.size w w' := by
 have hu25 := Tryd.underlying25; have HR0_0 := Aside0.mk hr0_0; have HC0_0 := Aside0.mk hc0_0; clear hr0_0 hc0_0; have HR0_1 := Aside0.mk hr0_1; have HC0_1 := Aside0.mk hc0_1; clear hr0_1 hc0_1; have HB := Aside0.mk (Below.refl w.heap.size w); have H : (rf_Sets.l0 k a1 (wrap64 ((l0_0.length : Int) + 1)) (([] : List (List Bool))) 0 l0_0 l0_1) = some r := h; clear h; replace H : ∃ y_ : List (List Bool), y_ = (([] : List (List Bool))) ∧ (rf_Sets.l0 k a1 (wrap64 ((l0_0.length : Int) + 1)) y_ 0 l0_0 l0_1) = some r := ⟨_, rfl, sqJ H⟩; obtain ⟨y198, hy198, H⟩ := H; have Ny198 := Aside0.mk hy198; clear hy198; have H' := Aside0.mk H; clear H; go_enter Tryd.func24, Tryd.ntmps24
 go_wp2_with (first | ((with_reducible refine gate_dst (N := 2) rfl ?_); refine box_event ?hg (N := 2) ?hd (cs := #[.slice A0_0 l0_0.length c0_0, .slice A0_1 l0_1.length c0_1]) (t := 25) ?hr ?_; (case hd => rfl); (case hg => rfl); (case hr => first | (go_simp; done) | (go_simp; rfl)); intro gb197 hg w3 hbox hb; have BK197 := Aside0.mk (hbox); have GW197 := Aside0.mk (sqZ hg HB); have GE197 := Aside0.mk (sqZ hg HB); replace HB := sqb hb HB; clear hb hbox hg; have hcz4_0 := sqc0 BK197; have hcz4_1 := sqc1 BK197; have hfz4_0 := blk_frozen BK197.out 0; have hfz4_1 := blk_frozen BK197.out 1) | ((with_reducible refine gate_dst (N := 21) rfl ?_); refine Kd.S_lit (Kd.slice 4 Kd.bool) _ 104 ?hg (N := 21) ?hd (xs := ([] : List (List Bool))) (inner := []) (ok := fun _ => True) (okp := fun _ => True) ?hr ?hp (fun _ hk => hk) trivial (Below.refl _ _) (Nat.le_refl _) (by simp) ?_; (case hd => rfl); (case hg => rfl); (case hr => first | (go_simp; done) | (go_simp; rfl)); (case hp => exact (Reps.none _ _)); intro v199 w5 ho6 hb hg_ hnew_; clear hg_ hnew_; (first | rw [← Ny198.out] at ho6 | (simp only [Int.reduceToNat] at ho6; rw [← Ny198.out] at ho6)); have HO200 := Aside0.mk (Kd.S_lower ho6 (below_size (sqB HB))); replace BK197 := sqk BK197 hb; replace HB := sqb hb HB; clear hb ho6))
 go_loopg [6, 7] k (fun kq v6 v7 w' => ∃ (x6_1 : List (List Bool)) (x7_1 : Int), v7 = .int .i64 x7_1 ∧ Aside0 (rf_Sets.l0 kq a1 (wrap64 ((l0_0.length : Int) + 1)) x6_1 x7_1 l0_0 l0_1 = some r) ∧ Aside0 (kq ≤ k) ∧ Aside0 (Kd.S (Kd.slice 4 Kd.bool) 104 w' w.heap.size (fun _ => True) v6 x6_1) ∧ Aside0 (w'.heap[gb197]? = some (.cells #[(.slice A0_0 l0_0.length c0_0), (.slice A0_1 l0_1.length c0_1)] 25 (0, 0))) ∧ Aside0 (Below w.heap.size w w'))
 case atStart => exact ⟨(y198), (0), sqE, H', ⟨Nat.le_refl _⟩, ⟨sqS HO200⟩, ⟨sqK BK197⟩, ⟨sqB HB⟩⟩
 case round =>
  clear H'; try clear hcz4_0
  (try clear hcz4_1); (try clear hfz4_0); (try clear hfz4_1); obtain ⟨x6_1, x7_1, rfl, HA, HK1, HO_6, BK197, HB⟩ := hrel
  cases gk with
  | zero => exact absurd HA.out (by simp [rf_Sets.l0])
  | succ k1 =>
   have H := HA.out; clear HA; simp only [rf_Sets.l0] at H
   by_cases c7 : x7_1 < (wrap64 ((l0_0.length : Int) + 1))
   ·rw [if_pos c7] at H
    have c7b0 : decide (x7_1 < (wrap64 ((l0_0.length : Int) + 1))) = true := decide_eq_true c7; clear c7
    by_cases c8 : 401 ≤ 281474976710656
    ·rw [if_pos c8] at H
     have c8b0 := eq_true c8; have c8b1 : decide (401 ≤ 281474976710656) = true := decide_eq_true c8; clear c8; replace H : ∃ y_ : List Bool, y_ = (List.replicate 401 false) ∧ (rf_Sets.l1 k1 a1 (wrap64 ((l0_0.length : Int) + 1)) x6_1 x7_1 y_ 0 l0_0 l0_1) = some r := ⟨_, rfl, sqJ H⟩; obtain ⟨y201, hy201, H⟩ := H; have Ny201 := Aside0.mk hy201; clear hy201; have H' := Aside0.mk H; clear H; go_wp2_with (first | ((with_reducible refine gate_dst (N := 27) rfl ?_); refine Kd.R_make Kd.bool _ 4 rfl (N := 27) rfl 104 _ _ rfl 401 rfl rfl Tryd.underlying104 (.bool false) 1 info4 rfl (by decide) (by omega) false (ok := fun _ => True) (okp := fun _ => True) rfl (fun _ hk => hk) trivial (by omega) (by omega) (Below.refl _ _) (Nat.le_refl _) ?_; intro v202 w9 ho10 hb hg_ hnew_; clear hg_ hnew_; (first | rw [← Ny201.out] at ho10 | (simp only [Int.reduceToNat] at ho10; rw [← Ny201.out] at ho10)); replace HO_6 := Aside0.mk (Kd.S_elder' (sqS HO_6) (Kd.R_base ho10) hb); have HO203 := Aside0.mk (Kd.R_lower ho10 (below_size (sqB HB))); replace BK197 := sqk BK197 hb; replace HB := sqb hb HB; clear hb ho10))
     go_loopg [9] k1 (fun kq v9 w' => ∃ (x8_2 : List Bool) (x9_2 : Int), v9 = .int .i64 x9_2 ∧ Aside0 (rf_Sets.l1 kq a1 (wrap64 ((l0_0.length : Int) + 1)) x6_1 x7_1 x8_2 x9_2 l0_0 l0_1 = some r) ∧ Aside0 (kq ≤ k1) ∧ Aside0 (Kd.S (Kd.slice 4 Kd.bool) 104 w' w.heap.size (fun k_ => some k_ ≠ (v202 : Value).ownBlock) u6 x6_1) ∧ Aside0 (Kd.R Kd.bool 4 w' w.heap.size (fun _ => True) v202 x8_2) ∧ Aside0 (w'.heap[gb197]? = some (.cells #[(.slice A0_0 l0_0.length c0_0), (.slice A0_1 l0_1.length c0_1)] 25 (0, 0))) ∧ Aside0 (Below w.heap.size w w'))
     case atStart => exact ⟨(y201), (0), sqE, H', ⟨Nat.le_refl _⟩, ⟨by (with_reducible repeat (first | apply Kd.S_alloc | apply Kd.S_drewN | apply Kd.S_drew)); exact Kd.S_mono HO_6.out (fun _ hk => hk.2)⟩, ⟨sqR HO203⟩, ⟨sqK BK197⟩, ⟨sqB HB⟩⟩
     case round =>
      clear H'; try clear c7b0
      (try clear c8b0); (try clear c8b1); obtain ⟨x8_2, x9_2, rfl, HA, HK2, HO_6, HO_8, BK197, HB⟩ := hrel
      cases gk with
      | zero => exact absurd HA.out (by simp [rf_Sets.l1])
      | succ k2 =>
       have H := HA.out; clear HA; simp only [rf_Sets.l1] at H
       by_cases c11 : x9_2 ≤ 400
       ·rw [if_pos c11] at H
        have c11b0 : decide (x9_2 ≤ 400) = true := decide_eq_true c11; clear c11
        by_cases c12 : x7_1 = 0
        ·rw [if_pos c12] at H
         have c12b0 : (x7_1 == 0) = true := beq_iff_eq.mpr c12; have c12b1 : (x7_1 != 0) = false := bne_eq_false_iff_eq.mpr c12; clear c12; obtain ⟨t204, A130, H⟩ := Option.bind_eq_some_iff.mp H; have A13 := Aside0.mk A130; clear A130
         by_cases c14 : 0 ≤ x9_2
         ·rw [if_pos c14] at H
          have c14b0 : decide (0 ≤ x9_2) = true := decide_eq_true c14; clear c14
          by_cases c15 : x9_2 < (x8_2.length : Int)
          ·rw [if_pos c15] at H
           have c15b0 : decide (x9_2 < (x8_2.length : Int)) = true := decide_eq_true c15; clear c15; replace H : ∃ y_ : List Bool, y_ = (x8_2.set (x9_2 : Int).toNat t204) ∧ (rf_Sets.l1 k2 a1 (wrap64 ((l0_0.length : Int) + 1)) x6_1 x7_1 y_ (wrap64 (x9_2 + 1)) l0_0 l0_1) = some r := ⟨_, rfl, sqJ H⟩; obtain ⟨y205, hy205, H⟩ := H; have Ny205 := Aside0.mk hy205; clear hy205; have H' := Aside0.mk H; clear H; have hcz17_0 := sqc0 BK197; have hcz17_1 := sqc1 BK197; have hfz17_0 := blk_frozen BK197.out 0; have hfz17_1 := blk_frozen BK197.out 1
           go_wp2_with (first | (go_at_call 64; (with_reducible refine (rf_Fits.calls k2 _ _ l0_0 _ _ l0_1 0 x9_2 t204 _ ?side1 ?side2 ?side3 ?side4 A13.out).mono ?_); (case side1 => exact sqQ HR0_0 HB); (case side2 => exact HC0_0.out); (case side3 => exact sqQ HR0_1 HB); (case side4 => exact HC0_1.out); rintro e w18 ⟨rfl, hb⟩; replace HO_6 := Aside0.mk (Kd.S_below (sqS HO_6) hb); replace HO_8 := Aside0.mk (Kd.R_below (sqR HO_8) hb); replace BK197 := sqk BK197 hb; replace HB := sqb hb HB; (try clear hb); (try clear hb2); (try clear hk); (try clear hi); have p16 : 0 ≤ (x9_2 : Int) := sqD; have q16 : (x9_2 : Int) < ((x8_2.length : Int) : Int) := sqD; obtain ⟨go16, co16, eo16, gb16, gl16, cl16, HG16⟩ := Kd.R_form HO_8.out (by omega); (first | cases eo16 | (injection eo16 with ea_ en_ ec_; (first | subst ea_ | (injection ea_ with ea_; subst ea_)); subst ec_; clear en_)); have GB16 := Aside0.mk gb16; have GG16 := Aside0.mk HG16; clear gb16 gl16 HG16; obtain ⟨hx16_0, hf16_0⟩ := Kd.R_celln false HO_8.out (x9_2 : Int) p16 q16; replace p16 := eq_true p16; replace q16 := eq_true q16; obtain ⟨hy19_, hz19_⟩ := Kd.R_celln false HO_8.out (x9_2 : Int) (sqD) (sqD); have HP19 := Kd.R_putg HO_8.out (x9_2 : Int) t204) | ((with_reducible refine gate_store (t := 4) (p := 41) rfl ?_); refine store_event (t := 4) (p := 41) (v := ?vo_w20) (w1 := (w18.setCell ⟨go16, (x9_2 : Int).toNat, none⟩ (.bool t204))) ?hg ?ho ?hn ?hr ?_; (case ho => rfl); (case hg => rfl); (case hn => rfl); (case hr => first | (go_simp; done) | (go_simp; rfl)); intro w20 hw; have hg : w18.grownBy w20 (some go16) := (by rw [hw]; exact HP19.2); have hp_ : Kd.R Kd.bool 4 w20 w.heap.size (fun _ => True) (.slice (some ⟨go16, 0, none⟩) x8_2.length co16) y205 := (by rw [hw, Ny205.out]; exact HP19.1); clear HP19; replace HO_6 := Aside0.mk (Kd.S_after (v := (.slice (some ⟨go16, 0, none⟩) x8_2.length co16)) (v1 := (.slice (some ⟨go16, 0, none⟩) x8_2.length co16)) (ok := (fun _ => True)) (by (with_reducible repeat (first | apply Kd.S_alloc | apply Kd.S_drewN | apply Kd.S_drew)); exact Kd.S_mono HO_6.out (fun _ hk => ⟨trivial, hk⟩)) hg (.inl rfl)); replace BK197 := Aside0.mk (blk_grown (g := gb197) (o := .cells #[.slice A0_0 l0_0.length c0_0, .slice A0_1 l0_1.length c0_1] 25 (0, 0)) (sqK BK197) hg (Kd.R_ne HO_8.out BK197.out (by decide))); replace HO_8 := Aside0.mk (hp_); replace HB := Aside0.mk (by rw [hw]; exact below_set (HB.out) GB16.out : Below w.heap.size w w20); clear hg hw hp_))
           go_roundg k2
           case measure => have := HK1.out; have := HK2.out; omega
           case rel => exact ⟨(y205), (wrap64 (x9_2 + 1)), sqE, H', ⟨by have := HK1.out; have := HK2.out; omega⟩, ⟨by (with_reducible repeat (first | apply Kd.S_alloc | apply Kd.S_drewN | apply Kd.S_drew)); exact Kd.S_mono HO_6.out (fun _ hk => hk.2)⟩, ⟨sqR HO_8⟩, ⟨sqK BK197⟩, ⟨sqB HB⟩⟩
          ·rw [if_neg c15] at H
           exact absurd H (by simp)
         ·rw [if_neg c14] at H
          exact absurd H (by simp)
        ·rw [if_neg c12] at H
         have c12b0 : (x7_1 == 0) = false := beq_eq_false_iff_ne.mpr c12; have c12b1 : (x7_1 != 0) = true := bne_iff_ne.mpr c12
         by_cases c21 : 0 ≤ x9_2
         ·rw [if_pos c21] at H
          have c21b0 : decide (0 ≤ x9_2) = true := decide_eq_true c21; clear c21
          by_cases c22 : x9_2 < (x8_2.length : Int)
          ·rw [if_pos c22] at H
           have c22b0 : decide (x9_2 < (x8_2.length : Int)) = true := decide_eq_true c22; clear c22; replace H : ∃ y_ : List Bool, y_ = (x8_2.set (x9_2 : Int).toNat false) ∧ (rf_Sets.l1 k2 a1 (wrap64 ((l0_0.length : Int) + 1)) x6_1 x7_1 y_ (wrap64 (x9_2 + 1)) l0_0 l0_1) = some r := ⟨_, rfl, sqJ H⟩; obtain ⟨y206, hy206, H⟩ := H; have Ny206 := Aside0.mk hy206; clear hy206; have H' := Aside0.mk H; clear H; have p23 : 0 ≤ (x9_2 : Int) := sqD; have q23 : (x9_2 : Int) < ((x8_2.length : Int) : Int) := sqD; obtain ⟨go23, co23, eo23, gb23, gl23, cl23, HG23⟩ := Kd.R_form HO_8.out (by omega)
           (first | cases eo23 | (injection eo23 with ea_ en_ ec_; (first | subst ea_ | (injection ea_ with ea_; subst ea_)); subst ec_; clear en_))
           have GB23 := Aside0.mk gb23; have GG23 := Aside0.mk HG23; clear gb23 gl23 HG23; obtain ⟨hx23_0, hf23_0⟩ := Kd.R_celln false HO_8.out (x9_2 : Int) p23 q23; replace p23 := eq_true p23; replace q23 := eq_true q23; have HP24 := Kd.R_putg HO_8.out (x9_2 : Int) false
           go_wp2_with (first | ((with_reducible refine gate_store (t := 4) (p := 41) rfl ?_); refine store_event (t := 4) (p := 41) (v := ?vo_w25) (w1 := (wr.setCell ⟨go23, (x9_2 : Int).toNat, none⟩ (.bool false))) ?hg ?ho ?hn ?hr ?_; (case ho => rfl); (case hg => rfl); (case hn => rfl); (case hr => first | (go_simp; done) | (go_simp; rfl)); intro w25 hw; have hg : wr.grownBy w25 (some go23) := (by rw [hw]; exact HP24.2); have hp_ : Kd.R Kd.bool 4 w25 w.heap.size (fun _ => True) (.slice (some ⟨go23, 0, none⟩) x8_2.length co23) y206 := (by rw [hw, Ny206.out]; exact HP24.1); clear HP24; replace HO_6 := Aside0.mk (Kd.S_after (v := (.slice (some ⟨go23, 0, none⟩) x8_2.length co23)) (v1 := (.slice (some ⟨go23, 0, none⟩) x8_2.length co23)) (ok := (fun _ => True)) (by (with_reducible repeat (first | apply Kd.S_alloc | apply Kd.S_drewN | apply Kd.S_drew)); exact Kd.S_mono HO_6.out (fun _ hk => ⟨trivial, hk⟩)) hg (.inl rfl)); replace BK197 := Aside0.mk (blk_grown (g := gb197) (o := .cells #[.slice A0_0 l0_0.length c0_0, .slice A0_1 l0_1.length c0_1] 25 (0, 0)) (sqK BK197) hg (Kd.R_ne HO_8.out BK197.out (by decide))); replace HO_8 := Aside0.mk (hp_); replace HB := Aside0.mk (by rw [hw]; exact below_set (HB.out) GB23.out : Below w.heap.size w w25); clear hg hw hp_))
           go_roundg k2
           case measure => have := HK1.out; have := HK2.out; omega
           case rel => exact ⟨(y206), (wrap64 (x9_2 + 1)), sqE, H', ⟨by have := HK1.out; have := HK2.out; omega⟩, ⟨by (with_reducible repeat (first | apply Kd.S_alloc | apply Kd.S_drewN | apply Kd.S_drew)); exact Kd.S_mono HO_6.out (fun _ hk => hk.2)⟩, ⟨sqR HO_8⟩, ⟨sqK BK197⟩, ⟨sqB HB⟩⟩
          ·rw [if_neg c22] at H
           exact absurd H (by simp)
         ·rw [if_neg c21] at H
          exact absurd H (by simp)
       ·rw [if_neg c11] at H
        have c11b0 : decide (x9_2 ≤ 400) = false := decide_eq_false c11; clear c11; have H' := Aside0.mk H; clear H; go_wp2
        go_loopg [10] k2 (fun kq v10 w' => ∃ (x8_3 : List Bool) (x10_3 : Int), v10 = .int .i64 x10_3 ∧ Aside0 (rf_Sets.l2 kq a1 (wrap64 ((l0_0.length : Int) + 1)) x6_1 x7_1 x8_3 x10_3 l0_0 l0_1 = some r) ∧ Aside0 (kq ≤ k2) ∧ Aside0 (Kd.S (Kd.slice 4 Kd.bool) 104 w' w.heap.size (fun k_ => some k_ ≠ (v202 : Value).ownBlock) u6 x6_1) ∧ Aside0 (Kd.R Kd.bool 4 w' w.heap.size (fun _ => True) v202 x8_3) ∧ Aside0 (w'.heap[gb197]? = some (.cells #[(.slice A0_0 l0_0.length c0_0), (.slice A0_1 l0_1.length c0_1)] 25 (0, 0))) ∧ Aside0 (Below w.heap.size w w'))
        case atStart => exact ⟨(x8_2), (0), sqE, H', ⟨Nat.le_refl _⟩, ⟨sqS HO_6⟩, ⟨sqR HO_8⟩, ⟨sqK BK197⟩, ⟨sqB HB⟩⟩
        case round =>
         clear H'; try clear c11b0
         obtain ⟨x8_3, x10_3, rfl, HA, HK3, HO_6, HO_8, BK197, HB⟩ := hrel
         cases gk with
         | zero => exact absurd HA.out (by simp [rf_Sets.l2])
         | succ k3 =>
          have H := HA.out; clear HA; simp only [rf_Sets.l2] at H; have HC26 := Aside0.mk H
          clear H; go_upto_region 12 with (fail)
          go_cut [47] (fun v47 wc => ∃ (kq : Nat) (x47_25 : Bool), v47 = .bool x47_25 ∧ Aside0 (rf_Sets.j3 kq a1 (wrap64 ((l0_0.length : Int) + 1)) x6_1 x7_1 x8_3 x10_3 x47_25 l0_0 l0_1 = some r) ∧ Aside0 (kq ≤ k3) ∧ Aside0 (Kd.S (Kd.slice 4 Kd.bool) 104 wc w.heap.size (fun k_ => some k_ ≠ (v202 : Value).ownBlock) u6 x6_1) ∧ Aside0 (Kd.R Kd.bool 4 wc w.heap.size (fun _ => True) v202 x8_3) ∧ Aside0 (wc.heap[gb197]? = some (.cells #[(.slice A0_0 l0_0.length c0_0), (.slice A0_1 l0_1.length c0_1)] 25 (0, 0))) ∧ Aside0 (Below w.heap.size w wc))
          case first =>
           have H := HC26.out; clear HC26
           by_cases c27 : x10_3 ≤ 400
           ·rw [if_pos c27] at H
            have c27b0 : decide (x10_3 ≤ 400) = true := decide_eq_true c27; clear c27
            (first | rw [c27b0] | (simp only [i64_w, i32_w]; rw [c27b0]) | skip)
            have H' := Aside0.mk H; clear H; go_wp2
            go_meet
            case rel => exact ⟨_, (decide (x7_1 > 0)), sqE, H', ⟨by have := HK1.out; have := HK2.out; have := HK3.out; first | omega | exact Nat.le_refl _⟩, ⟨sqS HO_6⟩, ⟨sqR HO_8⟩, ⟨sqK BK197⟩, ⟨sqB HB⟩⟩
           ·rw [if_neg c27] at H
            have c27b0 : decide (x10_3 ≤ 400) = false := decide_eq_false c27; clear c27
            (first | rw [c27b0] | (simp only [i64_w, i32_w]; rw [c27b0]) | skip)
            have H' := Aside0.mk H; clear H; go_wp2
            go_meet
            case rel => exact ⟨_, (false), sqE, H', ⟨by have := HK1.out; have := HK2.out; have := HK3.out; first | omega | exact Nat.le_refl _⟩, ⟨sqS HO_6⟩, ⟨sqR HO_8⟩, ⟨sqK BK197⟩, ⟨sqB HB⟩⟩
          case rest =>
           clear HC26; obtain ⟨kq, x47_25, rfl, HA, HJ25, HO_6, HO_8, BK197, HB⟩ := hcut
           cases kq with
           | zero => exact absurd HA.out (by simp [rf_Sets.j3])
           | succ kj25 =>
            have H := HA.out; clear HA; simp only [rf_Sets.j3] at H
            by_cases c28 : x47_25 = true
            ·subst c28
             rw [if_pos rfl] at H; have H' := Aside0.mk H; clear H; go_wp2
             go_loopg [11] kj25 (fun kq v11 w' => ∃ (x8_5 : List Bool) (x11_5 : Int), v11 = .int .i64 x11_5 ∧ Aside0 (rf_Sets.l3 kq a1 (wrap64 ((l0_0.length : Int) + 1)) x6_1 x7_1 x8_5 x10_3 x11_5 l0_0 l0_1 = some r) ∧ Aside0 (kq ≤ kj25) ∧ Aside0 (Kd.S (Kd.slice 4 Kd.bool) 104 w' w.heap.size (fun k_ => some k_ ≠ (v202 : Value).ownBlock) u6 x6_1) ∧ Aside0 (Kd.R Kd.bool 4 w' w.heap.size (fun _ => True) v202 x8_5) ∧ Aside0 (w'.heap[gb197]? = some (.cells #[(.slice A0_0 l0_0.length c0_0), (.slice A0_1 l0_1.length c0_1)] 25 (0, 0))) ∧ Aside0 (Below w.heap.size w w'))
             case atStart => exact ⟨(x8_3), (0), sqE, H', ⟨Nat.le_refl _⟩, ⟨sqS HO_6⟩, ⟨sqR HO_8⟩, ⟨sqK BK197⟩, ⟨sqB HB⟩⟩
             case round =>
              clear H'; try clear c28
              obtain ⟨x8_5, x11_5, rfl, HA, HK5, HO_6, HO_8, BK197, HB⟩ := hrel
              cases gk with
              | zero => exact absurd HA.out (by simp [rf_Sets.l3])
              | succ k5 =>
               have H := HA.out; clear HA; simp only [rf_Sets.l3] at H
               by_cases c29 : x11_5 ≤ x10_3
               ·rw [if_pos c29] at H
                have c29b0 : decide (x11_5 ≤ x10_3) = true := decide_eq_true c29; clear c29; obtain ⟨ji30, hji30⟩ : ∃ j_ : Int, (wrap64 (x7_1 - 1)) = j_ := ⟨_, rfl⟩
                replace H : (if 0 ≤ (ji30) then (if (ji30) < (x6_1.length : Int) then (if 0 ≤ x10_3 then (if x10_3 < ((rd_L9 x6_1 (ji30)).length : Int) then (if rdOf false (rd_L9 x6_1 (ji30)) x10_3 = true then (if 0 ≤ x11_5 then (if x11_5 < (x8_5.length : Int) then (if rdOf false x8_5 x11_5 = true then (rf_Sets.l3 k5 a1 (wrap64 ((l0_0.length : Int) + 1)) x6_1 x7_1 (x8_5.set (x11_5 : Int).toNat true) x10_3 (wrap64 (x11_5 + 1)) l0_0 l0_1) else ((rf_Step.f l0_0 l0_1 (ji30) x10_3 x11_5 ((ji30) == a1)).bind fun t211 => (rf_Sets.l3 k5 a1 (wrap64 ((l0_0.length : Int) + 1)) x6_1 x7_1 (x8_5.set (x11_5 : Int).toNat t211) x10_3 (wrap64 (x11_5 + 1)) l0_0 l0_1))) else (none)) else (none)) else (rf_Sets.l2 k5 a1 (wrap64 ((l0_0.length : Int) + 1)) x6_1 x7_1 x8_5 (wrap64 (x10_3 + 1)) l0_0 l0_1)) else (none)) else (none)) else (none)) else (none)) = some r := by first | (rw [hji30] at H; exact H) | (simp only [hji30] at H ⊢; exact H)
                have hji30w : (IntKind.i64.wrap (x7_1 - 1)) = ji30 := (i64_w _).trans hji30
                by_cases c31 : 0 ≤ (ji30)
                ·rw [if_pos c31] at H
                 have c31b0 : decide (0 ≤ (ji30)) = true := decide_eq_true c31; clear c31
                 by_cases c32 : (ji30) < (x6_1.length : Int)
                 ·rw [if_pos c32] at H
                  have c32b0 : decide ((ji30) < (x6_1.length : Int)) = true := decide_eq_true c32; clear c32
                  by_cases c33 : 0 ≤ x10_3
                  ·rw [if_pos c33] at H
                   have c33b0 : decide (0 ≤ x10_3) = true := decide_eq_true c33; clear c33
                   by_cases c34 : x10_3 < ((rd_L9 x6_1 (ji30)).length : Int)
                   ·rw [if_pos c34] at H
                    have c34b0 : decide (x10_3 < ((rd_L9 x6_1 (ji30)).length : Int)) = true := decide_eq_true c34; clear c34; obtain ⟨bq35, hbq35⟩ : ∃ b_ : Bool, b_ = (rdOf false (rd_L9 x6_1 (ji30)) x10_3) := ⟨_, rfl⟩
                    replace H : (if bq35 = true then (if 0 ≤ x11_5 then (if x11_5 < (x8_5.length : Int) then (if rdOf false x8_5 x11_5 = true then (rf_Sets.l3 k5 a1 (wrap64 ((l0_0.length : Int) + 1)) x6_1 x7_1 (x8_5.set (x11_5 : Int).toNat true) x10_3 (wrap64 (x11_5 + 1)) l0_0 l0_1) else ((rf_Step.f l0_0 l0_1 (ji30) x10_3 x11_5 ((ji30) == a1)).bind fun t211 => (rf_Sets.l3 k5 a1 (wrap64 ((l0_0.length : Int) + 1)) x6_1 x7_1 (x8_5.set (x11_5 : Int).toNat t211) x10_3 (wrap64 (x11_5 + 1)) l0_0 l0_1))) else (none)) else (none)) else (rf_Sets.l2 k5 a1 (wrap64 ((l0_0.length : Int) + 1)) x6_1 x7_1 x8_5 (wrap64 (x10_3 + 1)) l0_0 l0_1)) = some r := by rw [← hbq35] at H; exact H
                    have Nbq35 := Aside0.mk hbq35; clear hbq35
                    by_cases c36 : bq35 = true
                    ·subst c36
                     rw [if_pos rfl] at H
                     by_cases c37 : 0 ≤ x11_5
                     ·rw [if_pos c37] at H
                      have c37b0 : decide (0 ≤ x11_5) = true := decide_eq_true c37; clear c37
                      by_cases c38 : x11_5 < (x8_5.length : Int)
                      ·rw [if_pos c38] at H
                       have c38b0 : decide (x11_5 < (x8_5.length : Int)) = true := decide_eq_true c38; clear c38; obtain ⟨bq39, hbq39⟩ : ∃ b_ : Bool, b_ = (rdOf false x8_5 x11_5) := ⟨_, rfl⟩
                       replace H : (if bq39 = true then (rf_Sets.l3 k5 a1 (wrap64 ((l0_0.length : Int) + 1)) x6_1 x7_1 (x8_5.set (x11_5 : Int).toNat true) x10_3 (wrap64 (x11_5 + 1)) l0_0 l0_1) else ((rf_Step.f l0_0 l0_1 (ji30) x10_3 x11_5 ((ji30) == a1)).bind fun t211 => (rf_Sets.l3 k5 a1 (wrap64 ((l0_0.length : Int) + 1)) x6_1 x7_1 (x8_5.set (x11_5 : Int).toNat t211) x10_3 (wrap64 (x11_5 + 1)) l0_0 l0_1))) = some r := by rw [← hbq39] at H; exact H
                       have Nbq39 := Aside0.mk hbq39; clear hbq39
                       by_cases c40 : bq39 = true
                       ·subst c40
                        rw [if_pos rfl] at H; replace H : ∃ y_ : List Bool, y_ = (x8_5.set (x11_5 : Int).toNat true) ∧ (rf_Sets.l3 k5 a1 (wrap64 ((l0_0.length : Int) + 1)) x6_1 x7_1 y_ x10_3 (wrap64 (x11_5 + 1)) l0_0 l0_1) = some r := ⟨_, rfl, sqJ H⟩; obtain ⟨y210, hy210, H⟩ := H; have Ny210 := Aside0.mk hy210; clear hy210; have H' := Aside0.mk H; clear H; obtain ⟨Ao42, co42, eo42⟩ := Kd.S_slice HO_6.out; subst eo42; have p207 : 0 ≤ ((ji30) : Int) := sqD; have q207 : (ji30) < (x6_1.length : Int) := sqD; obtain ⟨ad207, A207_0, c207_0, e207, hx207_0, hl207_0, hi207_0⟩ := at_L9 (Kd.S_reads' HO_6.out).2.2 (ji30) p207 q207
                        cases e207
                        obtain ⟨ce207, hce207, hMe207, hcc207⟩ := Kd.S_get HO_6.out [] (ji30) p207 (by first | exact q207 | exact sqD | (have e_ := (Kd.S_reads' HO_6.out).1; omega)); obtain ⟨ve207_0, rfl, ge207_0⟩ := hMe207; have hv207_0 := hcc207 0 _ rfl; rw [Nat.add_zero, show ((Kd.slice 4 Kd.bool)).sz = 1 from rfl, Nat.mul_one] at hv207_0; replace hv207_0 := Option.some.inj (hv207_0.symm.trans hx207_0); rw [hv207_0] at ge207_0; have HL207_0 := Aside0.mk (show Kd.R Kd.bool 4 _ _ _ _ (rd_L9 x6_1 (ji30)) from ge207_0); clear hv207_0 ge207_0; have HX207_0 := Aside0.mk hx207_0; clear hcc207 hce207; have HR207_0 := Aside0.mk hi207_0; have HC207_0 := Aside0.mk hl207_0; clear hi207_0 hl207_0; replace p207 := eq_true p207; replace q207 := eq_true q207; have p208 : 0 ≤ (x10_3 : Int) := sqD; have q208 : x10_3 < ((rd_L9 x6_1 (ji30)).length : Int) := sqD; obtain ⟨ad208, e208, hx208_0⟩ := Kd.at_bool (sqC HR207_0) x10_3 p208 q208
                        (try rw [← Nbq35.out] at hx208_0)
                        (try rw [← Nbq39.out] at hx208_0)
                        cases e208
                        replace p208 := eq_true p208; replace q208 := eq_true q208; obtain ⟨Ao43, co43, eo43⟩ := Kd.R_slice HO_8.out; subst eo43; have p209 : 0 ≤ (x11_5 : Int) := sqD; have q209 : x11_5 < (x8_5.length : Int) := sqD; obtain ⟨ad209, e209, hx209_0⟩ := Kd.at_bool (Kd.R_reads' HO_8.out).2.2 x11_5 p209 q209
                        (try rw [← Nbq35.out] at hx209_0)
                        (try rw [← Nbq39.out] at hx209_0)
                        cases e209
                        replace p209 := eq_true p209; replace q209 := eq_true q209; have p41 : 0 ≤ (x11_5 : Int) := sqD; have q41 : (x11_5 : Int) < ((x8_5.length : Int) : Int) := sqD; obtain ⟨go41, co41, eo41, gb41, gl41, cl41, HG41⟩ := Kd.R_form HO_8.out (by omega)
                        (first | cases eo41 | (injection eo41 with ea_ en_ ec_; (first | subst ea_ | (injection ea_ with ea_; subst ea_)); subst ec_; clear en_))
                        have GB41 := Aside0.mk gb41; have GG41 := Aside0.mk HG41; clear gb41 gl41 HG41
                        (first | simp only [add_plain] at hx209_0 | skip)
                        obtain ⟨hx41_0, hf41_0⟩ := Kd.R_celln false HO_8.out (x11_5 : Int) p41 q41; replace p41 := eq_true p41; replace q41 := eq_true q41; have HP44 := Kd.R_putg HO_8.out (x11_5 : Int) true
                        go_wp2_with (first | ((with_reducible refine gate_store (t := 4) (p := 83) rfl ?_); refine store_event (t := 4) (p := 83) (v := ?vo_w45) (w1 := (wr.setCell ⟨go41, (x11_5 : Int).toNat, none⟩ (.bool true))) ?hg ?ho ?hn ?hr ?_; (case ho => rfl); (case hg => rfl); (case hn => rfl); (case hr => first | (go_simp; done) | (go_simp; rfl)); intro w45 hw; have hg : wr.grownBy w45 (some go41) := (by rw [hw]; exact HP44.2); have hp_ : Kd.R Kd.bool 4 w45 w.heap.size (fun _ => True) (.slice (some ⟨go41, 0, none⟩) x8_5.length co43) y210 := (by rw [hw, Ny210.out]; exact HP44.1); clear HP44; replace HO_6 := Aside0.mk (Kd.S_after (v := (.slice (some ⟨go41, 0, none⟩) x8_5.length co43)) (v1 := (.slice (some ⟨go41, 0, none⟩) x8_5.length co43)) (ok := (fun _ => True)) (by (with_reducible repeat (first | apply Kd.S_alloc | apply Kd.S_drewN | apply Kd.S_drew)); exact Kd.S_mono HO_6.out (fun _ hk => ⟨trivial, hk⟩)) hg (.inl rfl)); replace BK197 := Aside0.mk (blk_grown (g := gb197) (o := .cells #[.slice A0_0 l0_0.length c0_0, .slice A0_1 l0_1.length c0_1] 25 (0, 0)) (sqK BK197) hg (Kd.R_ne HO_8.out BK197.out (by decide))); replace HO_8 := Aside0.mk (hp_); replace HL207_0 := Aside0.mk (Kd.R_after (v := (.slice (some ⟨go41, 0, none⟩) x8_5.length co43)) (v1 := (.slice (some ⟨go41, 0, none⟩) x8_5.length co43)) (ok := (fun k_ => some k_ ≠ (.slice (some ad207) x6_1.length co42 : Value).ownBlock)) (by (with_reducible repeat (first | apply Kd.R_alloc | apply Kd.R_drewN | apply Kd.R_drew)); exact Kd.R_mono HL207_0.out (fun _ hk => ⟨hk.2, hk.1⟩)) hg (.inl rfl)); replace HB := Aside0.mk (by rw [hw]; exact below_set (HB.out) GB41.out : Below w.heap.size w w45); clear hg hw hp_))
                        go_roundg k5
                        case measure => have := HK1.out; have := HK2.out; have := HK3.out; have := HJ25.out; have := HK5.out; omega
                        case rel => exact ⟨(y210), (wrap64 (x11_5 + 1)), sqE, H', ⟨by have := HK1.out; have := HK2.out; have := HK3.out; have := HJ25.out; have := HK5.out; omega⟩, ⟨by (with_reducible repeat (first | apply Kd.S_alloc | apply Kd.S_drewN | apply Kd.S_drew)); exact Kd.S_mono HO_6.out (fun _ hk => hk.2)⟩, ⟨sqR HO_8⟩, ⟨sqK BK197⟩, ⟨sqB HB⟩⟩
                       ·replace c40 := Bool.eq_false_iff.mpr c40
                        subst c40; rw [if_neg Bool.false_ne_true] at H; obtain ⟨t211, A460, H⟩ := Option.bind_eq_some_iff.mp H; have A46 := Aside0.mk A460; clear A460; replace H : ∃ y_ : List Bool, y_ = (x8_5.set (x11_5 : Int).toNat t211) ∧ (rf_Sets.l3 k5 a1 (wrap64 ((l0_0.length : Int) + 1)) x6_1 x7_1 y_ x10_3 (wrap64 (x11_5 + 1)) l0_0 l0_1) = some r := ⟨_, rfl, sqJ H⟩; obtain ⟨y212, hy212, H⟩ := H; have Ny212 := Aside0.mk hy212; clear hy212; have H' := Aside0.mk H; clear H; obtain ⟨Ao48, co48, eo48⟩ := Kd.S_slice HO_6.out; subst eo48; have p207 : 0 ≤ ((ji30) : Int) := sqD; have q207 : (ji30) < (x6_1.length : Int) := sqD; obtain ⟨ad207, A207_0, c207_0, e207, hx207_0, hl207_0, hi207_0⟩ := at_L9 (Kd.S_reads' HO_6.out).2.2 (ji30) p207 q207
                        cases e207
                        obtain ⟨ce207, hce207, hMe207, hcc207⟩ := Kd.S_get HO_6.out [] (ji30) p207 (by first | exact q207 | exact sqD | (have e_ := (Kd.S_reads' HO_6.out).1; omega)); obtain ⟨ve207_0, rfl, ge207_0⟩ := hMe207; have hv207_0 := hcc207 0 _ rfl; rw [Nat.add_zero, show ((Kd.slice 4 Kd.bool)).sz = 1 from rfl, Nat.mul_one] at hv207_0; replace hv207_0 := Option.some.inj (hv207_0.symm.trans hx207_0); rw [hv207_0] at ge207_0; have HL207_0 := Aside0.mk (show Kd.R Kd.bool 4 _ _ _ _ (rd_L9 x6_1 (ji30)) from ge207_0); clear hv207_0 ge207_0; have HX207_0 := Aside0.mk hx207_0; clear hcc207 hce207; have HR207_0 := Aside0.mk hi207_0; have HC207_0 := Aside0.mk hl207_0; clear hi207_0 hl207_0; replace p207 := eq_true p207; replace q207 := eq_true q207; have p208 : 0 ≤ (x10_3 : Int) := sqD; have q208 : x10_3 < ((rd_L9 x6_1 (ji30)).length : Int) := sqD; obtain ⟨ad208, e208, hx208_0⟩ := Kd.at_bool (sqC HR207_0) x10_3 p208 q208
                        (try rw [← Nbq35.out] at hx208_0)
                        (try rw [← Nbq39.out] at hx208_0)
                        cases e208
                        replace p208 := eq_true p208; replace q208 := eq_true q208; obtain ⟨Ao49, co49, eo49⟩ := Kd.R_slice HO_8.out; subst eo49; have p209 : 0 ≤ (x11_5 : Int) := sqD; have q209 : x11_5 < (x8_5.length : Int) := sqD; obtain ⟨ad209, e209, hx209_0⟩ := Kd.at_bool (Kd.R_reads' HO_8.out).2.2 x11_5 p209 q209
                        (try rw [← Nbq35.out] at hx209_0)
                        (try rw [← Nbq39.out] at hx209_0)
                        cases e209
                        replace p209 := eq_true p209; replace q209 := eq_true q209; have hcz50_0 := sqc0 BK197; have hcz50_1 := sqc1 BK197; have hfz50_0 := blk_frozen BK197.out 0; have hfz50_1 := blk_frozen BK197.out 1
                        go_wp2_with (first | (go_at_call 65; (with_reducible refine (rf_Step.calls _ _ l0_0 _ _ l0_1 ji30 x10_3 x11_5 ((ji30) == a1) t211 _ ?side1 ?side2 ?side3 ?side4 A46.out).mono ?_); (case side1 => exact sqQ HR0_0 HB); (case side2 => exact HC0_0.out); (case side3 => exact sqQ HR0_1 HB); (case side4 => exact HC0_1.out); rintro e w51 ⟨rfl, hb⟩; replace HO_6 := Aside0.mk (Kd.S_below (sqS HO_6) hb); replace HO_8 := Aside0.mk (Kd.R_below (sqR HO_8) hb); replace HL207_0 := Aside0.mk (Kd.R_below (sqR HL207_0) hb); replace BK197 := sqk BK197 hb; replace HR207_0 := Aside0.mk (Kd.C_below (sqC HR207_0) hb); replace HX207_0 := Aside0.mk (pw_cell_below hb HX207_0.out); replace HB := sqb hb HB; (try clear hb); (try clear hb2); (try clear hk); (try clear hi); have p47 : 0 ≤ (x11_5 : Int) := sqD; have q47 : (x11_5 : Int) < ((x8_5.length : Int) : Int) := sqD; obtain ⟨go47, co47, eo47, gb47, gl47, cl47, HG47⟩ := Kd.R_form HO_8.out (by omega); (first | cases eo47 | (injection eo47 with ea_ en_ ec_; (first | subst ea_ | (injection ea_ with ea_; subst ea_)); subst ec_; clear en_)); have GB47 := Aside0.mk gb47; have GG47 := Aside0.mk HG47; clear gb47 gl47 HG47; (first | simp only [add_plain] at hx209_0 | skip); obtain ⟨hx47_0, hf47_0⟩ := Kd.R_celln false HO_8.out (x11_5 : Int) p47 q47; replace p47 := eq_true p47; replace q47 := eq_true q47; obtain ⟨hy52_, hz52_⟩ := Kd.R_celln false HO_8.out (x11_5 : Int) (sqD) (sqD); have HP52 := Kd.R_putg HO_8.out (x11_5 : Int) t211) | ((with_reducible refine gate_store (t := 4) (p := 83) rfl ?_); refine store_event (t := 4) (p := 83) (v := ?vo_w53) (w1 := (w51.setCell ⟨go47, (x11_5 : Int).toNat, none⟩ (.bool t211))) ?hg ?ho ?hn ?hr ?_; (case ho => rfl); (case hg => rfl); (case hn => rfl); (case hr => first | (go_simp; done) | (go_simp; rfl)); intro w53 hw; have hg : w51.grownBy w53 (some go47) := (by rw [hw]; exact HP52.2); have hp_ : Kd.R Kd.bool 4 w53 w.heap.size (fun _ => True) (.slice (some ⟨go47, 0, none⟩) x8_5.length co49) y212 := (by rw [hw, Ny212.out]; exact HP52.1); clear HP52; replace HO_6 := Aside0.mk (Kd.S_after (v := (.slice (some ⟨go47, 0, none⟩) x8_5.length co49)) (v1 := (.slice (some ⟨go47, 0, none⟩) x8_5.length co49)) (ok := (fun _ => True)) (by (with_reducible repeat (first | apply Kd.S_alloc | apply Kd.S_drewN | apply Kd.S_drew)); exact Kd.S_mono HO_6.out (fun _ hk => ⟨trivial, hk⟩)) hg (.inl rfl)); replace BK197 := Aside0.mk (blk_grown (g := gb197) (o := .cells #[.slice A0_0 l0_0.length c0_0, .slice A0_1 l0_1.length c0_1] 25 (0, 0)) (sqK BK197) hg (Kd.R_ne HO_8.out BK197.out (by decide))); replace HO_8 := Aside0.mk (hp_); replace HL207_0 := Aside0.mk (Kd.R_after (v := (.slice (some ⟨go47, 0, none⟩) x8_5.length co49)) (v1 := (.slice (some ⟨go47, 0, none⟩) x8_5.length co49)) (ok := (fun k_ => some k_ ≠ (.slice (some ad207) x6_1.length co48 : Value).ownBlock)) (by (with_reducible repeat (first | apply Kd.R_alloc | apply Kd.R_drewN | apply Kd.R_drew)); exact Kd.R_mono HL207_0.out (fun _ hk => ⟨hk.2, hk.1⟩)) hg (.inl rfl)); replace HB := Aside0.mk (by rw [hw]; exact below_set (HB.out) GB47.out : Below w.heap.size w w53); clear hg hw hp_))
                        go_roundg k5
                        case measure => have := HK1.out; have := HK2.out; have := HK3.out; have := HJ25.out; have := HK5.out; omega
                        case rel => exact ⟨(y212), (wrap64 (x11_5 + 1)), sqE, H', ⟨by have := HK1.out; have := HK2.out; have := HK3.out; have := HJ25.out; have := HK5.out; omega⟩, ⟨by (with_reducible repeat (first | apply Kd.S_alloc | apply Kd.S_drewN | apply Kd.S_drew)); exact Kd.S_mono HO_6.out (fun _ hk => hk.2)⟩, ⟨sqR HO_8⟩, ⟨sqK BK197⟩, ⟨sqB HB⟩⟩
                      ·rw [if_neg c38] at H
                       exact absurd H (by simp)
                     ·rw [if_neg c37] at H
                      exact absurd H (by simp)
                    ·replace c36 := Bool.eq_false_iff.mpr c36
                     subst c36; rw [if_neg Bool.false_ne_true] at H; have H' := Aside0.mk H; clear H; obtain ⟨Ao54, co54, eo54⟩ := Kd.S_slice HO_6.out; subst eo54; have p207 : 0 ≤ ((ji30) : Int) := sqD; have q207 : (ji30) < (x6_1.length : Int) := sqD; obtain ⟨ad207, A207_0, c207_0, e207, hx207_0, hl207_0, hi207_0⟩ := at_L9 (Kd.S_reads' HO_6.out).2.2 (ji30) p207 q207
                     cases e207
                     obtain ⟨ce207, hce207, hMe207, hcc207⟩ := Kd.S_get HO_6.out [] (ji30) p207 (by first | exact q207 | exact sqD | (have e_ := (Kd.S_reads' HO_6.out).1; omega)); obtain ⟨ve207_0, rfl, ge207_0⟩ := hMe207; have hv207_0 := hcc207 0 _ rfl; rw [Nat.add_zero, show ((Kd.slice 4 Kd.bool)).sz = 1 from rfl, Nat.mul_one] at hv207_0; replace hv207_0 := Option.some.inj (hv207_0.symm.trans hx207_0); rw [hv207_0] at ge207_0; have HL207_0 := Aside0.mk (show Kd.R Kd.bool 4 _ _ _ _ (rd_L9 x6_1 (ji30)) from ge207_0); clear hv207_0 ge207_0; have HX207_0 := Aside0.mk hx207_0; clear hcc207 hce207; have HR207_0 := Aside0.mk hi207_0; have HC207_0 := Aside0.mk hl207_0; clear hi207_0 hl207_0; replace p207 := eq_true p207; replace q207 := eq_true q207; have p208 : 0 ≤ (x10_3 : Int) := sqD; have q208 : x10_3 < ((rd_L9 x6_1 (ji30)).length : Int) := sqD; obtain ⟨ad208, e208, hx208_0⟩ := Kd.at_bool (sqC HR207_0) x10_3 p208 q208
                     (try rw [← Nbq35.out] at hx208_0)
                     cases e208
                     replace p208 := eq_true p208; replace q208 := eq_true q208
                     go_wp2
                     go_roundg k5
                     case measure => have := HK1.out; have := HK2.out; have := HK3.out; have := HJ25.out; have := HK5.out; omega
                     case rel => exact ⟨(x8_5), (wrap64 (x10_3 + 1)), sqE, H', ⟨by have := HK1.out; have := HK2.out; have := HK3.out; have := HJ25.out; have := HK5.out; omega⟩, ⟨sqS HO_6⟩, ⟨sqR HO_8⟩, ⟨sqK BK197⟩, ⟨sqB HB⟩⟩
                   ·rw [if_neg c34] at H
                    exact absurd H (by simp)
                  ·rw [if_neg c33] at H
                   exact absurd H (by simp)
                 ·rw [if_neg c32] at H
                  exact absurd H (by simp)
                ·rw [if_neg c31] at H
                 exact absurd H (by simp)
               ·rw [if_neg c29] at H
                have c29b0 : decide (x11_5 ≤ x10_3) = false := decide_eq_false c29; clear c29; have H' := Aside0.mk H; clear H; go_wp2
                go_roundg k5
                case measure => have := HK1.out; have := HK2.out; have := HK3.out; have := HJ25.out; have := HK5.out; omega
                case rel => exact ⟨(x8_5), (wrap64 (x10_3 + 1)), sqE, H', ⟨by have := HK1.out; have := HK2.out; have := HK3.out; have := HJ25.out; have := HK5.out; omega⟩, ⟨sqS HO_6⟩, ⟨sqR HO_8⟩, ⟨sqK BK197⟩, ⟨sqB HB⟩⟩
            ·replace c28 := Bool.eq_false_iff.mpr c28
             subst c28; rw [if_neg Bool.false_ne_true] at H; have H' := Aside0.mk H; clear H; go_wp2
             go_loopg [12] kj25 (fun kq v12 w' => ∃ (x8_5 : List Bool) (x12_5 : Int), v12 = .int .i64 x12_5 ∧ Aside0 (rf_Sets.l4 kq a1 (wrap64 ((l0_0.length : Int) + 1)) x6_1 x7_1 x8_5 x12_5 l0_0 l0_1 = some r) ∧ Aside0 (kq ≤ kj25) ∧ Aside0 (Kd.S (Kd.slice 4 Kd.bool) 104 w' w.heap.size (fun k_ => some k_ ≠ (v202 : Value).ownBlock) u6 x6_1) ∧ Aside0 (Kd.R Kd.bool 4 w' w.heap.size (fun _ => True) v202 x8_5) ∧ Aside0 (w'.heap[gb197]? = some (.cells #[(.slice A0_0 l0_0.length c0_0), (.slice A0_1 l0_1.length c0_1)] 25 (0, 0))) ∧ Aside0 (Below w.heap.size w w'))
             case atStart => exact ⟨(x8_3), (0), sqE, H', ⟨Nat.le_refl _⟩, ⟨sqS HO_6⟩, ⟨sqR HO_8⟩, ⟨sqK BK197⟩, ⟨sqB HB⟩⟩
             case round =>
              clear H'; try clear c28
              obtain ⟨x8_5, x12_5, rfl, HA, HK5, HO_6, HO_8, BK197, HB⟩ := hrel
              cases gk with
              | zero => exact absurd HA.out (by simp [rf_Sets.l4])
              | succ k5 =>
               have H := HA.out; clear HA; simp only [rf_Sets.l4] at H
               by_cases c55 : x12_5 ≤ 400
               ·rw [if_pos c55] at H
                have c55b0 : decide (x12_5 ≤ 400) = true := decide_eq_true c55; clear c55
                by_cases c56 : 0 ≤ x12_5
                ·rw [if_pos c56] at H
                 have c56b0 : decide (0 ≤ x12_5) = true := decide_eq_true c56; clear c56
                 by_cases c57 : x12_5 < (x8_5.length : Int)
                 ·rw [if_pos c57] at H
                  have c57b0 : decide (x12_5 < (x8_5.length : Int)) = true := decide_eq_true c57; clear c57; obtain ⟨bq58, hbq58⟩ : ∃ b_ : Bool, b_ = (rdOf false x8_5 x12_5) := ⟨_, rfl⟩
                  replace H : (if bq58 = true then ((rf_Fits.f k5 l0_0 l0_1 x7_1 x12_5).bind fun t214 => (rf_Sets.l4 k5 a1 (wrap64 ((l0_0.length : Int) + 1)) x6_1 x7_1 (x8_5.set (x12_5 : Int).toNat t214) (wrap64 (x12_5 + 1)) l0_0 l0_1)) else (rf_Sets.l4 k5 a1 (wrap64 ((l0_0.length : Int) + 1)) x6_1 x7_1 (x8_5.set (x12_5 : Int).toNat false) (wrap64 (x12_5 + 1)) l0_0 l0_1)) = some r := by rw [← hbq58] at H; exact H
                  have Nbq58 := Aside0.mk hbq58; clear hbq58
                  by_cases c59 : bq58 = true
                  ·subst c59
                   rw [if_pos rfl] at H; obtain ⟨t214, A600, H⟩ := Option.bind_eq_some_iff.mp H; have A60 := Aside0.mk A600; clear A600; replace H : ∃ y_ : List Bool, y_ = (x8_5.set (x12_5 : Int).toNat t214) ∧ (rf_Sets.l4 k5 a1 (wrap64 ((l0_0.length : Int) + 1)) x6_1 x7_1 y_ (wrap64 (x12_5 + 1)) l0_0 l0_1) = some r := ⟨_, rfl, sqJ H⟩; obtain ⟨y215, hy215, H⟩ := H; have Ny215 := Aside0.mk hy215; clear hy215; have H' := Aside0.mk H; clear H; obtain ⟨Ao62, co62, eo62⟩ := Kd.R_slice HO_8.out; subst eo62; have p213 : 0 ≤ (x12_5 : Int) := sqD; have q213 : x12_5 < (x8_5.length : Int) := sqD; obtain ⟨ad213, e213, hx213_0⟩ := Kd.at_bool (Kd.R_reads' HO_8.out).2.2 x12_5 p213 q213
                   (try rw [← Nbq58.out] at hx213_0)
                   cases e213
                   replace p213 := eq_true p213; replace q213 := eq_true q213; have hcz63_0 := sqc0 BK197; have hcz63_1 := sqc1 BK197; have hfz63_0 := blk_frozen BK197.out 0; have hfz63_1 := blk_frozen BK197.out 1
                   go_wp2_with (first | (go_at_call 64; (with_reducible refine (rf_Fits.calls k5 _ _ l0_0 _ _ l0_1 x7_1 x12_5 t214 _ ?side1 ?side2 ?side3 ?side4 A60.out).mono ?_); (case side1 => exact sqQ HR0_0 HB); (case side2 => exact HC0_0.out); (case side3 => exact sqQ HR0_1 HB); (case side4 => exact HC0_1.out); rintro e w64 ⟨rfl, hb⟩; replace HO_6 := Aside0.mk (Kd.S_below (sqS HO_6) hb); replace HO_8 := Aside0.mk (Kd.R_below (sqR HO_8) hb); replace BK197 := sqk BK197 hb; replace HB := sqb hb HB; (try clear hb); (try clear hb2); (try clear hk); (try clear hi); have p61 : 0 ≤ (x12_5 : Int) := sqD; have q61 : (x12_5 : Int) < ((x8_5.length : Int) : Int) := sqD; obtain ⟨go61, co61, eo61, gb61, gl61, cl61, HG61⟩ := Kd.R_form HO_8.out (by omega); (first | cases eo61 | (injection eo61 with ea_ en_ ec_; (first | subst ea_ | (injection ea_ with ea_; subst ea_)); subst ec_; clear en_)); have GB61 := Aside0.mk gb61; have GG61 := Aside0.mk HG61; clear gb61 gl61 HG61; (first | simp only [add_plain] at hx213_0 | skip); obtain ⟨hx61_0, hf61_0⟩ := Kd.R_celln false HO_8.out (x12_5 : Int) p61 q61; replace p61 := eq_true p61; replace q61 := eq_true q61; obtain ⟨hy65_, hz65_⟩ := Kd.R_celln false HO_8.out (x12_5 : Int) (sqD) (sqD); have HP65 := Kd.R_putg HO_8.out (x12_5 : Int) t214) | ((with_reducible refine gate_store (t := 4) (p := 100) rfl ?_); refine store_event (t := 4) (p := 100) (v := ?vo_w66) (w1 := (w64.setCell ⟨go61, (x12_5 : Int).toNat, none⟩ (.bool t214))) ?hg ?ho ?hn ?hr ?_; (case ho => rfl); (case hg => rfl); (case hn => rfl); (case hr => first | (go_simp; done) | (go_simp; rfl)); intro w66 hw; have hg : w64.grownBy w66 (some go61) := (by rw [hw]; exact HP65.2); have hp_ : Kd.R Kd.bool 4 w66 w.heap.size (fun _ => True) (.slice (some ⟨go61, 0, none⟩) x8_5.length co62) y215 := (by rw [hw, Ny215.out]; exact HP65.1); clear HP65; replace HO_6 := Aside0.mk (Kd.S_after (v := (.slice (some ⟨go61, 0, none⟩) x8_5.length co62)) (v1 := (.slice (some ⟨go61, 0, none⟩) x8_5.length co62)) (ok := (fun _ => True)) (by (with_reducible repeat (first | apply Kd.S_alloc | apply Kd.S_drewN | apply Kd.S_drew)); exact Kd.S_mono HO_6.out (fun _ hk => ⟨trivial, hk⟩)) hg (.inl rfl)); replace BK197 := Aside0.mk (blk_grown (g := gb197) (o := .cells #[.slice A0_0 l0_0.length c0_0, .slice A0_1 l0_1.length c0_1] 25 (0, 0)) (sqK BK197) hg (Kd.R_ne HO_8.out BK197.out (by decide))); replace HO_8 := Aside0.mk (hp_); replace HB := Aside0.mk (by rw [hw]; exact below_set (HB.out) GB61.out : Below w.heap.size w w66); clear hg hw hp_))
                   go_roundg k5
                   case measure => have := HK1.out; have := HK2.out; have := HK3.out; have := HJ25.out; have := HK5.out; omega
                   case rel => exact ⟨(y215), (wrap64 (x12_5 + 1)), sqE, H', ⟨by have := HK1.out; have := HK2.out; have := HK3.out; have := HJ25.out; have := HK5.out; omega⟩, ⟨by (with_reducible repeat (first | apply Kd.S_alloc | apply Kd.S_drewN | apply Kd.S_drew)); exact Kd.S_mono HO_6.out (fun _ hk => hk.2)⟩, ⟨sqR HO_8⟩, ⟨sqK BK197⟩, ⟨sqB HB⟩⟩
                  ·replace c59 := Bool.eq_false_iff.mpr c59
                   subst c59; rw [if_neg Bool.false_ne_true] at H; replace H : ∃ y_ : List Bool, y_ = (x8_5.set (x12_5 : Int).toNat false) ∧ (rf_Sets.l4 k5 a1 (wrap64 ((l0_0.length : Int) + 1)) x6_1 x7_1 y_ (wrap64 (x12_5 + 1)) l0_0 l0_1) = some r := ⟨_, rfl, sqJ H⟩; obtain ⟨y216, hy216, H⟩ := H; have Ny216 := Aside0.mk hy216; clear hy216; have H' := Aside0.mk H; clear H; obtain ⟨Ao68, co68, eo68⟩ := Kd.R_slice HO_8.out; subst eo68; have p213 : 0 ≤ (x12_5 : Int) := sqD; have q213 : x12_5 < (x8_5.length : Int) := sqD; obtain ⟨ad213, e213, hx213_0⟩ := Kd.at_bool (Kd.R_reads' HO_8.out).2.2 x12_5 p213 q213
                   (try rw [← Nbq58.out] at hx213_0)
                   cases e213
                   replace p213 := eq_true p213; replace q213 := eq_true q213; have p67 : 0 ≤ (x12_5 : Int) := sqD; have q67 : (x12_5 : Int) < ((x8_5.length : Int) : Int) := sqD; obtain ⟨go67, co67, eo67, gb67, gl67, cl67, HG67⟩ := Kd.R_form HO_8.out (by omega)
                   (first | cases eo67 | (injection eo67 with ea_ en_ ec_; (first | subst ea_ | (injection ea_ with ea_; subst ea_)); subst ec_; clear en_))
                   have GB67 := Aside0.mk gb67; have GG67 := Aside0.mk HG67; clear gb67 gl67 HG67
                   (first | simp only [add_plain] at hx213_0 | skip)
                   obtain ⟨hx67_0, hf67_0⟩ := Kd.R_celln false HO_8.out (x12_5 : Int) p67 q67; replace p67 := eq_true p67; replace q67 := eq_true q67; have HP69 := Kd.R_putg HO_8.out (x12_5 : Int) false
                   go_wp2_with (first | ((with_reducible refine gate_store (t := 4) (p := 100) rfl ?_); refine store_event (t := 4) (p := 100) (v := ?vo_w70) (w1 := (wr.setCell ⟨go67, (x12_5 : Int).toNat, none⟩ (.bool false))) ?hg ?ho ?hn ?hr ?_; (case ho => rfl); (case hg => rfl); (case hn => rfl); (case hr => first | (go_simp; done) | (go_simp; rfl)); intro w70 hw; have hg : wr.grownBy w70 (some go67) := (by rw [hw]; exact HP69.2); have hp_ : Kd.R Kd.bool 4 w70 w.heap.size (fun _ => True) (.slice (some ⟨go67, 0, none⟩) x8_5.length co68) y216 := (by rw [hw, Ny216.out]; exact HP69.1); clear HP69; replace HO_6 := Aside0.mk (Kd.S_after (v := (.slice (some ⟨go67, 0, none⟩) x8_5.length co68)) (v1 := (.slice (some ⟨go67, 0, none⟩) x8_5.length co68)) (ok := (fun _ => True)) (by (with_reducible repeat (first | apply Kd.S_alloc | apply Kd.S_drewN | apply Kd.S_drew)); exact Kd.S_mono HO_6.out (fun _ hk => ⟨trivial, hk⟩)) hg (.inl rfl)); replace BK197 := Aside0.mk (blk_grown (g := gb197) (o := .cells #[.slice A0_0 l0_0.length c0_0, .slice A0_1 l0_1.length c0_1] 25 (0, 0)) (sqK BK197) hg (Kd.R_ne HO_8.out BK197.out (by decide))); replace HO_8 := Aside0.mk (hp_); replace HB := Aside0.mk (by rw [hw]; exact below_set (HB.out) GB67.out : Below w.heap.size w w70); clear hg hw hp_))
                   go_roundg k5
                   case measure => have := HK1.out; have := HK2.out; have := HK3.out; have := HJ25.out; have := HK5.out; omega
                   case rel => exact ⟨(y216), (wrap64 (x12_5 + 1)), sqE, H', ⟨by have := HK1.out; have := HK2.out; have := HK3.out; have := HJ25.out; have := HK5.out; omega⟩, ⟨by (with_reducible repeat (first | apply Kd.S_alloc | apply Kd.S_drewN | apply Kd.S_drew)); exact Kd.S_mono HO_6.out (fun _ hk => hk.2)⟩, ⟨sqR HO_8⟩, ⟨sqK BK197⟩, ⟨sqB HB⟩⟩
                 ·rw [if_neg c57] at H
                  exact absurd H (by simp)
                ·rw [if_neg c56] at H
                 exact absurd H (by simp)
               ·rw [if_neg c55] at H
                have c55b0 : decide (x12_5 ≤ 400) = false := decide_eq_false c55; clear c55
                by_cases c71 : x6_1.length < 5864062014805
                ·rw [if_pos c71] at H
                 have LMc71 := Aside0.mk c71; clear c71; replace H : ∃ y_ : List (List Bool), y_ = (x6_1 ++ [x8_5]) ∧ (rf_Sets.l0 k5 a1 (wrap64 ((l0_0.length : Int) + 1)) y_ (wrap64 (x7_1 + 1)) l0_0 l0_1) = some r := ⟨_, rfl, sqJ H⟩; obtain ⟨y217, hy217, H⟩ := H; have Ny217 := Aside0.mk hy217; clear hy217; have H' := Aside0.mk H; clear H; obtain ⟨Ao73, co73, eo73⟩ := Kd.R_slice HO_8.out; subst eo73
                 go_wp2_with (first | ((with_reducible refine gate_builtin (b := .append) (xs := #[.tmp 101, .tmp 103]) rfl ?_); at_builtin; refine Kd.S_append (Kd.slice 4 Kd.bool) (w0 := w) w.heap.size rfl (.tmp 101) (.tmp 103) 34 104 (.slice none 0 0) 24 rfl Tryd.underlying34 info104 rfl (by decide) (by omega) u6 x6_1 x8_5 [.slice Ao73 x8_5.length co73] (fun _ => True) (fun k_ => some k_ = (.slice Ao73 x8_5.length co73 : Value).ownBlock) rfl rfl ?aP (fun k_ hk_ => ((Kd.R_mono (ok' := fun k_ => ((fun _ => True)) k_ ∧ some k_ ≠ (u6 : Value).ownBlock) (Kd.R_apart' (HO_8.out) (Kd.S_typed HO_6.out) (by decide)) (fun k_ hk => ⟨trivial, hk.2⟩))).1 k_ hk_.symm) ?aF ?aO ?aB ?aS ?aL ?_; (case aP => exact Kd.M_row (Kd.R_mono (Kd.R_tight rfl (Kd.R_mono (ok' := fun k_ => ((fun _ => True)) k_ ∧ some k_ ≠ (u6 : Value).ownBlock) (Kd.R_apart' (HO_8.out) (Kd.S_typed HO_6.out) (by decide)) (fun k_ hk => ⟨trivial, hk.2⟩))) (fun _ h_ => h_))); (case aB => exact (sqB HB)); (case aF => exact (fun _ _ => trivial)); (case aO => exact (by (with_reducible repeat (first | apply Kd.S_alloc | apply Kd.S_drewN | apply Kd.S_drew)); exact Kd.S_mono HO_6.out (fun k_ hk => ⟨trivial, fun e_ => hk e_⟩))); (case aS => exact (below_size (sqB HB))); (case aL => have := LMc71.out; omega); intro v218 w72 ho hb hg hat; rw [← Ny217.out] at ho; replace BK197 := Aside0.mk (blk_grown (g := gb197) (o := .cells #[.slice A0_0 l0_0.length c0_0, .slice A0_1 l0_1.length c0_1] 25 (0, 0)) (sqK BK197) hg (Kd.S_ne HO_6.out BK197.out (by decide))); replace HB := Aside0.mk (hb); have HO219 := Aside0.mk (ho); clear HO_6 HO_8; clear ho hb hg hat))
                 go_roundg k5
                 case measure => have := HK1.out; have := HK2.out; have := HK3.out; have := HJ25.out; have := HK5.out; omega
                 case rel => exact ⟨(y217), (wrap64 (x7_1 + 1)), sqE, H', ⟨by have := HK1.out; have := HK2.out; have := HK3.out; have := HJ25.out; have := HK5.out; omega⟩, ⟨sqS HO219⟩, ⟨sqK BK197⟩, ⟨sqB HB⟩⟩
                ·rw [if_neg c71] at H
                 exact absurd H (by simp)
    ·rw [if_neg c8] at H
     exact absurd H (by simp)
   ·rw [if_neg c7] at H
    have c7b0 : decide (x7_1 < (wrap64 ((l0_0.length : Int) + 1))) = false := decide_eq_false c7; clear c7; have H' := Aside0.mk H; clear H; go_wp2
    go_loopg [13] k1 (fun kq v13 w' => ∃ (x6_2 : List (List Bool)) (x13_2 : Int), v13 = .int .i64 x13_2 ∧ Aside0 (rf_Sets.l5 kq a1 x6_2 x13_2 l0_0 l0_1 = some r) ∧ Aside0 (kq ≤ k1) ∧ Aside0 (Kd.S (Kd.slice 4 Kd.bool) 104 w' w.heap.size (fun _ => True) u6 x6_2) ∧ Aside0 (w'.heap[gb197]? = some (.cells #[(.slice A0_0 l0_0.length c0_0), (.slice A0_1 l0_1.length c0_1)] 25 (0, 0))) ∧ Aside0 (Below w.heap.size w w'))
    case atStart => exact ⟨(x6_1), (wrap64 ((wrap64 ((l0_0.length : Int) + 1)) - 2)), sqE, H', ⟨Nat.le_refl _⟩, ⟨sqS HO_6⟩, ⟨sqK BK197⟩, ⟨sqB HB⟩⟩
    case round =>
     clear H'; try clear c7b0
     obtain ⟨x6_2, x13_2, rfl, HA, HK2, HO_6, BK197, HB⟩ := hrel
     cases gk with
     | zero => exact absurd HA.out (by simp [rf_Sets.l5])
     | succ k2 =>
      have H := HA.out; clear HA; simp only [rf_Sets.l5] at H
      by_cases c74 : x13_2 ≥ 0
      ·rw [if_pos c74] at H
       have c74b0 : decide (0 ≤ x13_2) = true := decide_eq_true c74; clear c74; have H' := Aside0.mk H; clear H; go_wp2
       go_loopg [14] k2 (fun kq v14 w' => ∃ (x6_3 : List (List Bool)) (x14_3 : Int), v14 = .int .i64 x14_3 ∧ Aside0 (rf_Sets.l6 kq a1 x6_3 x13_2 x14_3 l0_0 l0_1 = some r) ∧ Aside0 (kq ≤ k2) ∧ Aside0 (Kd.S (Kd.slice 4 Kd.bool) 104 w' w.heap.size (fun _ => True) u6 x6_3) ∧ Aside0 (w'.heap[gb197]? = some (.cells #[(.slice A0_0 l0_0.length c0_0), (.slice A0_1 l0_1.length c0_1)] 25 (0, 0))) ∧ Aside0 (Below w.heap.size w w'))
       case atStart => exact ⟨(x6_2), (0), sqE, H', ⟨Nat.le_refl _⟩, ⟨sqS HO_6⟩, ⟨sqK BK197⟩, ⟨sqB HB⟩⟩
       case round =>
        clear H'; try clear c74b0
        obtain ⟨x6_3, x14_3, rfl, HA, HK3, HO_6, BK197, HB⟩ := hrel
        cases gk with
        | zero => exact absurd HA.out (by simp [rf_Sets.l6])
        | succ k3 =>
         have H := HA.out; clear HA; simp only [rf_Sets.l6] at H
         by_cases c75 : x14_3 ≤ 400
         ·rw [if_pos c75] at H
          have c75b0 : decide (x14_3 ≤ 400) = true := decide_eq_true c75; clear c75; have H' := Aside0.mk H; clear H; go_wp2
          go_loopg [15, 16] k3 (fun kq v15 v16 w' => ∃ (x15_4 : Bool) (x16_4 : Int), v15 = .bool x15_4 ∧ v16 = .int .i64 x16_4 ∧ Aside0 (rf_Sets.l7 kq a1 x6_3 x13_2 x14_3 x15_4 x16_4 l0_0 l0_1 = some r) ∧ Aside0 (kq ≤ k3) ∧ Aside0 (Kd.S (Kd.slice 4 Kd.bool) 104 w' w.heap.size (fun _ => True) u6 x6_3) ∧ Aside0 (w'.heap[gb197]? = some (.cells #[(.slice A0_0 l0_0.length c0_0), (.slice A0_1 l0_1.length c0_1)] 25 (0, 0))) ∧ Aside0 (Below w.heap.size w w'))
          case atStart => exact ⟨(false), (0), sqE, sqE, H', ⟨Nat.le_refl _⟩, ⟨sqS HO_6⟩, ⟨sqK BK197⟩, ⟨sqB HB⟩⟩
          case round =>
           clear H'; try clear c75b0
           obtain ⟨x15_4, x16_4, rfl, rfl, HA, HK4, HO_6, BK197, HB⟩ := hrel
           cases gk with
           | zero => exact absurd HA.out (by simp [rf_Sets.l7])
           | succ k4 =>
            have H := HA.out; clear HA; simp only [rf_Sets.l7] at H
            by_cases c76 : x16_4 ≤ x14_3
            ·rw [if_pos c76] at H
             have c76b0 : decide (x16_4 ≤ x14_3) = true := decide_eq_true c76; clear c76
             by_cases c77 : 0 ≤ x13_2
             ·rw [if_pos c77] at H
              have c77b0 : decide (0 ≤ x13_2) = true := decide_eq_true c77; clear c77
              by_cases c78 : x13_2 < (x6_3.length : Int)
              ·rw [if_pos c78] at H
               have c78b0 : decide (x13_2 < (x6_3.length : Int)) = true := decide_eq_true c78; clear c78
               by_cases c79 : 0 ≤ x14_3
               ·rw [if_pos c79] at H
                have c79b0 : decide (0 ≤ x14_3) = true := decide_eq_true c79; clear c79
                by_cases c80 : x14_3 < ((rd_L9 x6_3 x13_2).length : Int)
                ·rw [if_pos c80] at H
                 have c80b0 : decide (x14_3 < ((rd_L9 x6_3 x13_2).length : Int)) = true := decide_eq_true c80; clear c80; obtain ⟨bq81, hbq81⟩ : ∃ b_ : Bool, b_ = (rdOf false (rd_L9 x6_3 x13_2) x14_3) := ⟨_, rfl⟩
                 replace H : (if bq81 = true then (if x15_4 = true then (rf_Sets.l6 k4 a1 (x6_3.set (x13_2 : Int).toNat ((rd_L9 x6_3 x13_2).set (x14_3 : Int).toNat x15_4)) x13_2 (wrap64 (x14_3 + 1)) l0_0 l0_1) else (if 0 ≤ (wrap64 (x13_2 + 1)) then (if (wrap64 (x13_2 + 1)) < (x6_3.length : Int) then (if 0 ≤ x16_4 then (if x16_4 < ((rd_L9 x6_3 (wrap64 (x13_2 + 1))).length : Int) then (if rdOf false (rd_L9 x6_3 (wrap64 (x13_2 + 1))) x16_4 = true then ((rf_Step.f l0_0 l0_1 x13_2 x14_3 x16_4 (x13_2 == a1)).bind fun t228 => (rf_Sets.l7 k4 a1 x6_3 x13_2 x14_3 t228 (wrap64 (x16_4 + 1)) l0_0 l0_1)) else (rf_Sets.l7 k4 a1 x6_3 x13_2 x14_3 false (wrap64 (x16_4 + 1)) l0_0 l0_1)) else (none)) else (none)) else (none)) else (none))) else (rf_Sets.l6 k4 a1 (x6_3.set (x13_2 : Int).toNat ((rd_L9 x6_3 x13_2).set (x14_3 : Int).toNat x15_4)) x13_2 (wrap64 (x14_3 + 1)) l0_0 l0_1)) = some r := by rw [← hbq81] at H; exact H
                 have Nbq81 := Aside0.mk hbq81; clear hbq81
                 by_cases c82 : bq81 = true
                 ·subst c82
                  rw [if_pos rfl] at H
                  by_cases c83 : x15_4 = true
                  ·subst c83
                   rw [if_pos rfl] at H; replace H : ∃ y_ : List Bool, y_ = ((rd_L9 x6_3 x13_2).set (x14_3 : Int).toNat true) ∧ (rf_Sets.l6 k4 a1 (x6_3.set (x13_2 : Int).toNat y_) x13_2 (wrap64 (x14_3 + 1)) l0_0 l0_1) = some r := ⟨_, rfl, sqJ H⟩; obtain ⟨y223, hy223, H⟩ := H; have Ny223 := Aside0.mk hy223; clear hy223; replace H : ∃ y_ : List (List Bool), y_ = (x6_3.set (x13_2 : Int).toNat y223) ∧ (rf_Sets.l6 k4 a1 y_ x13_2 (wrap64 (x14_3 + 1)) l0_0 l0_1) = some r := ⟨_, rfl, sqJ H⟩; obtain ⟨y225, hy225, H⟩ := H; have Ny225 := Aside0.mk hy225; clear hy225; have H' := Aside0.mk H; clear H; obtain ⟨Ao85, co85, eo85⟩ := Kd.S_slice HO_6.out; subst eo85; have p220 : 0 ≤ (x13_2 : Int) := sqD; have q220 : x13_2 < (x6_3.length : Int) := sqD; obtain ⟨ad220, A220_0, c220_0, e220, hx220_0, hl220_0, hi220_0⟩ := at_L9 (Kd.S_reads' HO_6.out).2.2 x13_2 p220 q220
                   cases e220
                   obtain ⟨ce220, hce220, hMe220, hcc220⟩ := Kd.S_get HO_6.out [] x13_2 p220 (by first | exact q220 | exact sqD | (have e_ := (Kd.S_reads' HO_6.out).1; omega)); obtain ⟨ve220_0, rfl, ge220_0⟩ := hMe220; have hv220_0 := hcc220 0 _ rfl; rw [Nat.add_zero, show ((Kd.slice 4 Kd.bool)).sz = 1 from rfl, Nat.mul_one] at hv220_0; replace hv220_0 := Option.some.inj (hv220_0.symm.trans hx220_0); rw [hv220_0] at ge220_0; have HL220_0 := Aside0.mk (show Kd.R Kd.bool 4 _ _ _ _ (rd_L9 x6_3 x13_2) from ge220_0); clear hv220_0 ge220_0; have HX220_0 := Aside0.mk hx220_0; clear hcc220 hce220; have HR220_0 := Aside0.mk hi220_0; have HC220_0 := Aside0.mk hl220_0; clear hi220_0 hl220_0; replace p220 := eq_true p220; replace q220 := eq_true q220; have p221 : 0 ≤ (x14_3 : Int) := sqD; have q221 : x14_3 < ((rd_L9 x6_3 x13_2).length : Int) := sqD; obtain ⟨ad221, e221, hx221_0⟩ := Kd.at_bool (sqC HR220_0) x14_3 p221 q221
                   (try rw [← Nbq81.out] at hx221_0)
                   cases e221
                   replace p221 := eq_true p221; replace q221 := eq_true q221; have p222 : 0 ≤ (x13_2 : Int) := sqD; have q222 : x13_2 < (x6_3.length : Int) := sqD; obtain ⟨ad222, A222_0, c222_0, e222, hx222_0, hl222_0, hi222_0⟩ := at_L9 (Kd.S_reads' HO_6.out).2.2 x13_2 p222 q222; obtain rfl : ad220 = ad222 := (by injection e222); obtain ⟨ce222, hce222, hMe222, hcc222⟩ := Kd.S_get HO_6.out [] x13_2 p222 (by first | exact q222 | exact sqD | (have e_ := (Kd.S_reads' HO_6.out).1; omega)); obtain ⟨ve222_0, rfl, ge222_0⟩ := hMe222; have hv222_0 := hcc222 0 _ rfl; rw [Nat.add_zero, show ((Kd.slice 4 Kd.bool)).sz = 1 from rfl, Nat.mul_one] at hv222_0; replace hv222_0 := Option.some.inj (hv222_0.symm.trans hx222_0); rw [hv222_0] at ge222_0; have HL222_0 := Aside0.mk (show Kd.R Kd.bool 4 _ _ _ _ (rd_L9 x6_3 x13_2) from ge222_0); clear hv222_0 ge222_0; have HX222_0 := Aside0.mk hx222_0; clear hcc222 hce222; have HR222_0 := Aside0.mk hi222_0; have HC222_0 := Aside0.mk hl222_0; clear hi222_0 hl222_0; replace p222 := eq_true p222; replace q222 := eq_true q222; have ea_ := Option.some.inj (hx220_0.symm.trans hx222_0)
                   injection ea_ with ea_ en_ ec_
                   subst ea_; subst ec_; clear en_; have p84 : 0 ≤ (x14_3 : Int) := sqD; have q84 : (x14_3 : Int) < (((rd_L9 x6_3 x13_2).length : Int) : Int) := sqD; obtain ⟨go84, co84, eo84, gb84, gl84, cl84, HG84⟩ := Kd.R_form HL222_0.out (by omega)
                   (first | cases eo84 | (injection eo84 with ea_ en_ ec_; (first | subst ea_ | (injection ea_ with ea_; subst ea_)); subst ec_; clear en_))
                   have GB84 := Aside0.mk gb84; have GG84 := Aside0.mk HG84; clear gb84 gl84 HG84
                   (first | simp only [add_plain] at hx221_0 | skip)
                   obtain ⟨hx84_0, hf84_0⟩ := Kd.R_celln false HL222_0.out (x14_3 : Int) p84 q84; replace p84 := eq_true p84; replace q84 := eq_true q84; have hq86 : (x13_2 : Int) < (x6_3.length : Int) := (by have h_ : (x13_2 : Int) < ((x6_3.length : Int) : Int) := sqD; first | exact h_ | (have e_ := (Kd.S_reads' HO_6.out).1; omega) | simpa only [List.length_set, List.length_set] using h_); obtain ⟨oki86, ce86, hcl86, hM86, hcc86, hok86, hbk86⟩ := Kd.S_borrow HO_6.out [] (x13_2 : Int) (sqD) hq86; obtain ⟨ve86_0, rfl, ge86_0⟩ := hM86; have hv86 := hcc86 0 _ rfl; rw [Nat.add_zero, show ((Kd.slice 4 Kd.bool)).sz = 1 from rfl, Nat.mul_one] at hv86; replace hv86 := Option.some.inj (hv86.symm.trans HX222_0.out); subst hv86; clear hcc86 hcl86; replace ge86_0 := (show Kd.R Kd.bool 4 _ _ _ _ (rd_L9 x6_3 x13_2) from ge86_0); have HP86 := Kd.R_putg ge86_0 (x14_3 : Int) true
                   go_wp2_with (first | ((with_reducible refine gate_store (t := 4) (p := 157) rfl ?_); refine store_event (t := 4) (p := 157) (v := ?vo_w87) (w1 := (wr.setCell ⟨go84, (x14_3 : Int).toNat, none⟩ (.bool true))) ?hg ?ho ?hn ?hr ?_; (case ho => rfl); (case hg => rfl); (case hn => rfl); (case hr => first | (go_simp; done) | (go_simp; rfl)); intro w87 hw; have hg : wr.grownBy w87 (some go84) := (by rw [hw]; exact HP86.2); have hz_ : Kd.R Kd.bool 4 w87 w.heap.size oki86 (.slice (some ⟨go84, 0, none⟩) (rd_L9 x6_3 x13_2).length c220_0) y223 := (by rw [hw, Ny223.out]; exact HP86.1); have hp_ : Kd.S (Kd.slice 4 Kd.bool) 104 w87 w.heap.size (fun _ => True) (.slice (some ad220) x6_3.length co85) y225 := (by rw [Ny225.out]; exact hbk86 hg (fun k_ e_ => by injection e_ with e_; subst e_; exact ge86_0.1 _ rfl) (Kd.M_row hz_)); have hm_ := Kd.R_mono hz_ hok86; clear HP86 hbk86; replace HO_6 := Aside0.mk (hp_); replace BK197 := Aside0.mk (blk_grown (g := gb197) (o := .cells #[.slice A0_0 l0_0.length c0_0, .slice A0_1 l0_1.length c0_1] 25 (0, 0)) (sqK BK197) hg (Kd.R_ne HL222_0.out BK197.out (by decide))); replace HB := Aside0.mk (by rw [hw]; exact below_set (HB.out) GB84.out : Below w.heap.size w w87); have HL237 := Aside0.mk (hm_); have HC224 := Aside0.mk ((Kd.R_reads' hm_).2.1); clear HL220_0 HL222_0; clear hg hw hp_ hz_ hm_ hok86))
                   go_roundg k4
                   case measure => have := HK1.out; have := HK2.out; have := HK3.out; have := HK4.out; omega
                   case rel => exact ⟨(y225), (wrap64 (x14_3 + 1)), sqE, H', ⟨by have := HK1.out; have := HK2.out; have := HK3.out; have := HK4.out; omega⟩, ⟨sqS HO_6⟩, ⟨sqK BK197⟩, ⟨sqB HB⟩⟩
                  ·replace c83 := Bool.eq_false_iff.mpr c83
                   subst c83; rw [if_neg Bool.false_ne_true] at H; obtain ⟨ji88, hji88⟩ : ∃ j_ : Int, (wrap64 (x13_2 + 1)) = j_ := ⟨_, rfl⟩
                   replace H : (if 0 ≤ (ji88) then (if (ji88) < (x6_3.length : Int) then (if 0 ≤ x16_4 then (if x16_4 < ((rd_L9 x6_3 (ji88)).length : Int) then (if rdOf false (rd_L9 x6_3 (ji88)) x16_4 = true then ((rf_Step.f l0_0 l0_1 x13_2 x14_3 x16_4 (x13_2 == a1)).bind fun t228 => (rf_Sets.l7 k4 a1 x6_3 x13_2 x14_3 t228 (wrap64 (x16_4 + 1)) l0_0 l0_1)) else (rf_Sets.l7 k4 a1 x6_3 x13_2 x14_3 false (wrap64 (x16_4 + 1)) l0_0 l0_1)) else (none)) else (none)) else (none)) else (none)) = some r := by first | (rw [hji88] at H; exact H) | (simp only [hji88] at H ⊢; exact H)
                   have hji88w : (IntKind.i64.wrap (x13_2 + 1)) = ji88 := (i64_w _).trans hji88
                   by_cases c89 : 0 ≤ (ji88)
                   ·rw [if_pos c89] at H
                    have c89b0 : decide (0 ≤ (ji88)) = true := decide_eq_true c89; clear c89
                    by_cases c90 : (ji88) < (x6_3.length : Int)
                    ·rw [if_pos c90] at H
                     have c90b0 : decide ((ji88) < (x6_3.length : Int)) = true := decide_eq_true c90; clear c90
                     by_cases c91 : 0 ≤ x16_4
                     ·rw [if_pos c91] at H
                      have c91b0 : decide (0 ≤ x16_4) = true := decide_eq_true c91; clear c91
                      by_cases c92 : x16_4 < ((rd_L9 x6_3 (ji88)).length : Int)
                      ·rw [if_pos c92] at H
                       have c92b0 : decide (x16_4 < ((rd_L9 x6_3 (ji88)).length : Int)) = true := decide_eq_true c92; clear c92; obtain ⟨bq93, hbq93⟩ : ∃ b_ : Bool, b_ = (rdOf false (rd_L9 x6_3 (ji88)) x16_4) := ⟨_, rfl⟩
                       replace H : (if bq93 = true then ((rf_Step.f l0_0 l0_1 x13_2 x14_3 x16_4 (x13_2 == a1)).bind fun t228 => (rf_Sets.l7 k4 a1 x6_3 x13_2 x14_3 t228 (wrap64 (x16_4 + 1)) l0_0 l0_1)) else (rf_Sets.l7 k4 a1 x6_3 x13_2 x14_3 false (wrap64 (x16_4 + 1)) l0_0 l0_1)) = some r := by rw [← hbq93] at H; exact H
                       have Nbq93 := Aside0.mk hbq93; clear hbq93
                       by_cases c94 : bq93 = true
                       ·subst c94
                        rw [if_pos rfl] at H; obtain ⟨t228, A950, H⟩ := Option.bind_eq_some_iff.mp H; have A95 := Aside0.mk A950; clear A950; have H' := Aside0.mk H; clear H; obtain ⟨Ao96, co96, eo96⟩ := Kd.S_slice HO_6.out; subst eo96; have p220 : 0 ≤ (x13_2 : Int) := sqD; have q220 : x13_2 < (x6_3.length : Int) := sqD; obtain ⟨ad220, A220_0, c220_0, e220, hx220_0, hl220_0, hi220_0⟩ := at_L9 (Kd.S_reads' HO_6.out).2.2 x13_2 p220 q220
                        cases e220
                        obtain ⟨ce220, hce220, hMe220, hcc220⟩ := Kd.S_get HO_6.out [] x13_2 p220 (by first | exact q220 | exact sqD | (have e_ := (Kd.S_reads' HO_6.out).1; omega)); obtain ⟨ve220_0, rfl, ge220_0⟩ := hMe220; have hv220_0 := hcc220 0 _ rfl; rw [Nat.add_zero, show ((Kd.slice 4 Kd.bool)).sz = 1 from rfl, Nat.mul_one] at hv220_0; replace hv220_0 := Option.some.inj (hv220_0.symm.trans hx220_0); rw [hv220_0] at ge220_0; have HL220_0 := Aside0.mk (show Kd.R Kd.bool 4 _ _ _ _ (rd_L9 x6_3 x13_2) from ge220_0); clear hv220_0 ge220_0; have HX220_0 := Aside0.mk hx220_0; clear hcc220 hce220; have HR220_0 := Aside0.mk hi220_0; have HC220_0 := Aside0.mk hl220_0; clear hi220_0 hl220_0; replace p220 := eq_true p220; replace q220 := eq_true q220; have p221 : 0 ≤ (x14_3 : Int) := sqD; have q221 : x14_3 < ((rd_L9 x6_3 x13_2).length : Int) := sqD; obtain ⟨ad221, e221, hx221_0⟩ := Kd.at_bool (sqC HR220_0) x14_3 p221 q221
                        (try rw [← Nbq81.out] at hx221_0)
                        (try rw [← Nbq93.out] at hx221_0)
                        cases e221
                        replace p221 := eq_true p221; replace q221 := eq_true q221; have p226 : 0 ≤ ((ji88) : Int) := sqD; have q226 : (ji88) < (x6_3.length : Int) := sqD; obtain ⟨ad226, A226_0, c226_0, e226, hx226_0, hl226_0, hi226_0⟩ := at_L9 (Kd.S_reads' HO_6.out).2.2 (ji88) p226 q226; obtain rfl : ad220 = ad226 := (by injection e226); obtain ⟨ce226, hce226, hMe226, hcc226⟩ := Kd.S_get HO_6.out [] (ji88) p226 (by first | exact q226 | exact sqD | (have e_ := (Kd.S_reads' HO_6.out).1; omega)); obtain ⟨ve226_0, rfl, ge226_0⟩ := hMe226; have hv226_0 := hcc226 0 _ rfl; rw [Nat.add_zero, show ((Kd.slice 4 Kd.bool)).sz = 1 from rfl, Nat.mul_one] at hv226_0; replace hv226_0 := Option.some.inj (hv226_0.symm.trans hx226_0); rw [hv226_0] at ge226_0; have HL226_0 := Aside0.mk (show Kd.R Kd.bool 4 _ _ _ _ (rd_L9 x6_3 (ji88)) from ge226_0); clear hv226_0 ge226_0; have HX226_0 := Aside0.mk hx226_0; clear hcc226 hce226; have HR226_0 := Aside0.mk hi226_0; have HC226_0 := Aside0.mk hl226_0; clear hi226_0 hl226_0; replace p226 := eq_true p226; replace q226 := eq_true q226; have p227 : 0 ≤ (x16_4 : Int) := sqD; have q227 : x16_4 < ((rd_L9 x6_3 (ji88)).length : Int) := sqD; obtain ⟨ad227, e227, hx227_0⟩ := Kd.at_bool (sqC HR226_0) x16_4 p227 q227
                        (try rw [← Nbq81.out] at hx227_0)
                        (try rw [← Nbq93.out] at hx227_0)
                        cases e227
                        replace p227 := eq_true p227; replace q227 := eq_true q227; have hcz97_0 := sqc0 BK197; have hcz97_1 := sqc1 BK197; have hfz97_0 := blk_frozen BK197.out 0; have hfz97_1 := blk_frozen BK197.out 1
                        go_wp2_with (first | (go_at_call 65; (with_reducible refine (rf_Step.calls _ _ l0_0 _ _ l0_1 x13_2 x14_3 x16_4 (x13_2 == a1) t228 _ ?side1 ?side2 ?side3 ?side4 A95.out).mono ?_); (case side1 => exact sqQ HR0_0 HB); (case side2 => exact HC0_0.out); (case side3 => exact sqQ HR0_1 HB); (case side4 => exact HC0_1.out); rintro e w98 ⟨rfl, hb⟩; replace HO_6 := Aside0.mk (Kd.S_below (sqS HO_6) hb); replace HL220_0 := Aside0.mk (Kd.R_below (sqR HL220_0) hb); replace HL226_0 := Aside0.mk (Kd.R_below (sqR HL226_0) hb); replace BK197 := sqk BK197 hb; replace HR220_0 := Aside0.mk (Kd.C_below (sqC HR220_0) hb); replace HX220_0 := Aside0.mk (pw_cell_below hb HX220_0.out); replace HR226_0 := Aside0.mk (Kd.C_below (sqC HR226_0) hb); replace HX226_0 := Aside0.mk (pw_cell_below hb HX226_0.out); replace HB := sqb hb HB; (try clear hb); (try clear hb2); (try clear hk); (try clear hi)))
                        go_roundg k4
                        case measure => have := HK1.out; have := HK2.out; have := HK3.out; have := HK4.out; omega
                        case rel => exact ⟨(t228), (wrap64 (x16_4 + 1)), sqE, sqE, H', ⟨by have := HK1.out; have := HK2.out; have := HK3.out; have := HK4.out; omega⟩, ⟨sqS HO_6⟩, ⟨sqK BK197⟩, ⟨sqB HB⟩⟩
                       ·replace c94 := Bool.eq_false_iff.mpr c94
                        subst c94; rw [if_neg Bool.false_ne_true] at H; have H' := Aside0.mk H; clear H; obtain ⟨Ao99, co99, eo99⟩ := Kd.S_slice HO_6.out; subst eo99; have p220 : 0 ≤ (x13_2 : Int) := sqD; have q220 : x13_2 < (x6_3.length : Int) := sqD; obtain ⟨ad220, A220_0, c220_0, e220, hx220_0, hl220_0, hi220_0⟩ := at_L9 (Kd.S_reads' HO_6.out).2.2 x13_2 p220 q220
                        cases e220
                        obtain ⟨ce220, hce220, hMe220, hcc220⟩ := Kd.S_get HO_6.out [] x13_2 p220 (by first | exact q220 | exact sqD | (have e_ := (Kd.S_reads' HO_6.out).1; omega)); obtain ⟨ve220_0, rfl, ge220_0⟩ := hMe220; have hv220_0 := hcc220 0 _ rfl; rw [Nat.add_zero, show ((Kd.slice 4 Kd.bool)).sz = 1 from rfl, Nat.mul_one] at hv220_0; replace hv220_0 := Option.some.inj (hv220_0.symm.trans hx220_0); rw [hv220_0] at ge220_0; have HL220_0 := Aside0.mk (show Kd.R Kd.bool 4 _ _ _ _ (rd_L9 x6_3 x13_2) from ge220_0); clear hv220_0 ge220_0; have HX220_0 := Aside0.mk hx220_0; clear hcc220 hce220; have HR220_0 := Aside0.mk hi220_0; have HC220_0 := Aside0.mk hl220_0; clear hi220_0 hl220_0; replace p220 := eq_true p220; replace q220 := eq_true q220; have p221 : 0 ≤ (x14_3 : Int) := sqD; have q221 : x14_3 < ((rd_L9 x6_3 x13_2).length : Int) := sqD; obtain ⟨ad221, e221, hx221_0⟩ := Kd.at_bool (sqC HR220_0) x14_3 p221 q221
                        (try rw [← Nbq81.out] at hx221_0)
                        (try rw [← Nbq93.out] at hx221_0)
                        cases e221
                        replace p221 := eq_true p221; replace q221 := eq_true q221; have p226 : 0 ≤ ((ji88) : Int) := sqD; have q226 : (ji88) < (x6_3.length : Int) := sqD; obtain ⟨ad226, A226_0, c226_0, e226, hx226_0, hl226_0, hi226_0⟩ := at_L9 (Kd.S_reads' HO_6.out).2.2 (ji88) p226 q226; obtain rfl : ad220 = ad226 := (by injection e226); obtain ⟨ce226, hce226, hMe226, hcc226⟩ := Kd.S_get HO_6.out [] (ji88) p226 (by first | exact q226 | exact sqD | (have e_ := (Kd.S_reads' HO_6.out).1; omega)); obtain ⟨ve226_0, rfl, ge226_0⟩ := hMe226; have hv226_0 := hcc226 0 _ rfl; rw [Nat.add_zero, show ((Kd.slice 4 Kd.bool)).sz = 1 from rfl, Nat.mul_one] at hv226_0; replace hv226_0 := Option.some.inj (hv226_0.symm.trans hx226_0); rw [hv226_0] at ge226_0; have HL226_0 := Aside0.mk (show Kd.R Kd.bool 4 _ _ _ _ (rd_L9 x6_3 (ji88)) from ge226_0); clear hv226_0 ge226_0; have HX226_0 := Aside0.mk hx226_0; clear hcc226 hce226; have HR226_0 := Aside0.mk hi226_0; have HC226_0 := Aside0.mk hl226_0; clear hi226_0 hl226_0; replace p226 := eq_true p226; replace q226 := eq_true q226; have p227 : 0 ≤ (x16_4 : Int) := sqD; have q227 : x16_4 < ((rd_L9 x6_3 (ji88)).length : Int) := sqD; obtain ⟨ad227, e227, hx227_0⟩ := Kd.at_bool (sqC HR226_0) x16_4 p227 q227
                        (try rw [← Nbq81.out] at hx227_0)
                        (try rw [← Nbq93.out] at hx227_0)
                        cases e227
                        replace p227 := eq_true p227; replace q227 := eq_true q227
                        go_wp2
                        go_roundg k4
                        case measure => have := HK1.out; have := HK2.out; have := HK3.out; have := HK4.out; omega
                        case rel => exact ⟨(false), (wrap64 (x16_4 + 1)), sqE, sqE, H', ⟨by have := HK1.out; have := HK2.out; have := HK3.out; have := HK4.out; omega⟩, ⟨sqS HO_6⟩, ⟨sqK BK197⟩, ⟨sqB HB⟩⟩
                      ·rw [if_neg c92] at H
                       exact absurd H (by simp)
                     ·rw [if_neg c91] at H
                      exact absurd H (by simp)
                    ·rw [if_neg c90] at H
                     exact absurd H (by simp)
                   ·rw [if_neg c89] at H
                    exact absurd H (by simp)
                 ·replace c82 := Bool.eq_false_iff.mpr c82
                  subst c82; rw [if_neg Bool.false_ne_true] at H; replace H : ∃ y_ : List Bool, y_ = ((rd_L9 x6_3 x13_2).set (x14_3 : Int).toNat x15_4) ∧ (rf_Sets.l6 k4 a1 (x6_3.set (x13_2 : Int).toNat y_) x13_2 (wrap64 (x14_3 + 1)) l0_0 l0_1) = some r := ⟨_, rfl, sqJ H⟩; obtain ⟨y230, hy230, H⟩ := H; have Ny230 := Aside0.mk hy230; clear hy230; replace H : ∃ y_ : List (List Bool), y_ = (x6_3.set (x13_2 : Int).toNat y230) ∧ (rf_Sets.l6 k4 a1 y_ x13_2 (wrap64 (x14_3 + 1)) l0_0 l0_1) = some r := ⟨_, rfl, sqJ H⟩; obtain ⟨y232, hy232, H⟩ := H; have Ny232 := Aside0.mk hy232; clear hy232; have H' := Aside0.mk H; clear H; obtain ⟨Ao101, co101, eo101⟩ := Kd.S_slice HO_6.out; subst eo101; have p220 : 0 ≤ (x13_2 : Int) := sqD; have q220 : x13_2 < (x6_3.length : Int) := sqD; obtain ⟨ad220, A220_0, c220_0, e220, hx220_0, hl220_0, hi220_0⟩ := at_L9 (Kd.S_reads' HO_6.out).2.2 x13_2 p220 q220
                  cases e220
                  obtain ⟨ce220, hce220, hMe220, hcc220⟩ := Kd.S_get HO_6.out [] x13_2 p220 (by first | exact q220 | exact sqD | (have e_ := (Kd.S_reads' HO_6.out).1; omega)); obtain ⟨ve220_0, rfl, ge220_0⟩ := hMe220; have hv220_0 := hcc220 0 _ rfl; rw [Nat.add_zero, show ((Kd.slice 4 Kd.bool)).sz = 1 from rfl, Nat.mul_one] at hv220_0; replace hv220_0 := Option.some.inj (hv220_0.symm.trans hx220_0); rw [hv220_0] at ge220_0; have HL220_0 := Aside0.mk (show Kd.R Kd.bool 4 _ _ _ _ (rd_L9 x6_3 x13_2) from ge220_0); clear hv220_0 ge220_0; have HX220_0 := Aside0.mk hx220_0; clear hcc220 hce220; have HR220_0 := Aside0.mk hi220_0; have HC220_0 := Aside0.mk hl220_0; clear hi220_0 hl220_0; replace p220 := eq_true p220; replace q220 := eq_true q220; have p221 : 0 ≤ (x14_3 : Int) := sqD; have q221 : x14_3 < ((rd_L9 x6_3 x13_2).length : Int) := sqD; obtain ⟨ad221, e221, hx221_0⟩ := Kd.at_bool (sqC HR220_0) x14_3 p221 q221
                  (try rw [← Nbq81.out] at hx221_0)
                  cases e221
                  replace p221 := eq_true p221; replace q221 := eq_true q221; have p229 : 0 ≤ (x13_2 : Int) := sqD; have q229 : x13_2 < (x6_3.length : Int) := sqD; obtain ⟨ad229, A229_0, c229_0, e229, hx229_0, hl229_0, hi229_0⟩ := at_L9 (Kd.S_reads' HO_6.out).2.2 x13_2 p229 q229; obtain rfl : ad220 = ad229 := (by injection e229); obtain ⟨ce229, hce229, hMe229, hcc229⟩ := Kd.S_get HO_6.out [] x13_2 p229 (by first | exact q229 | exact sqD | (have e_ := (Kd.S_reads' HO_6.out).1; omega)); obtain ⟨ve229_0, rfl, ge229_0⟩ := hMe229; have hv229_0 := hcc229 0 _ rfl; rw [Nat.add_zero, show ((Kd.slice 4 Kd.bool)).sz = 1 from rfl, Nat.mul_one] at hv229_0; replace hv229_0 := Option.some.inj (hv229_0.symm.trans hx229_0); rw [hv229_0] at ge229_0; have HL229_0 := Aside0.mk (show Kd.R Kd.bool 4 _ _ _ _ (rd_L9 x6_3 x13_2) from ge229_0); clear hv229_0 ge229_0; have HX229_0 := Aside0.mk hx229_0; clear hcc229 hce229; have HR229_0 := Aside0.mk hi229_0; have HC229_0 := Aside0.mk hl229_0; clear hi229_0 hl229_0; replace p229 := eq_true p229; replace q229 := eq_true q229; have ea_ := Option.some.inj (hx220_0.symm.trans hx229_0)
                  injection ea_ with ea_ en_ ec_
                  subst ea_; subst ec_; clear en_; have p100 : 0 ≤ (x14_3 : Int) := sqD; have q100 : (x14_3 : Int) < (((rd_L9 x6_3 x13_2).length : Int) : Int) := sqD; obtain ⟨go100, co100, eo100, gb100, gl100, cl100, HG100⟩ := Kd.R_form HL229_0.out (by omega)
                  (first | cases eo100 | (injection eo100 with ea_ en_ ec_; (first | subst ea_ | (injection ea_ with ea_; subst ea_)); subst ec_; clear en_))
                  have GB100 := Aside0.mk gb100; have GG100 := Aside0.mk HG100; clear gb100 gl100 HG100
                  (first | simp only [add_plain] at hx221_0 | skip)
                  obtain ⟨hx100_0, hf100_0⟩ := Kd.R_celln false HL229_0.out (x14_3 : Int) p100 q100; replace p100 := eq_true p100; replace q100 := eq_true q100; have hq102 : (x13_2 : Int) < (x6_3.length : Int) := (by have h_ : (x13_2 : Int) < ((x6_3.length : Int) : Int) := sqD; first | exact h_ | (have e_ := (Kd.S_reads' HO_6.out).1; omega) | simpa only [List.length_set, List.length_set] using h_); obtain ⟨oki102, ce102, hcl102, hM102, hcc102, hok102, hbk102⟩ := Kd.S_borrow HO_6.out [] (x13_2 : Int) (sqD) hq102; obtain ⟨ve102_0, rfl, ge102_0⟩ := hM102; have hv102 := hcc102 0 _ rfl; rw [Nat.add_zero, show ((Kd.slice 4 Kd.bool)).sz = 1 from rfl, Nat.mul_one] at hv102; replace hv102 := Option.some.inj (hv102.symm.trans HX229_0.out); subst hv102; clear hcc102 hcl102; replace ge102_0 := (show Kd.R Kd.bool 4 _ _ _ _ (rd_L9 x6_3 x13_2) from ge102_0); have HP102 := Kd.R_putg ge102_0 (x14_3 : Int) x15_4
                  go_wp2_with (first | ((with_reducible refine gate_store (t := 4) (p := 157) rfl ?_); refine store_event (t := 4) (p := 157) (v := ?vo_w103) (w1 := (wr.setCell ⟨go100, (x14_3 : Int).toNat, none⟩ (.bool x15_4))) ?hg ?ho ?hn ?hr ?_; (case ho => rfl); (case hg => rfl); (case hn => rfl); (case hr => first | (go_simp; done) | (go_simp; rfl)); intro w103 hw; have hg : wr.grownBy w103 (some go100) := (by rw [hw]; exact HP102.2); have hz_ : Kd.R Kd.bool 4 w103 w.heap.size oki102 (.slice (some ⟨go100, 0, none⟩) (rd_L9 x6_3 x13_2).length c220_0) y230 := (by rw [hw, Ny230.out]; exact HP102.1); have hp_ : Kd.S (Kd.slice 4 Kd.bool) 104 w103 w.heap.size (fun _ => True) (.slice (some ad220) x6_3.length co101) y232 := (by rw [Ny232.out]; exact hbk102 hg (fun k_ e_ => by injection e_ with e_; subst e_; exact ge102_0.1 _ rfl) (Kd.M_row hz_)); have hm_ := Kd.R_mono hz_ hok102; clear HP102 hbk102; replace HO_6 := Aside0.mk (hp_); replace BK197 := Aside0.mk (blk_grown (g := gb197) (o := .cells #[.slice A0_0 l0_0.length c0_0, .slice A0_1 l0_1.length c0_1] 25 (0, 0)) (sqK BK197) hg (Kd.R_ne HL229_0.out BK197.out (by decide))); replace HB := Aside0.mk (by rw [hw]; exact below_set (HB.out) GB100.out : Below w.heap.size w w103); have HL238 := Aside0.mk (hm_); have HC231 := Aside0.mk ((Kd.R_reads' hm_).2.1); clear HL220_0 HL229_0; clear hg hw hp_ hz_ hm_ hok102))
                  go_roundg k4
                  case measure => have := HK1.out; have := HK2.out; have := HK3.out; have := HK4.out; omega
                  case rel => exact ⟨(y232), (wrap64 (x14_3 + 1)), sqE, H', ⟨by have := HK1.out; have := HK2.out; have := HK3.out; have := HK4.out; omega⟩, ⟨sqS HO_6⟩, ⟨sqK BK197⟩, ⟨sqB HB⟩⟩
                ·rw [if_neg c80] at H
                 exact absurd H (by simp)
               ·rw [if_neg c79] at H
                exact absurd H (by simp)
              ·rw [if_neg c78] at H
               exact absurd H (by simp)
             ·rw [if_neg c77] at H
              exact absurd H (by simp)
            ·rw [if_neg c76] at H
             have c76b0 : decide (x16_4 ≤ x14_3) = false := decide_eq_false c76; clear c76
             by_cases c104 : 0 ≤ x13_2
             ·rw [if_pos c104] at H
              have c104b0 : decide (0 ≤ x13_2) = true := decide_eq_true c104; clear c104
              by_cases c105 : x13_2 < (x6_3.length : Int)
              ·rw [if_pos c105] at H
               have c105b0 : decide (x13_2 < (x6_3.length : Int)) = true := decide_eq_true c105; clear c105
               by_cases c106 : 0 ≤ x14_3
               ·rw [if_pos c106] at H
                have c106b0 : decide (0 ≤ x14_3) = true := decide_eq_true c106; clear c106
                by_cases c107 : x14_3 < ((rd_L9 x6_3 x13_2).length : Int)
                ·rw [if_pos c107] at H
                 have c107b0 : decide (x14_3 < ((rd_L9 x6_3 x13_2).length : Int)) = true := decide_eq_true c107; clear c107; replace H : ∃ y_ : List Bool, y_ = ((rd_L9 x6_3 x13_2).set (x14_3 : Int).toNat x15_4) ∧ (rf_Sets.l6 k4 a1 (x6_3.set (x13_2 : Int).toNat y_) x13_2 (wrap64 (x14_3 + 1)) l0_0 l0_1) = some r := ⟨_, rfl, sqJ H⟩; obtain ⟨y234, hy234, H⟩ := H; have Ny234 := Aside0.mk hy234; clear hy234; replace H : ∃ y_ : List (List Bool), y_ = (x6_3.set (x13_2 : Int).toNat y234) ∧ (rf_Sets.l6 k4 a1 y_ x13_2 (wrap64 (x14_3 + 1)) l0_0 l0_1) = some r := ⟨_, rfl, sqJ H⟩; obtain ⟨y236, hy236, H⟩ := H; have Ny236 := Aside0.mk hy236; clear hy236; have H' := Aside0.mk H; clear H; obtain ⟨Ao109, co109, eo109⟩ := Kd.S_slice HO_6.out; subst eo109; have p233 : 0 ≤ (x13_2 : Int) := sqD; have q233 : x13_2 < (x6_3.length : Int) := sqD; obtain ⟨ad233, A233_0, c233_0, e233, hx233_0, hl233_0, hi233_0⟩ := at_L9 (Kd.S_reads' HO_6.out).2.2 x13_2 p233 q233
                 cases e233
                 obtain ⟨ce233, hce233, hMe233, hcc233⟩ := Kd.S_get HO_6.out [] x13_2 p233 (by first | exact q233 | exact sqD | (have e_ := (Kd.S_reads' HO_6.out).1; omega)); obtain ⟨ve233_0, rfl, ge233_0⟩ := hMe233; have hv233_0 := hcc233 0 _ rfl; rw [Nat.add_zero, show ((Kd.slice 4 Kd.bool)).sz = 1 from rfl, Nat.mul_one] at hv233_0; replace hv233_0 := Option.some.inj (hv233_0.symm.trans hx233_0); rw [hv233_0] at ge233_0; have HL233_0 := Aside0.mk (show Kd.R Kd.bool 4 _ _ _ _ (rd_L9 x6_3 x13_2) from ge233_0); clear hv233_0 ge233_0; have HX233_0 := Aside0.mk hx233_0; clear hcc233 hce233; have HR233_0 := Aside0.mk hi233_0; have HC233_0 := Aside0.mk hl233_0; clear hi233_0 hl233_0; replace p233 := eq_true p233; replace q233 := eq_true q233; have p108 : 0 ≤ (x14_3 : Int) := sqD; have q108 : (x14_3 : Int) < (((rd_L9 x6_3 x13_2).length : Int) : Int) := sqD; obtain ⟨go108, co108, eo108, gb108, gl108, cl108, HG108⟩ := Kd.R_form HL233_0.out (by omega)
                 (first | cases eo108 | (injection eo108 with ea_ en_ ec_; (first | subst ea_ | (injection ea_ with ea_; subst ea_)); subst ec_; clear en_))
                 have GB108 := Aside0.mk gb108; have GG108 := Aside0.mk HG108; clear gb108 gl108 HG108; obtain ⟨hx108_0, hf108_0⟩ := Kd.R_celln false HL233_0.out (x14_3 : Int) p108 q108; replace p108 := eq_true p108; replace q108 := eq_true q108; have hq110 : (x13_2 : Int) < (x6_3.length : Int) := (by have h_ : (x13_2 : Int) < ((x6_3.length : Int) : Int) := sqD; first | exact h_ | (have e_ := (Kd.S_reads' HO_6.out).1; omega) | simpa only [List.length_set, List.length_set] using h_); obtain ⟨oki110, ce110, hcl110, hM110, hcc110, hok110, hbk110⟩ := Kd.S_borrow HO_6.out [] (x13_2 : Int) (sqD) hq110; obtain ⟨ve110_0, rfl, ge110_0⟩ := hM110; have hv110 := hcc110 0 _ rfl; rw [Nat.add_zero, show ((Kd.slice 4 Kd.bool)).sz = 1 from rfl, Nat.mul_one] at hv110; replace hv110 := Option.some.inj (hv110.symm.trans HX233_0.out); subst hv110; clear hcc110 hcl110; replace ge110_0 := (show Kd.R Kd.bool 4 _ _ _ _ (rd_L9 x6_3 x13_2) from ge110_0); have HP110 := Kd.R_putg ge110_0 (x14_3 : Int) x15_4
                 go_wp2_with (first | ((with_reducible refine gate_store (t := 4) (p := 157) rfl ?_); refine store_event (t := 4) (p := 157) (v := ?vo_w111) (w1 := (wr.setCell ⟨go108, (x14_3 : Int).toNat, none⟩ (.bool x15_4))) ?hg ?ho ?hn ?hr ?_; (case ho => rfl); (case hg => rfl); (case hn => rfl); (case hr => first | (go_simp; done) | (go_simp; rfl)); intro w111 hw; have hg : wr.grownBy w111 (some go108) := (by rw [hw]; exact HP110.2); have hz_ : Kd.R Kd.bool 4 w111 w.heap.size oki110 (.slice (some ⟨go108, 0, none⟩) (rd_L9 x6_3 x13_2).length c233_0) y234 := (by rw [hw, Ny234.out]; exact HP110.1); have hp_ : Kd.S (Kd.slice 4 Kd.bool) 104 w111 w.heap.size (fun _ => True) (.slice (some ad233) x6_3.length co109) y236 := (by rw [Ny236.out]; exact hbk110 hg (fun k_ e_ => by injection e_ with e_; subst e_; exact ge110_0.1 _ rfl) (Kd.M_row hz_)); have hm_ := Kd.R_mono hz_ hok110; clear HP110 hbk110; replace HO_6 := Aside0.mk (hp_); replace BK197 := Aside0.mk (blk_grown (g := gb197) (o := .cells #[.slice A0_0 l0_0.length c0_0, .slice A0_1 l0_1.length c0_1] 25 (0, 0)) (sqK BK197) hg (Kd.R_ne HL233_0.out BK197.out (by decide))); replace HB := Aside0.mk (by rw [hw]; exact below_set (HB.out) GB108.out : Below w.heap.size w w111); have HL239 := Aside0.mk (hm_); have HC235 := Aside0.mk ((Kd.R_reads' hm_).2.1); clear HL233_0; clear hg hw hp_ hz_ hm_ hok110))
                 go_roundg k4
                 case measure => have := HK1.out; have := HK2.out; have := HK3.out; have := HK4.out; omega
                 case rel => exact ⟨(y236), (wrap64 (x14_3 + 1)), sqE, H', ⟨by have := HK1.out; have := HK2.out; have := HK3.out; have := HK4.out; omega⟩, ⟨sqS HO_6⟩, ⟨sqK BK197⟩, ⟨sqB HB⟩⟩
                ·rw [if_neg c107] at H
                 exact absurd H (by simp)
               ·rw [if_neg c106] at H
                exact absurd H (by simp)
              ·rw [if_neg c105] at H
               exact absurd H (by simp)
             ·rw [if_neg c104] at H
              exact absurd H (by simp)
         ·rw [if_neg c75] at H
          have c75b0 : decide (x14_3 ≤ 400) = false := decide_eq_false c75; clear c75; have H' := Aside0.mk H; clear H; go_wp2
          go_roundg k3
          case measure => have := HK1.out; have := HK2.out; have := HK3.out; omega
          case rel => exact ⟨(x6_3), (wrap64 (x13_2 - 1)), sqE, H', ⟨by have := HK1.out; have := HK2.out; have := HK3.out; omega⟩, ⟨sqS HO_6⟩, ⟨sqK BK197⟩, ⟨sqB HB⟩⟩
      ·rw [if_neg c74] at H
       have c74b0 : decide (0 ≤ x13_2) = false := decide_eq_false c74; clear c74; obtain rfl := Option.some.inj H
       go_wp2
       go_ret
       exact ⟨_, by first | rfl | (simp [errW_none, errW_some] <;> rfl) | (simp [*, errW_none, errW_some] <;> rfl), by (with_reducible repeat (first | apply Kd.S_alloc | apply Kd.S_drewN | apply Kd.S_drew)); exact HO_6.out, sqB HB⟩
end Go.Proofs.YtemingmeidmjkaaDoor.Q
