/- Functions printed by the kit's printer over these walks, and the plain law. No condition. -/
import Derived.Test.YtemingmeidmjkaaDoorX0
import Derived.Test.YtemingmeidmjkaaDoorX3
import Derived.Test.YtemingmeidmjkaaDoorX2
import Derived.Test.YtemingmeidmjkaaDoorX1
set_option linter.unusedVariables false
set_option linter.unusedSimpArgs false
namespace Go.Proofs.YtemingmeidmjkaaDoor.Q
open Go.RowKit Go.Proofs.YtemingmeidmjkaaDoorW.PrintWords Go.Proofs.YtemingmeidmjkaaDoorW.PrintLast Go.Proofs.YtemingmeidmjkaaDoorW.PrintMore
attribute [local go_sem] max2_int min2_int max_two min_two max_three min_three max_four min_four   -- for this text's walks alone
set_option linter.unusedVariables false
set_option linter.unusedSimpArgs false
def lw_known.f  : Option (Bool) := some true
theorem lw_known.calls  (r : Bool) (w : World) (hG : GL w) (h : lw_known.f  = some r) :
  Calls Tryd.prog 17 #[] w fun e w' => e = .returned (.bool r) ∧ Below w.heap.size w w' := by
 unfold lw_known.f at h
 obtain rfl := Option.some.inj h; exact known_ w hG
end Go.Proofs.YtemingmeidmjkaaDoor.Q
namespace Go.Proofs.YtemingmeidmjkaaDoor.Q
open Go.RowKit Go.Proofs.YtemingmeidmjkaaDoorW.PrintWords Go.Proofs.YtemingmeidmjkaaDoorW.PrintLast Go.Proofs.YtemingmeidmjkaaDoorW.PrintMore
attribute [local go_sem] max2_int min2_int max_two min_two max_three min_three max_four min_four   -- for this text's walks alone
set_option linter.unusedVariables false
set_option linter.unusedSimpArgs false
def rf_Copy.f (l0_0 : List (S41)) (l0_1 : List (S80)) : Option ((List (S41)) × (List (S80))) := (some (([] : List (S41)) : List (S41))).bind fun y153 => (if y153.length + l0_0.length < 8796093022208 then ((some (([] : List (S80)) : List (S80))).bind fun y159 => (if y159.length + l0_1.length < 5864062014805 then (some ((y153 ++ l0_0), (y159 ++ l0_1))) else (none))) else (none))
def rf_Copy.T1 : Bool × List (List Nat × List Nat) := (true, [([], []), ([], []), ([1], [1]), ([0, 2], [0, 2]), ([], []), ([], []), ([5], [5]), ([4, 6, 3], [4, 6]), ([3, 7], [3, 7]), ([8, 7, 0, 1, 2, 3, 4, 5, 6, 7, 8], [8])])
def rf_Copy.B1 : List Nat := [0, 0, 2, 7, 0, 0, 32, 127, 255, 511]
theorem rf_Copy.tab1 : rtab .any (opsOf Tryd.f18 1) = rf_Copy.T1 := by kernel_rfl
theorem rf_Copy.bits1 : waitsOk rf_Copy.T1.2 rf_Copy.B1 = true := by kernel_rfl
set_option maxHeartbeats 8000000 in
set_option maxRecDepth 100000 in
theorem rf_Copy.calls (A0_0 : Option Addr) (c0_0 : Nat) (l0_0 : List (S41)) (A0_1 : Option Addr) (c0_1 : Nat) (l0_1 : List (S80)) (r1 : List (S41)) (r2 : List (S80)) (w : World) (hr0_0 : Kd.C k41 w A0_0 l0_0.length l0_0) (hc0_0 : l0_0.length ≤ c0_0) (hr0_1 : Kd.C k80 w A0_1 l0_1.length l0_1) (hc0_1 : l0_1.length ≤ c0_1) (h : rf_Copy.f l0_0 l0_1 = some (r1, r2)) :
  Calls Tryd.prog 18 #[.agg #[.slice A0_0 l0_0.length c0_0, .slice A0_1 l0_1.length c0_1]] w fun e w' => ∃ v0_ v1_ : Value, e = .returned (.agg #[v0_, v1_]) ∧ Kd.R k41 41 w' w.heap.size (fun _ => True) v0_ r1 ∧ Kd.R k80 80 w' w.heap.size (fun _ => True) v1_ r2 ∧ Below w.heap.size w w' := by
 have hu25 := Tryd.underlying25; have HR0_0 := Aside0.mk hr0_0; have HC0_0 := Aside0.mk hc0_0; clear hr0_0 hc0_0; have HR0_1 := Aside0.mk hr0_1; have HC0_1 := Aside0.mk hc0_1; clear hr0_1 hc0_1; have HB := Aside0.mk (Below.refl w.heap.size w); have H : ((some (([] : List (S41)) : List (S41))).bind fun y153 => (if y153.length + l0_0.length < 8796093022208 then ((some (([] : List (S80)) : List (S80))).bind fun y159 => (if y159.length + l0_1.length < 5864062014805 then (some ((y153 ++ l0_0), (y159 ++ l0_1))) else (none))) else (none))) = some (r1, r2) := h; clear h; replace H : ∃ y_ : List (S41), y_ = (([] : List (S41))) ∧ (if y_.length + l0_0.length < 8796093022208 then ((some (([] : List (S80)) : List (S80))).bind fun y159 => (if y159.length + l0_1.length < 5864062014805 then (some ((y_ ++ l0_0), (y159 ++ l0_1))) else (none))) else (none)) = some (r1, r2) := ⟨_, rfl, sqJ H⟩; obtain ⟨y153, hy153, H⟩ := H; have Ny153 := Aside0.mk hy153; clear hy153
 by_cases c2 : y153.length + l0_0.length < 8796093022208
 ·rw [if_pos c2] at H
  have LMc2 := Aside0.mk c2; clear c2; replace H : ∃ y_ : List (S41), y_ = (y153 ++ l0_0) ∧ ((some (([] : List (S80)) : List (S80))).bind fun y159 => (if y159.length + l0_1.length < 5864062014805 then (some (y_, (y159 ++ l0_1))) else (none))) = some (r1, r2) := ⟨_, rfl, sqJ H⟩; obtain ⟨y156, hy156, H⟩ := H; have Ny156 := Aside0.mk hy156; clear hy156; replace H : ∃ y_ : List (S80), y_ = (([] : List (S80))) ∧ (if y_.length + l0_1.length < 5864062014805 then (some (y156, (y_ ++ l0_1))) else (none)) = some (r1, r2) := ⟨_, rfl, sqJ H⟩; obtain ⟨y159, hy159, H⟩ := H; have Ny159 := Aside0.mk hy159; clear hy159
  by_cases c3 : y159.length + l0_1.length < 5864062014805
  ·rw [if_pos c3] at H
   have LMc3 := Aside0.mk c3; clear c3; replace H : ∃ y_ : List (S80), y_ = (y159 ++ l0_1) ∧ (some (y156, y_)) = some (r1, r2) := ⟨_, rfl, sqJ H⟩; obtain ⟨y162, hy162, H⟩ := H; have Ny162 := Aside0.mk hy162; clear hy162; simp only [Option.some.injEq, Prod.mk.injEq] at H; obtain ⟨rfl, rfl⟩ := H
   go_enter Tryd.func18, Tryd.ntmps18
   try go_wp2_with (first | ((with_reducible refine gate_dst (N := 1) rfl ?_); refine box_event ?hg (N := 1) ?hd (cs := #[.slice A0_0 l0_0.length c0_0, .slice A0_1 l0_1.length c0_1]) (t := 25) ?hr ?_; (case hd => rfl); (case hg => rfl); (case hr => first | (go_simp; done) | (go_simp; rfl)); intro gb151 hg w4 hbox hb; have BK151 := Aside0.mk (hbox); have GW151 := Aside0.mk (sqZ hg HB); have GE151 := Aside0.mk (sqZ hg HB); replace HB := sqb hb HB; clear hb hbox hg) | ((with_reducible refine gate_dst (N := 2) rfl ?_); refine box_event ?hg (N := 2) ?hd (cs := #[.slice none 0 0, .slice none 0 0]) (t := 25) ?hr ?_; (case hd => rfl); (case hg => rfl); (case hr => first | (go_simp; done) | (go_simp; rfl)); intro gb152 hg w5 hbox hb; have BK152 := Aside0.mk (hbox); have GW152 := Aside0.mk (sqZ hg HB); have GE152 := Aside0.mk (sqZ hg HB); replace HB := sqb hb HB; have NB151_152 := Aside0.mk (sqL hg BK151); have NB152_151 := Aside0.mk (sqG hg BK151); replace BK151 := sqk BK151 hb; clear hb hbox hg))
   have n0_ := Aside0.mk (blk_drew BK151.out); have n1_ := Aside0.mk (blk_drew BK152.out); have n2_ := Aside0.mk (below_drew1 HB.out); clear BK151 BK152 HB; have BK151 := n0_; have BK152 := n1_; have HB := n2_; clear n0_ n1_ n2_; refine start_ (n := 10) (S := fun w' => w'.cell? ⟨gb151, 0, none⟩ = some (.slice A0_0 l0_0.length c0_0) ∧ w'.cell? ⟨gb151, 1, none⟩ = some (.slice A0_1 l0_1.length c0_1)) (ds := []) (bm 10 0) sqF rfl rfl ⟨(blk_cell BK151.out 0).trans rfl, (blk_cell BK151.out 1).trans rfl⟩ (fun hHeld => ?_); refine with_tabW rf_Copy.tab1 rf_Copy.bits1 (fun HT_ HW_ => ?_)
   generalize w5.drew = w6 at BK151 BK152 HB hHeld ⊢
   refine pure_ (i := 1) (N := some 4) (v := ?_) (a' := ?_) (bm 10 2) rfl rfl (any_of HT_.out sqF) (fun _ _ _ h => h) (Or.inl ⟨by rfl, ?_⟩) ?_ ?_
   rotate_left
   ·intro w'
    go_simp; with_reducible rfl
   rotate_left
   ·simp only [Act.put, sqA, i64_w, i32_w]; rfl
   refine pure_ (i := 5) (N := some 8) (v := ?_) (a' := ?_) (bm 10 34) rfl rfl (any_of HT_.out sqF) (fun _ _ _ h => h) (Or.inl ⟨by rfl, ?_⟩) ?_ ?_
   rotate_left
   ·intro w'
    go_simp; with_reducible rfl
   rotate_left
   ·simp only [Act.put, sqA, i64_w, i32_w]; rfl
   refine take_ (i := 2) (N := some 5) (v := ?_) (a' := ?_) (bm 10 38) rfl rfl (take_ofW HT_.out HW_.out sqF) (fun _ _ _ h => h) (Or.inl ⟨by rfl, ?_⟩) hHeld ?_ ?_
   rotate_left
   ·rintro w' ⟨s0, s1⟩
    go_simp; with_reducible rfl
   rotate_left
   ·simp only [Act.put, sqA, i64_w, i32_w]; rfl
   refine take_ (i := 6) (N := some 9) (v := ?_) (a' := ?_) (bm 10 102) rfl rfl (take_ofW HT_.out HW_.out sqF) (fun _ _ _ h => h) (Or.inl ⟨by rfl, ?_⟩) hHeld ?_ ?_
   rotate_left
   ·rintro w' ⟨s0, s1⟩
    go_simp; with_reducible rfl
   rotate_left
   ·simp only [Act.put, sqA, i64_w, i32_w]; rfl
   refine join_ (σ := Value × Value × Value) 3 #[true, true, true, true, true, true, true, false, false, false] (fun s_ => [(3, s_.1), (6, s_.2.1), (7, s_.2.2)]) (fun s_ w' => (w'.cell? ⟨gb151, 0, none⟩ = some (.slice A0_0 l0_0.length c0_0) ∧ w'.cell? ⟨gb151, 1, none⟩ = some (.slice A0_1 l0_1.length c0_1)) ∧ (Kd.R k41 41 w' w.heap.size (fun _ => True) s_.2.1 y156) ∧ (Kd.R k80 80 w' w.heap.size (fun _ => True) s_.2.2 y159) ∧ (w'.heap[gb151]? = some (.cells #[.slice A0_0 l0_0.length c0_0, .slice A0_1 l0_1.length c0_1] 25 (0, 0))) ∧ (w'.heap[gb152]? = some (.cells #[.slice none 0 0, .slice none 0 0] 25 (0, 0))) ∧ (Below w.heap.size w w')) ?_ ?_; rotate_left
   ·intro hCont
    refine two_ (i := 0) (j := 4) (Ni := some 3) (Nj := some 7) (bm 10 103) #[false, true, true, false, true, true, true, false, false, false] rfl rfl rfl rfl (two_of HT_.out sqF) (by decide) (by decide) (fun K hK => ?_) (fun K hK => ?_)
    ·skip
     refine Kd.R_lit_step k41 _ 41 ?hg (N := 3) ?hd (xs := ([] : List (S41))) (inner := []) (ok := fun _ => True) (okp := fun _ => True) ?hr ?hp (fun _ hk => hk) trivial (Below.refl _ _) (Nat.le_refl _) (by simp) ?_; (case hd => rfl); (case hg => rfl); (case hr => first | (go_simp; done) | (go_simp; rfl)); (case hp => exact (Reps.none _ _)); intro v154 w7 ho8 hb hg_ hnew_; clear hg_ hnew_
     (first | rw [← Ny153.out] at ho8 | (simp only [Int.reduceToNat] at ho8; rw [← Ny153.out] at ho8))
     have n0_ := Aside0.mk (Kd.R_lower ho8 (below_size (sqB HB))); have n1_ := Aside0.mk (blk_below (g := gb151) (o := .cells #[.slice A0_0 l0_0.length c0_0, .slice A0_1 l0_1.length c0_1] 25 (0, 0)) (sqK BK151) hb); have n2_ := Aside0.mk (blk_below (g := gb152) (o := .cells #[.slice none 0 0, .slice none 0 0] 25 (0, 0)) (sqK BK152) hb); have n3_ := Aside0.mk (below_step (sqB HB) hb); clear BK151 BK152 HB; have HO155 := n0_; have BK151 := n1_; have BK152 := n2_; have HB := n3_; clear n0_ n1_ n2_ n3_ hb ho8; refine hK.out _ _ ⟨(blk_cell BK151.out 0).trans rfl, (blk_cell BK151.out 1).trans rfl⟩ (fun hHeld => ?_); clear hK K; refine norm_ (a' := ?_) ?_ ?_
     rotate_left
     ·show Act.put _ (some 3) _ = _
      simp only [Act.put, sqA, i64_w, i32_w]; rfl
     refine two_ (i := 3) (j := 4) (Ni := some 6) (Nj := some 7) (bm 10 111) #[true, true, true, false, true, true, true, false, false, false] rfl rfl rfl rfl (two_of HT_.out sqF) (by decide) (by decide) (fun K hK => ?_) (fun K hK => ?_)
     ·skip
      refine Kd.R_append_rows_step k41 (w0 := w) w.heap.size (by rfl) (.tmp 3) (.tmp 5) 22 41 (.agg #[(.int .i64 0), (.int .i64 0)]) 16 rfl Tryd.underlying22 info41 rfl (by decide) (by omega) v154 y153 l0_0 _ _ _ (fun _ => True) (fun _ => False) rfl rfl ?aO ?aR (fun _ _ h => h) (fun _ h => h.elim) ?aF ?aB ?aS ?aL ?_
      (case aR => exact sqQ HR0_0 HB)
      (case aB => exact (sqB HB))
      (case aF => exact (fun _ _ => trivial))
      (case aO => exact (sqR HO155))
      (case aS => exact (below_size (sqB HB)))
      (case aL => have := LMc2.out; omega)
      intro v157 w9 ho hb hg hat; rw [← Ny156.out] at ho; have n0_ := Aside0.mk (blk_grown (g := gb151) (o := .cells #[.slice A0_0 l0_0.length c0_0, .slice A0_1 l0_1.length c0_1] 25 (0, 0)) (sqK BK151) hg (Kd.R_ne HO155.out BK151.out (by decide))); have n1_ := Aside0.mk (blk_grown (g := gb152) (o := .cells #[.slice none 0 0, .slice none 0 0] 25 (0, 0)) (sqK BK152) hg (Kd.R_ne HO155.out BK152.out (by decide))); have n2_ := Aside0.mk (hb); have n3_ := Aside0.mk (ho); clear BK151 BK152 HB HO155; have BK151 := n0_; have BK152 := n1_; have HB := n2_; have HO158 := n3_; clear n0_ n1_ n2_ n3_ ho hb hg hat; refine hK.out _ _ ⟨(blk_cell BK151.out 0).trans rfl, (blk_cell BK151.out 1).trans rfl⟩ (fun hHeld => ?_); clear hK K; refine norm_ (a' := ?_) ?_ ?_
      rotate_left
      ·show Act.put _ (some 6) _ = _
       simp only [Act.put, sqA, i64_w, i32_w]; rfl
      refine one_ (i := 4) (N := some 7) (bm 10 127) rfl rfl (one_of HT_.out sqF) (by decide) (fun K hK => ?_); refine Kd.R_lit_step k80 _ 80 ?hg (N := 7) ?hd (xs := ([] : List (S80))) (inner := []) (ok := fun _ => True) (okp := fun _ => True) ?hr ?hp (fun _ hk => hk) trivial (Below.refl _ _) (Nat.le_refl _) (by simp) ?_; (case hd => rfl); (case hg => rfl); (case hr => first | (go_simp; done) | (go_simp; rfl)); (case hp => exact (Reps.none _ _)); intro v160 w10 ho11 hb hg_ hnew_; clear hg_ hnew_
      (first | rw [← Ny159.out] at ho11 | (simp only [Int.reduceToNat] at ho11; rw [← Ny159.out] at ho11))
      have n0_ := Aside0.mk (Kd.R_below (sqR HO158) hb); have n1_ := Aside0.mk (Kd.R_lower ho11 (below_size (sqB HB))); have n2_ := Aside0.mk (blk_below (g := gb151) (o := .cells #[.slice A0_0 l0_0.length c0_0, .slice A0_1 l0_1.length c0_1] 25 (0, 0)) (sqK BK151) hb); have n3_ := Aside0.mk (blk_below (g := gb152) (o := .cells #[.slice none 0 0, .slice none 0 0] 25 (0, 0)) (sqK BK152) hb); have n4_ := Aside0.mk (below_step (sqB HB) hb); clear HO158 BK151 BK152 HB; have HO158 := n0_; have HO161 := n1_; have BK151 := n2_; have BK152 := n3_; have HB := n4_; clear n0_ n1_ n2_ n3_ n4_ hb ho11; refine hK.out _ _ ⟨(blk_cell BK151.out 0).trans rfl, (blk_cell BK151.out 1).trans rfl⟩ (fun hHeld => ?_); clear hK K; refine norm_ (a' := ?_) ?_ ?_
      rotate_left
      ·show Act.put _ (some 7) _ = _
       simp only [Act.put, sqA, i64_w, i32_w]; rfl
      exact norm_ (by simp only [putAll, Act.put, sqA]) (hCont (v154, v157, v160) _ ⟨hHeld, (sqR HO158), (sqR HO161), (sqK BK151), (sqK BK152), (sqB HB)⟩)
     ·skip
      refine Kd.R_lit_step k80 _ 80 ?hg (N := 7) ?hd (xs := ([] : List (S80))) (inner := []) (ok := fun _ => True) (okp := fun _ => True) ?hr ?hp (fun _ hk => hk) trivial (Below.refl _ _) (Nat.le_refl _) (by simp) ?_; (case hd => rfl); (case hg => rfl); (case hr => first | (go_simp; done) | (go_simp; rfl)); (case hp => exact (Reps.none _ _)); intro v160 w9 ho10 hb hg_ hnew_; clear hg_ hnew_
      (first | rw [← Ny159.out] at ho10 | (simp only [Int.reduceToNat] at ho10; rw [← Ny159.out] at ho10))
      have n0_ := Aside0.mk (Kd.R_below (sqR HO155) hb); have n1_ := Aside0.mk (Kd.R_lower ho10 (below_size (sqB HB))); have n2_ := Aside0.mk (blk_below (g := gb151) (o := .cells #[.slice A0_0 l0_0.length c0_0, .slice A0_1 l0_1.length c0_1] 25 (0, 0)) (sqK BK151) hb); have n3_ := Aside0.mk (blk_below (g := gb152) (o := .cells #[.slice none 0 0, .slice none 0 0] 25 (0, 0)) (sqK BK152) hb); have n4_ := Aside0.mk (below_step (sqB HB) hb); clear HO155 BK151 BK152 HB; have HO155 := n0_; have HO161 := n1_; have BK151 := n2_; have BK152 := n3_; have HB := n4_; clear n0_ n1_ n2_ n3_ n4_ hb ho10; refine hK.out _ _ ⟨(blk_cell BK151.out 0).trans rfl, (blk_cell BK151.out 1).trans rfl⟩ (fun hHeld => ?_); clear hK K; refine norm_ (a' := ?_) ?_ ?_
      rotate_left
      ·show Act.put _ (some 7) _ = _
       simp only [Act.put, sqA, i64_w, i32_w]; rfl
      refine one_ (i := 3) (N := some 6) (bm 10 127) rfl rfl (one_of HT_.out sqF) (by decide) (fun K hK => ?_); refine Kd.R_append_rows_step k41 (w0 := w) w.heap.size (by rfl) (.tmp 3) (.tmp 5) 22 41 (.agg #[(.int .i64 0), (.int .i64 0)]) 16 rfl Tryd.underlying22 info41 rfl (by decide) (by omega) v154 y153 l0_0 _ _ _ (fun _ => True) (fun _ => False) rfl rfl ?aO ?aR (fun _ _ h => h) (fun _ h => h.elim) ?aF ?aB ?aS ?aL ?_
      (case aR => exact sqQ HR0_0 HB)
      (case aB => exact (sqB HB))
      (case aF => exact (fun _ _ => trivial))
      (case aO => exact (sqR HO155))
      (case aS => exact (below_size (sqB HB)))
      (case aL => have := LMc2.out; omega)
      intro v157 w11 ho hb hg hat; rw [← Ny156.out] at ho; have n0_ := Aside0.mk (blk_grown (g := gb151) (o := .cells #[.slice A0_0 l0_0.length c0_0, .slice A0_1 l0_1.length c0_1] 25 (0, 0)) (sqK BK151) hg (Kd.R_ne HO155.out BK151.out (by decide))); have n1_ := Aside0.mk (blk_grown (g := gb152) (o := .cells #[.slice none 0 0, .slice none 0 0] 25 (0, 0)) (sqK BK152) hg (Kd.R_ne HO155.out BK152.out (by decide))); have n2_ := Aside0.mk (Kd.R_over' (sqR HO161) (Kd.R_typed (sqR HO155)) (by decide) hg); have n3_ := Aside0.mk (hb); have n4_ := Aside0.mk (ho); clear BK151 BK152 HO161 HB HO155; have BK151 := n0_; have BK152 := n1_; have HO161 := n2_; have HB := n3_; have HO158 := n4_; clear n0_ n1_ n2_ n3_ n4_ ho hb hg hat; refine hK.out _ _ ⟨(blk_cell BK151.out 0).trans rfl, (blk_cell BK151.out 1).trans rfl⟩ (fun hHeld => ?_); clear hK K; refine norm_ (a' := ?_) ?_ ?_
      rotate_left
      ·show Act.put _ (some 6) _ = _
       simp only [Act.put, sqA, i64_w, i32_w]; rfl
      exact norm_ (by simp only [putAll, Act.put, sqA]) (hCont (v154, v157, v160) _ ⟨hHeld, (sqR HO158), (sqR HO161), (sqK BK151), (sqK BK152), (sqB HB)⟩)
    ·skip
     refine Kd.R_lit_step k80 _ 80 ?hg (N := 7) ?hd (xs := ([] : List (S80))) (inner := []) (ok := fun _ => True) (okp := fun _ => True) ?hr ?hp (fun _ hk => hk) trivial (Below.refl _ _) (Nat.le_refl _) (by simp) ?_; (case hd => rfl); (case hg => rfl); (case hr => first | (go_simp; done) | (go_simp; rfl)); (case hp => exact (Reps.none _ _)); intro v160 w7 ho8 hb hg_ hnew_; clear hg_ hnew_
     (first | rw [← Ny159.out] at ho8 | (simp only [Int.reduceToNat] at ho8; rw [← Ny159.out] at ho8))
     have n0_ := Aside0.mk (Kd.R_lower ho8 (below_size (sqB HB))); have n1_ := Aside0.mk (blk_below (g := gb151) (o := .cells #[.slice A0_0 l0_0.length c0_0, .slice A0_1 l0_1.length c0_1] 25 (0, 0)) (sqK BK151) hb); have n2_ := Aside0.mk (blk_below (g := gb152) (o := .cells #[.slice none 0 0, .slice none 0 0] 25 (0, 0)) (sqK BK152) hb); have n3_ := Aside0.mk (below_step (sqB HB) hb); clear BK151 BK152 HB; have HO161 := n0_; have BK151 := n1_; have BK152 := n2_; have HB := n3_; clear n0_ n1_ n2_ n3_ hb ho8; refine hK.out _ _ ⟨(blk_cell BK151.out 0).trans rfl, (blk_cell BK151.out 1).trans rfl⟩ (fun hHeld => ?_); clear hK K; refine norm_ (a' := ?_) ?_ ?_
     rotate_left
     ·show Act.put _ (some 7) _ = _
      simp only [Act.put, sqA, i64_w, i32_w]; rfl
     refine one_ (i := 0) (N := some 3) (bm 10 119) rfl rfl (one_of HT_.out sqF) (by decide) (fun K hK => ?_); refine Kd.R_lit_step k41 _ 41 ?hg (N := 3) ?hd (xs := ([] : List (S41))) (inner := []) (ok := fun _ => True) (okp := fun _ => True) ?hr ?hp (fun _ hk => hk) trivial (Below.refl _ _) (Nat.le_refl _) (by simp) ?_; (case hd => rfl); (case hg => rfl); (case hr => first | (go_simp; done) | (go_simp; rfl)); (case hp => exact (Reps.none _ _)); intro v154 w9 ho10 hb hg_ hnew_; clear hg_ hnew_
     (first | rw [← Ny153.out] at ho10 | (simp only [Int.reduceToNat] at ho10; rw [← Ny153.out] at ho10))
     have n0_ := Aside0.mk (Kd.R_below (sqR HO161) hb); have n1_ := Aside0.mk (Kd.R_lower ho10 (below_size (sqB HB))); have n2_ := Aside0.mk (blk_below (g := gb151) (o := .cells #[.slice A0_0 l0_0.length c0_0, .slice A0_1 l0_1.length c0_1] 25 (0, 0)) (sqK BK151) hb); have n3_ := Aside0.mk (blk_below (g := gb152) (o := .cells #[.slice none 0 0, .slice none 0 0] 25 (0, 0)) (sqK BK152) hb); have n4_ := Aside0.mk (below_step (sqB HB) hb); clear HO161 BK151 BK152 HB; have HO161 := n0_; have HO155 := n1_; have BK151 := n2_; have BK152 := n3_; have HB := n4_; clear n0_ n1_ n2_ n3_ n4_ hb ho10; refine hK.out _ _ ⟨(blk_cell BK151.out 0).trans rfl, (blk_cell BK151.out 1).trans rfl⟩ (fun hHeld => ?_); clear hK K; refine norm_ (a' := ?_) ?_ ?_
     rotate_left
     ·show Act.put _ (some 3) _ = _
      simp only [Act.put, sqA, i64_w, i32_w]; rfl
     refine one_ (i := 3) (N := some 6) (bm 10 127) rfl rfl (one_of HT_.out sqF) (by decide) (fun K hK => ?_); refine Kd.R_append_rows_step k41 (w0 := w) w.heap.size (by rfl) (.tmp 3) (.tmp 5) 22 41 (.agg #[(.int .i64 0), (.int .i64 0)]) 16 rfl Tryd.underlying22 info41 rfl (by decide) (by omega) v154 y153 l0_0 _ _ _ (fun _ => True) (fun _ => False) rfl rfl ?aO ?aR (fun _ _ h => h) (fun _ h => h.elim) ?aF ?aB ?aS ?aL ?_
     (case aR => exact sqQ HR0_0 HB)
     (case aB => exact (sqB HB))
     (case aF => exact (fun _ _ => trivial))
     (case aO => exact (sqR HO155))
     (case aS => exact (below_size (sqB HB)))
     (case aL => have := LMc2.out; omega)
     intro v157 w11 ho hb hg hat; rw [← Ny156.out] at ho; have n0_ := Aside0.mk (blk_grown (g := gb151) (o := .cells #[.slice A0_0 l0_0.length c0_0, .slice A0_1 l0_1.length c0_1] 25 (0, 0)) (sqK BK151) hg (Kd.R_ne HO155.out BK151.out (by decide))); have n1_ := Aside0.mk (blk_grown (g := gb152) (o := .cells #[.slice none 0 0, .slice none 0 0] 25 (0, 0)) (sqK BK152) hg (Kd.R_ne HO155.out BK152.out (by decide))); have n2_ := Aside0.mk (Kd.R_over' (sqR HO161) (Kd.R_typed (sqR HO155)) (by decide) hg); have n3_ := Aside0.mk (hb); have n4_ := Aside0.mk (ho); clear BK151 BK152 HO161 HB HO155; have BK151 := n0_; have BK152 := n1_; have HO161 := n2_; have HB := n3_; have HO158 := n4_; clear n0_ n1_ n2_ n3_ n4_ ho hb hg hat; refine hK.out _ _ ⟨(blk_cell BK151.out 0).trans rfl, (blk_cell BK151.out 1).trans rfl⟩ (fun hHeld => ?_); clear hK K; refine norm_ (a' := ?_) ?_ ?_
     rotate_left
     ·show Act.put _ (some 6) _ = _
      simp only [Act.put, sqA, i64_w, i32_w]; rfl
     exact norm_ (by simp only [putAll, Act.put, sqA]) (hCont (v154, v157, v160) _ ⟨hHeld, (sqR HO158), (sqR HO161), (sqK BK151), (sqK BK152), (sqB HB)⟩)
   rintro ⟨v154, v157, v160⟩ w12 ⟨hS_, h0_, h1_, h2_, h3_, h4_⟩; have n0_ : Aside0 (Kd.R k41 41 w12 w.heap.size (fun _ => True) v157 y156) := ⟨h0_⟩; have n1_ : Aside0 (Kd.R k80 80 w12 w.heap.size (fun _ => True) v160 y159) := ⟨h1_⟩; have n2_ : Aside0 (w12.heap[gb151]? = some (.cells #[.slice A0_0 l0_0.length c0_0, .slice A0_1 l0_1.length c0_1] 25 (0, 0))) := ⟨h2_⟩; have n3_ : Aside0 (w12.heap[gb152]? = some (.cells #[.slice none 0 0, .slice none 0 0] 25 (0, 0))) := ⟨h3_⟩; have n4_ : Aside0 (Below w.heap.size w w12) := ⟨h4_⟩; clear BK151 BK152 HB h0_ h1_ h2_ h3_ h4_; have HO158 := n0_; have HO161 := n1_; have BK151 := n2_; have BK152 := n3_; have HB := n4_; clear n0_ n1_ n2_ n3_ n4_; have hHeld : w12.cell? ⟨gb151, 0, none⟩ = some (.slice A0_0 l0_0.length c0_0) ∧ w12.cell? ⟨gb151, 1, none⟩ = some (.slice A0_1 l0_1.length c0_1) := hS_
   refine norm_ (a' := ?_) ?_ ?_; rotate_left
   ·simp only [putAll, Act.put, sqA]; rfl
   refine one_ (i := 7) (N := some 10) (bm 10 255) rfl rfl (one_of HT_.out sqF) (by decide) (fun K hK => ?_); refine Kd.R_append_rows_step k80 (w0 := w) w.heap.size (by rfl) (.tmp 7) (.tmp 9) 23 80 (.agg #[(.int .i64 0), (.int .i64 0), (.int .i64 0)]) 24 rfl Tryd.underlying23 info80 rfl (by decide) (by omega) v160 y159 l0_1 _ _ _ (fun _ => True) (fun _ => False) rfl rfl ?aO ?aR (fun _ _ h => h) (fun _ h => h.elim) ?aF ?aB ?aS ?aL ?_
   (case aR => exact sqQ HR0_1 HB)
   (case aB => exact (sqB HB))
   (case aF => exact (fun _ _ => trivial))
   (case aO => exact (sqR HO161))
   (case aS => exact (below_size (sqB HB)))
   (case aL => have := LMc3.out; omega)
   intro v163 w13 ho hb hg hat; rw [← Ny162.out] at ho; have n0_ := Aside0.mk (blk_grown (g := gb151) (o := .cells #[.slice A0_0 l0_0.length c0_0, .slice A0_1 l0_1.length c0_1] 25 (0, 0)) (sqK BK151) hg (Kd.R_ne HO161.out BK151.out (by decide))); have n1_ := Aside0.mk (blk_grown (g := gb152) (o := .cells #[.slice none 0 0, .slice none 0 0] 25 (0, 0)) (sqK BK152) hg (Kd.R_ne HO161.out BK152.out (by decide))); have n2_ := Aside0.mk (Kd.R_over' (sqR HO158) (Kd.R_typed (sqR HO161)) (by decide) hg); have n3_ := Aside0.mk (hb); have n4_ := Aside0.mk (ho); clear BK151 BK152 HO158 HB HO161; have BK151 := n0_; have BK152 := n1_; have HO158 := n2_; have HB := n3_; have HO164 := n4_; clear n0_ n1_ n2_ n3_ n4_ ho hb hg hat; obtain ⟨Ao14, co14, eo14⟩ := Kd.R_slice HO164.out
   (first | subst eo14 | (injection eo14 with f1_ f2_ f3_; have f4_ := f1_.symm; have f5_ := f3_.symm; clear f1_ f2_ f3_; subst f4_; subst f5_))
   obtain ⟨Ao15, co15, eo15⟩ := Kd.R_slice HO158.out
   (first | subst eo15 | (injection eo15 with f1_ f2_ f3_; have f4_ := f1_.symm; have f5_ := f3_.symm; clear f1_ f2_ f3_; subst f4_; subst f5_))
   refine hK.out _ _ ⟨(blk_cell BK151.out 0).trans rfl, (blk_cell BK151.out 1).trans rfl⟩ (fun hHeld => ?_); clear hK K; refine norm_ (a' := ?_) ?_ ?_
   rotate_left
   ·show Act.put _ (some 10) _ = _
    simp only [Act.put, sqA, i64_w, i32_w]; rfl
   refine pure_ (i := 8) (N := some 11) (v := ?_) (a' := ?_) (bm 10 511) rfl rfl (any_of HT_.out sqF) (fun _ _ _ h => h) (Or.inl ⟨by rfl, ?_⟩) ?_ ?_
   rotate_left
   ·intro w'
    go_simp; with_reducible rfl
   rotate_left
   ·simp only [Act.put, sqA, i64_w, i32_w]; rfl
   refine one_ (i := 9) (N := none) (bm 10 1023) rfl rfl (one_of HT_.out sqF) (by decide) (fun K hK => ?_); have hs16 : w13.cell? ⟨gb152, 0, none⟩ = some (.slice none 0 0) := (blk_cell BK152.out 0).trans rfl; have hfs16 := blk_frozen BK152.out 0; have hns16_0 := NB151_152.out; have hms16_0 := NB152_151.out; have hs17 : w13.cell? ⟨gb152, 1, none⟩ = some (.slice none 0 0) := (blk_cell BK152.out 1).trans rfl; have hfs17 := blk_frozen BK152.out 1; have hns17_0 := NB151_152.out; have hms17_0 := NB152_151.out; refine skip_ (w1 := ?_) (by rfl) rfl ?_ ?_
   rotate_left
   ·go_simp
    rfl
   refine hK.out _ _ ⟨((cell_far (p := ⟨gb152, _, none⟩) NB151_152.out _).trans (((cell_far (p := ⟨gb152, _, none⟩) NB151_152.out _).trans (hHeld.1)))), ((cell_far (p := ⟨gb152, _, none⟩) NB151_152.out _).trans (((cell_far (p := ⟨gb152, _, none⟩) NB151_152.out _).trans (hHeld.2))))⟩ (fun hHeld => ?_); clear hK K; refine done_ (done_of HT_.out sqF) ?_
   try go_wp2
   refine bodyPost_ret (results_cell_row rfl _ _ gb152 25 #[.slice Ao15 y156.length co15, .slice Ao14 y162.length co14] (0, 0) _ rfl (by (with_reducible repeat (first | refine blk_drewN ?_ _ | refine blk_drew ?_ | refine blk_alloc ?_ _)); refine blk_put (cs := #[.slice Ao15 y156.length co15, .slice none 0 0]) ?_ 1 _ rfl; (with_reducible repeat (first | refine blk_drewN ?_ _ | refine blk_drew ?_ | refine blk_alloc ?_ _)); refine blk_put (cs := #[.slice none 0 0, .slice none 0 0]) ?_ 0 _ rfl; (with_reducible repeat (first | refine blk_drewN ?_ _ | refine blk_drew ?_ | refine blk_alloc ?_ _)); exact BK152.out) Tryd.underlying25 rfl sqF) rfl ?_; exact ⟨_, _, by first | rfl | (simp [errW_none, errW_some] <;> rfl) | (simp [*, errW_none, errW_some] <;> rfl), by (with_reducible repeat (first | apply Kd.R_alloc | apply Kd.R_drewN | apply Kd.R_drew)); exact Kd.R_mono (Kd.R_far (p := ⟨gb152, 1, none⟩) (Kd.R_far (p := ⟨gb152, 0, none⟩) (Kd.R_types HO158.out BK152.out (by decide)) (fun _ hk => hk.2) (.slice Ao15 y156.length co15)) (fun _ hk => hk.2) (.slice Ao14 y162.length co14)) (fun _ hk => trivial), by (with_reducible repeat (first | apply Kd.R_alloc | apply Kd.R_drewN | apply Kd.R_drew)); exact Kd.R_mono (Kd.R_far (p := ⟨gb152, 1, none⟩) (Kd.R_far (p := ⟨gb152, 0, none⟩) (Kd.R_types HO164.out BK152.out (by decide)) (fun _ hk => hk.2) (.slice Ao15 y156.length co15)) (fun _ hk => hk.2) (.slice Ao14 y162.length co14)) (fun _ hk => trivial), sqB HB⟩
  ·rw [if_neg c3] at H
   exact absurd H (by simp)
 ·rw [if_neg c2] at H
  exact absurd H (by simp)
end Go.Proofs.YtemingmeidmjkaaDoor.Q
namespace Go.Proofs.YtemingmeidmjkaaDoor.Q
open Go.RowKit Go.Proofs.YtemingmeidmjkaaDoorW.PrintWords Go.Proofs.YtemingmeidmjkaaDoorW.PrintLast Go.Proofs.YtemingmeidmjkaaDoorW.PrintMore
attribute [local go_sem] max2_int min2_int max_two min_two max_three min_three max_four min_four   -- for this text's walks alone
set_option linter.unusedVariables false
set_option linter.unusedSimpArgs false
def rf_In.f (a0 : Int) (a1 : Int) (a2 : Int) : Option (Bool) := if a0 ≥ a1 then (some (decide (a0 ≤ a2))) else (some false)
set_option maxHeartbeats 8000000 in
set_option maxRecDepth 100000 in
theorem rf_In.calls (a0 : Int) (a1 : Int) (a2 : Int) (r : Bool) (w : World) (h : rf_In.f a0 a1 a2 = some r) :
  Calls Tryd.prog 35 #[.int .i64 a0, .int .i64 a1, .int .i64 a2] w fun e w' => e = .returned (.bool r) ∧ Drawn0 w w' := by
 have H : (if a0 ≥ a1 then (some (decide (a0 ≤ a2))) else (some false)) = some r := h; clear h
 by_cases c4 : a0 ≥ a1
 ·rw [if_pos c4] at H
  have c4b0 : decide (a1 ≤ a0) = true := decide_eq_true c4; clear c4; obtain rfl := Option.some.inj H
  go_enter Tryd.func35, Tryd.ntmps35
  go_wp2
  go_ret
  exact ⟨by first | rfl | (simp; done) | (simp [*]; done), by repeat (first | exact Drawn0.refl _ | apply Drawn0.step)⟩
 ·rw [if_neg c4] at H
  have c4b0 : decide (a1 ≤ a0) = false := decide_eq_false c4; clear c4; obtain rfl := Option.some.inj H
  go_enter Tryd.func35, Tryd.ntmps35
  go_wp2
  go_ret
  exact ⟨by first | rfl | (simp; done) | (simp [*]; done), by repeat (first | exact Drawn0.refl _ | apply Drawn0.step)⟩
end Go.Proofs.YtemingmeidmjkaaDoor.Q
namespace Go.Proofs.YtemingmeidmjkaaDoor.Q
open Go.RowKit Go.Proofs.YtemingmeidmjkaaDoorW.PrintWords Go.Proofs.YtemingmeidmjkaaDoorW.PrintLast Go.Proofs.YtemingmeidmjkaaDoorW.PrintMore
attribute [local go_sem] max2_int min2_int max_two min_two max_three min_three max_four min_four   -- for this text's walks alone
set_option linter.unusedVariables false
set_option linter.unusedSimpArgs false
mutual
def rf_Check.l0 : Nat → Int → List (S41) → List (S80) → Option (Int)
 | 0, _, _, _ => none
 | k + 1, x3, x166000, x166001 => if x3 < (x166000.length : Int) then (if 0 ≤ x3 then ((rf_In.f ((rd_T41 x166000 x3).f0) 0 ((rd_T41 x166000 x3).f1)).bind fun t169 => (if t169 = true then (if ((rd_T41 x166000 x3).f1) > 300 then (some 4) else (rf_Check.l0 k (wrap64 (x3 + 1)) x166000 x166001)) else (some 4))) else (none)) else (if (x166001.length : Int) > 8 then (some 5) else (rf_Check.l1 k 0 x166000 x166001))
def rf_Check.l1 : Nat → Int → List (S41) → List (S80) → Option (Int)
 | 0, _, _, _ => none
 | k + 1, x4, x166000, x166001 => if x4 < (x166001.length : Int) then (if 0 ≤ x4 then ((rf_In.f ((rd_T80 x166001 x4).f0) 0 (x166000.length : Int)).bind fun t173 => (if t173 = true then ((rf_In.f ((rd_T80 x166001 x4).f1) 0 400).bind fun t174 => (if t174 = true then ((rf_In.f ((rd_T80 x166001 x4).f2) 0 20).bind fun t175 => (if t175 = true then (rf_Check.l1 k (wrap64 (x4 + 1)) x166000 x166001) else (some 2))) else (some 2))) else (some 2))) else (none)) else (some 0)
end
def rf_Check.f (k : Nat) (l0_0 : List (S41)) (l0_1 : List (S80)) : Option (Int) := (rf_In.f (l0_0.length : Int) 1 5).bind fun t166 => (if t166 = true then (rf_Check.l0 k 0 l0_0 l0_1) else (some 4))
set_option maxHeartbeats 8000000 in
set_option maxRecDepth 100000 in
theorem rf_Check.calls (k : Nat) (A0_0 : Option Addr) (c0_0 : Nat) (l0_0 : List (S41)) (A0_1 : Option Addr) (c0_1 : Nat) (l0_1 : List (S80)) (r : Int) (w : World) (hr0_0 : Kd.C k41 w A0_0 l0_0.length l0_0) (hc0_0 : l0_0.length ≤ c0_0) (hr0_1 : Kd.C k80 w A0_1 l0_1.length l0_1) (hc0_1 : l0_1.length ≤ c0_1) (h : rf_Check.f k l0_0 l0_1 = some r) :
  Calls Tryd.prog 22 #[.agg #[.slice A0_0 l0_0.length c0_0, .slice A0_1 l0_1.length c0_1]] w fun e w' => e = .returned (.int .i64 r) ∧ Below w.heap.size w w' := by
 have hu25 := Tryd.underlying25; have hu80 := Tryd.underlying80; have HR0_0 := Aside0.mk hr0_0; have HC0_0 := Aside0.mk hc0_0; clear hr0_0 hc0_0; have HR0_1 := Aside0.mk hr0_1; have HC0_1 := Aside0.mk hc0_1; clear hr0_1 hc0_1; have HB := Aside0.mk (Below.refl w.heap.size w); have H : ((rf_In.f (l0_0.length : Int) 1 5).bind fun t166 => (if t166 = true then (rf_Check.l0 k 0 l0_0 l0_1) else (some 4))) = some r := h; clear h; obtain ⟨t166, A20, H⟩ := Option.bind_eq_some_iff.mp H; have A2 := Aside0.mk A20; clear A20
 by_cases c3 : t166 = true
 ·subst c3
  rw [if_pos rfl] at H; have H' := Aside0.mk H; clear H; go_enter Tryd.func22, Tryd.ntmps22
  go_wp2_with (first | ((with_reducible refine gate_dst (N := 1) rfl ?_); refine box_event ?hg (N := 1) ?hd (cs := #[.slice A0_0 l0_0.length c0_0, .slice A0_1 l0_1.length c0_1]) (t := 25) ?hr ?_; (case hd => rfl); (case hg => rfl); (case hr => first | (go_simp; done) | (go_simp; rfl)); intro gb165 hg w4 hbox hb; have BK165 := Aside0.mk (hbox); have GW165 := Aside0.mk (sqZ hg HB); have GE165 := Aside0.mk (sqZ hg HB); replace HB := sqb hb HB; clear hb hbox hg; have hcz5_0 := sqc0 BK165; have hcz5_1 := sqc1 BK165; have hfz5_0 := blk_frozen BK165.out 0; have hfz5_1 := blk_frozen BK165.out 1) | (go_at_call 35; (with_reducible refine (rf_In.calls (l0_0.length : Int) 1 5 true _ A2.out).mono ?_); rintro e w' ⟨rfl, ⟨nd, rfl⟩⟩; (try first | exact ⟨rfl, _, World.drewN_drewN _ _ _⟩ | exact ⟨rfl, _, Eq.trans (World.drewN_drewN _ _ _) (congrArg (World.drewN _) (Nat.add_assoc _ _ _))⟩)))
  repeat (go_quiet (first | ((with_reducible refine gate_dst (N := 1) rfl ?_); refine box_event ?hg (N := 1) ?hd (cs := #[.slice A0_0 l0_0.length c0_0, .slice A0_1 l0_1.length c0_1]) (t := 25) ?hr ?_; (case hd => rfl); (case hg => rfl); (case hr => first | (go_simp; done) | (go_simp; rfl)); intro gb165 hg w4 hbox hb; have BK165 := Aside0.mk (hbox); have GW165 := Aside0.mk (sqZ hg HB); have GE165 := Aside0.mk (sqZ hg HB); replace HB := sqb hb HB; clear hb hbox hg; have hcz5_0 := sqc0 BK165; have hcz5_1 := sqc1 BK165; have hfz5_0 := blk_frozen BK165.out 0; have hfz5_1 := blk_frozen BK165.out 1) | (go_at_call 35; (with_reducible refine (rf_In.calls (l0_0.length : Int) 1 5 true _ A2.out).mono ?_); rintro e w' ⟨rfl, ⟨nd, rfl⟩⟩; (try first | exact ⟨rfl, _, World.drewN_drewN _ _ _⟩ | exact ⟨rfl, _, Eq.trans (World.drewN_drewN _ _ _) (congrArg (World.drewN _) (Nat.add_assoc _ _ _))⟩))); try go_wp2_with (first | ((with_reducible refine gate_dst (N := 1) rfl ?_); refine box_event ?hg (N := 1) ?hd (cs := #[.slice A0_0 l0_0.length c0_0, .slice A0_1 l0_1.length c0_1]) (t := 25) ?hr ?_; (case hd => rfl); (case hg => rfl); (case hr => first | (go_simp; done) | (go_simp; rfl)); intro gb165 hg w4 hbox hb; have BK165 := Aside0.mk (hbox); have GW165 := Aside0.mk (sqZ hg HB); have GE165 := Aside0.mk (sqZ hg HB); replace HB := sqb hb HB; clear hb hbox hg; have hcz5_0 := sqc0 BK165; have hcz5_1 := sqc1 BK165; have hfz5_0 := blk_frozen BK165.out 0; have hfz5_1 := blk_frozen BK165.out 1) | (go_at_call 35; (with_reducible refine (rf_In.calls (l0_0.length : Int) 1 5 true _ A2.out).mono ?_); rintro e w' ⟨rfl, ⟨nd, rfl⟩⟩; (try first | exact ⟨rfl, _, World.drewN_drewN _ _ _⟩ | exact ⟨rfl, _, Eq.trans (World.drewN_drewN _ _ _) (congrArg (World.drewN _) (Nat.add_assoc _ _ _))⟩))))
  go_loopg [3] k (fun kq v3 w' => ∃ (x3_1 : Int), v3 = .int .i64 x3_1 ∧ Aside0 (rf_Check.l0 kq x3_1 l0_0 l0_1 = some r) ∧ Aside0 (kq ≤ k) ∧ Aside0 (w'.heap[gb165]? = some (.cells #[(.slice A0_0 l0_0.length c0_0), (.slice A0_1 l0_1.length c0_1)] 25 (0, 0))) ∧ Aside0 (Below w.heap.size w w'))
  case atStart => exact ⟨(0), sqE, H', ⟨Nat.le_refl _⟩, ⟨sqK BK165⟩, ⟨sqB HB⟩⟩
  case round =>
   clear H'; try clear c3
   (try clear hcz5_0); (try clear hcz5_1); (try clear hfz5_0); (try clear hfz5_1); obtain ⟨x3_1, rfl, HA, HK1, BK165, HB⟩ := hrel
   cases gk with
   | zero => exact absurd HA.out (by simp [rf_Check.l0])
   | succ k1 =>
    have H := HA.out; clear HA; simp only [rf_Check.l0] at H
    by_cases c6 : x3_1 < (l0_0.length : Int)
    ·rw [if_pos c6] at H
     have c6b0 : decide (x3_1 < (l0_0.length : Int)) = true := decide_eq_true c6; clear c6
     by_cases c7 : 0 ≤ x3_1
     ·rw [if_pos c7] at H
      have c7b0 : decide (0 ≤ x3_1) = true := decide_eq_true c7; clear c7; obtain ⟨t169, A80, H⟩ := Option.bind_eq_some_iff.mp H; have A8 := Aside0.mk A80; clear A80
      by_cases c9 : t169 = true
      ·subst c9
       rw [if_pos rfl] at H
       by_cases c10 : ((rd_T41 l0_0 x3_1).f1) > 300
       ·rw [if_pos c10] at H
        have c10b0 : decide (300 < ((rd_T41 l0_0 x3_1).f1)) = true := decide_eq_true c10; clear c10; obtain rfl := Option.some.inj H; have hcz11_0 := sqc0 BK165; have hcz11_1 := sqc1 BK165; have hfz11_0 := blk_frozen BK165.out 0; have hfz11_1 := blk_frozen BK165.out 1; have p167 : 0 ≤ (x3_1 : Int) := sqD; have q167 : x3_1 < (l0_0.length : Int) := sqD; obtain ⟨ad167, e167, hx167_0, hx167_1⟩ := at_T41 HR0_0.out x3_1 p167 q167
        cases e167
        replace hx167_0 := (HB.out.cell (World.block_lt_of_cell? w _ hx167_0)).trans hx167_0; replace hx167_1 := (HB.out.cell (World.block_lt_of_cell? w _ hx167_1)).trans hx167_1; replace p167 := eq_true p167; replace q167 := eq_true q167; have p168 : 0 ≤ (x3_1 : Int) := sqD; have q168 : x3_1 < (l0_0.length : Int) := sqD; obtain ⟨ad168, e168, hx168_0, hx168_1⟩ := at_T41 HR0_0.out x3_1 p168 q168; obtain rfl : ad167 = ad168 := (by injection e168); replace hx168_0 := (HB.out.cell (World.block_lt_of_cell? w _ hx168_0)).trans hx168_0; replace hx168_1 := (HB.out.cell (World.block_lt_of_cell? w _ hx168_1)).trans hx168_1; replace p168 := eq_true p168; replace q168 := eq_true q168
        go_wp2_with (first | (go_at_call 35; (with_reducible refine (rf_In.calls ((rd_T41 l0_0 x3_1).f0) 0 ((rd_T41 l0_0 x3_1).f1) true _ A8.out).mono ?_); rintro e w' ⟨rfl, ⟨nd, rfl⟩⟩; (try first | exact ⟨rfl, _, World.drewN_drewN _ _ _⟩ | exact ⟨rfl, _, Eq.trans (World.drewN_drewN _ _ _) (congrArg (World.drewN _) (Nat.add_assoc _ _ _))⟩); have p170 : 0 ≤ (x3_1 : Int) := sqD; have q170 : x3_1 < (l0_0.length : Int) := sqD; obtain ⟨ad170, e170, hx170_0, hx170_1⟩ := at_T41 HR0_0.out x3_1 p170 q170; obtain rfl : ad167 = ad170 := (by injection e170); replace hx170_0 := (HB.out.cell (World.block_lt_of_cell? w _ hx170_0)).trans hx170_0; replace hx170_1 := (HB.out.cell (World.block_lt_of_cell? w _ hx170_1)).trans hx170_1; replace p170 := eq_true p170; replace q170 := eq_true q170))
        repeat (go_quiet (first | (go_at_call 35; (with_reducible refine (rf_In.calls ((rd_T41 l0_0 x3_1).f0) 0 ((rd_T41 l0_0 x3_1).f1) true _ A8.out).mono ?_); rintro e w' ⟨rfl, ⟨nd, rfl⟩⟩; (try first | exact ⟨rfl, _, World.drewN_drewN _ _ _⟩ | exact ⟨rfl, _, Eq.trans (World.drewN_drewN _ _ _) (congrArg (World.drewN _) (Nat.add_assoc _ _ _))⟩); have p170 : 0 ≤ (x3_1 : Int) := sqD; have q170 : x3_1 < (l0_0.length : Int) := sqD; obtain ⟨ad170, e170, hx170_0, hx170_1⟩ := at_T41 HR0_0.out x3_1 p170 q170; obtain rfl : ad167 = ad170 := (by injection e170); replace hx170_0 := (HB.out.cell (World.block_lt_of_cell? w _ hx170_0)).trans hx170_0; replace hx170_1 := (HB.out.cell (World.block_lt_of_cell? w _ hx170_1)).trans hx170_1; replace p170 := eq_true p170; replace q170 := eq_true q170)); try go_wp2_with (first | (go_at_call 35; (with_reducible refine (rf_In.calls ((rd_T41 l0_0 x3_1).f0) 0 ((rd_T41 l0_0 x3_1).f1) true _ A8.out).mono ?_); rintro e w' ⟨rfl, ⟨nd, rfl⟩⟩; (try first | exact ⟨rfl, _, World.drewN_drewN _ _ _⟩ | exact ⟨rfl, _, Eq.trans (World.drewN_drewN _ _ _) (congrArg (World.drewN _) (Nat.add_assoc _ _ _))⟩); have p170 : 0 ≤ (x3_1 : Int) := sqD; have q170 : x3_1 < (l0_0.length : Int) := sqD; obtain ⟨ad170, e170, hx170_0, hx170_1⟩ := at_T41 HR0_0.out x3_1 p170 q170; obtain rfl : ad167 = ad170 := (by injection e170); replace hx170_0 := (HB.out.cell (World.block_lt_of_cell? w _ hx170_0)).trans hx170_0; replace hx170_1 := (HB.out.cell (World.block_lt_of_cell? w _ hx170_1)).trans hx170_1; replace p170 := eq_true p170; replace q170 := eq_true q170)))
        go_ret
        exact ⟨by first | rfl | (simp [errW_none, errW_some] <;> rfl) | (simp [*, errW_none, errW_some] <;> rfl), sqB HB⟩
       ·rw [if_neg c10] at H
        have c10b0 : decide (300 < ((rd_T41 l0_0 x3_1).f1)) = false := decide_eq_false c10; clear c10; have H' := Aside0.mk H; clear H; have hcz12_0 := sqc0 BK165; have hcz12_1 := sqc1 BK165; have hfz12_0 := blk_frozen BK165.out 0; have hfz12_1 := blk_frozen BK165.out 1; have p167 : 0 ≤ (x3_1 : Int) := sqD; have q167 : x3_1 < (l0_0.length : Int) := sqD; obtain ⟨ad167, e167, hx167_0, hx167_1⟩ := at_T41 HR0_0.out x3_1 p167 q167
        cases e167
        replace hx167_0 := (HB.out.cell (World.block_lt_of_cell? w _ hx167_0)).trans hx167_0; replace hx167_1 := (HB.out.cell (World.block_lt_of_cell? w _ hx167_1)).trans hx167_1; replace p167 := eq_true p167; replace q167 := eq_true q167; have p168 : 0 ≤ (x3_1 : Int) := sqD; have q168 : x3_1 < (l0_0.length : Int) := sqD; obtain ⟨ad168, e168, hx168_0, hx168_1⟩ := at_T41 HR0_0.out x3_1 p168 q168; obtain rfl : ad167 = ad168 := (by injection e168); replace hx168_0 := (HB.out.cell (World.block_lt_of_cell? w _ hx168_0)).trans hx168_0; replace hx168_1 := (HB.out.cell (World.block_lt_of_cell? w _ hx168_1)).trans hx168_1; replace p168 := eq_true p168; replace q168 := eq_true q168
        go_wp2_with (first | (go_at_call 35; (with_reducible refine (rf_In.calls ((rd_T41 l0_0 x3_1).f0) 0 ((rd_T41 l0_0 x3_1).f1) true _ A8.out).mono ?_); rintro e w' ⟨rfl, ⟨nd, rfl⟩⟩; (try first | exact ⟨rfl, _, World.drewN_drewN _ _ _⟩ | exact ⟨rfl, _, Eq.trans (World.drewN_drewN _ _ _) (congrArg (World.drewN _) (Nat.add_assoc _ _ _))⟩); have p170 : 0 ≤ (x3_1 : Int) := sqD; have q170 : x3_1 < (l0_0.length : Int) := sqD; obtain ⟨ad170, e170, hx170_0, hx170_1⟩ := at_T41 HR0_0.out x3_1 p170 q170; obtain rfl : ad167 = ad170 := (by injection e170); replace hx170_0 := (HB.out.cell (World.block_lt_of_cell? w _ hx170_0)).trans hx170_0; replace hx170_1 := (HB.out.cell (World.block_lt_of_cell? w _ hx170_1)).trans hx170_1; replace p170 := eq_true p170; replace q170 := eq_true q170))
        repeat (go_quiet (first | (go_at_call 35; (with_reducible refine (rf_In.calls ((rd_T41 l0_0 x3_1).f0) 0 ((rd_T41 l0_0 x3_1).f1) true _ A8.out).mono ?_); rintro e w' ⟨rfl, ⟨nd, rfl⟩⟩; (try first | exact ⟨rfl, _, World.drewN_drewN _ _ _⟩ | exact ⟨rfl, _, Eq.trans (World.drewN_drewN _ _ _) (congrArg (World.drewN _) (Nat.add_assoc _ _ _))⟩); have p170 : 0 ≤ (x3_1 : Int) := sqD; have q170 : x3_1 < (l0_0.length : Int) := sqD; obtain ⟨ad170, e170, hx170_0, hx170_1⟩ := at_T41 HR0_0.out x3_1 p170 q170; obtain rfl : ad167 = ad170 := (by injection e170); replace hx170_0 := (HB.out.cell (World.block_lt_of_cell? w _ hx170_0)).trans hx170_0; replace hx170_1 := (HB.out.cell (World.block_lt_of_cell? w _ hx170_1)).trans hx170_1; replace p170 := eq_true p170; replace q170 := eq_true q170)); try go_wp2_with (first | (go_at_call 35; (with_reducible refine (rf_In.calls ((rd_T41 l0_0 x3_1).f0) 0 ((rd_T41 l0_0 x3_1).f1) true _ A8.out).mono ?_); rintro e w' ⟨rfl, ⟨nd, rfl⟩⟩; (try first | exact ⟨rfl, _, World.drewN_drewN _ _ _⟩ | exact ⟨rfl, _, Eq.trans (World.drewN_drewN _ _ _) (congrArg (World.drewN _) (Nat.add_assoc _ _ _))⟩); have p170 : 0 ≤ (x3_1 : Int) := sqD; have q170 : x3_1 < (l0_0.length : Int) := sqD; obtain ⟨ad170, e170, hx170_0, hx170_1⟩ := at_T41 HR0_0.out x3_1 p170 q170; obtain rfl : ad167 = ad170 := (by injection e170); replace hx170_0 := (HB.out.cell (World.block_lt_of_cell? w _ hx170_0)).trans hx170_0; replace hx170_1 := (HB.out.cell (World.block_lt_of_cell? w _ hx170_1)).trans hx170_1; replace p170 := eq_true p170; replace q170 := eq_true q170)))
        go_roundg k1
        case measure => have := HK1.out; omega
        case rel => exact ⟨(wrap64 (x3_1 + 1)), sqE, H', ⟨by have := HK1.out; omega⟩, ⟨sqK BK165⟩, ⟨sqB HB⟩⟩
      ·replace c9 := Bool.eq_false_iff.mpr c9
       subst c9; rw [if_neg Bool.false_ne_true] at H; obtain rfl := Option.some.inj H; have hcz13_0 := sqc0 BK165; have hcz13_1 := sqc1 BK165; have hfz13_0 := blk_frozen BK165.out 0; have hfz13_1 := blk_frozen BK165.out 1; have p167 : 0 ≤ (x3_1 : Int) := sqD; have q167 : x3_1 < (l0_0.length : Int) := sqD; obtain ⟨ad167, e167, hx167_0, hx167_1⟩ := at_T41 HR0_0.out x3_1 p167 q167
       cases e167
       replace hx167_0 := (HB.out.cell (World.block_lt_of_cell? w _ hx167_0)).trans hx167_0; replace hx167_1 := (HB.out.cell (World.block_lt_of_cell? w _ hx167_1)).trans hx167_1; replace p167 := eq_true p167; replace q167 := eq_true q167; have p168 : 0 ≤ (x3_1 : Int) := sqD; have q168 : x3_1 < (l0_0.length : Int) := sqD; obtain ⟨ad168, e168, hx168_0, hx168_1⟩ := at_T41 HR0_0.out x3_1 p168 q168; obtain rfl : ad167 = ad168 := (by injection e168); replace hx168_0 := (HB.out.cell (World.block_lt_of_cell? w _ hx168_0)).trans hx168_0; replace hx168_1 := (HB.out.cell (World.block_lt_of_cell? w _ hx168_1)).trans hx168_1; replace p168 := eq_true p168; replace q168 := eq_true q168
       go_wp2_with (first | (go_at_call 35; (with_reducible refine (rf_In.calls ((rd_T41 l0_0 x3_1).f0) 0 ((rd_T41 l0_0 x3_1).f1) false _ A8.out).mono ?_); rintro e w' ⟨rfl, ⟨nd, rfl⟩⟩; (try first | exact ⟨rfl, _, World.drewN_drewN _ _ _⟩ | exact ⟨rfl, _, Eq.trans (World.drewN_drewN _ _ _) (congrArg (World.drewN _) (Nat.add_assoc _ _ _))⟩)))
       repeat (go_quiet (first | (go_at_call 35; (with_reducible refine (rf_In.calls ((rd_T41 l0_0 x3_1).f0) 0 ((rd_T41 l0_0 x3_1).f1) false _ A8.out).mono ?_); rintro e w' ⟨rfl, ⟨nd, rfl⟩⟩; (try first | exact ⟨rfl, _, World.drewN_drewN _ _ _⟩ | exact ⟨rfl, _, Eq.trans (World.drewN_drewN _ _ _) (congrArg (World.drewN _) (Nat.add_assoc _ _ _))⟩))); try go_wp2_with (first | (go_at_call 35; (with_reducible refine (rf_In.calls ((rd_T41 l0_0 x3_1).f0) 0 ((rd_T41 l0_0 x3_1).f1) false _ A8.out).mono ?_); rintro e w' ⟨rfl, ⟨nd, rfl⟩⟩; (try first | exact ⟨rfl, _, World.drewN_drewN _ _ _⟩ | exact ⟨rfl, _, Eq.trans (World.drewN_drewN _ _ _) (congrArg (World.drewN _) (Nat.add_assoc _ _ _))⟩))))
       go_ret
       exact ⟨by first | rfl | (simp [errW_none, errW_some] <;> rfl) | (simp [*, errW_none, errW_some] <;> rfl), sqB HB⟩
     ·rw [if_neg c7] at H
      exact absurd H (by simp)
    ·rw [if_neg c6] at H
     have c6b0 : decide (x3_1 < (l0_0.length : Int)) = false := decide_eq_false c6; clear c6
     by_cases c14 : (l0_1.length : Int) > 8
     ·rw [if_pos c14] at H
      have c14b0 : decide (8 < (l0_1.length : Int)) = true := decide_eq_true c14; have c14b1 : decide (8 < l0_1.length) = true := decide_eq_true (by omega); clear c14; obtain rfl := Option.some.inj H; have hcz15_0 := sqc0 BK165; have hcz15_1 := sqc1 BK165; have hfz15_0 := blk_frozen BK165.out 0; have hfz15_1 := blk_frozen BK165.out 1
      go_wp2
      repeat (go_quiet (fail); try go_wp2)
      go_ret
      exact ⟨by first | rfl | (simp [errW_none, errW_some] <;> rfl) | (simp [*, errW_none, errW_some] <;> rfl), sqB HB⟩
     ·rw [if_neg c14] at H
      have c14b0 : decide (8 < (l0_1.length : Int)) = false := decide_eq_false c14; have c14b1 : decide (8 < l0_1.length) = false := decide_eq_false (by omega); clear c14; have H' := Aside0.mk H; clear H; have hcz16_0 := sqc0 BK165; have hcz16_1 := sqc1 BK165; have hfz16_0 := blk_frozen BK165.out 0; have hfz16_1 := blk_frozen BK165.out 1
      go_wp2
      repeat (go_quiet (fail); try go_wp2)
      go_loopg [4] k1 (fun kq v4 w' => ∃ (x4_2 : Int), v4 = .int .i64 x4_2 ∧ Aside0 (rf_Check.l1 kq x4_2 l0_0 l0_1 = some r) ∧ Aside0 (kq ≤ k1) ∧ Aside0 (w'.heap[gb165]? = some (.cells #[(.slice A0_0 l0_0.length c0_0), (.slice A0_1 l0_1.length c0_1)] 25 (0, 0))) ∧ Aside0 (Below w.heap.size w w'))
      case atStart => exact ⟨(0), sqE, H', ⟨Nat.le_refl _⟩, ⟨sqK BK165⟩, ⟨sqB HB⟩⟩
      case round =>
       clear H'; try clear c6b0
       (try clear c14b0); (try clear c14b1); (try clear hcz16_0); (try clear hcz16_1); (try clear hfz16_0); (try clear hfz16_1); obtain ⟨x4_2, rfl, HA, HK2, BK165, HB⟩ := hrel
       cases gk with
       | zero => exact absurd HA.out (by simp [rf_Check.l1])
       | succ k2 =>
        have H := HA.out; clear HA; simp only [rf_Check.l1] at H
        by_cases c17 : x4_2 < (l0_1.length : Int)
        ·rw [if_pos c17] at H
         have c17b0 : decide (x4_2 < (l0_1.length : Int)) = true := decide_eq_true c17; clear c17
         by_cases c18 : 0 ≤ x4_2
         ·rw [if_pos c18] at H
          have c18b0 : decide (0 ≤ x4_2) = true := decide_eq_true c18; clear c18; obtain ⟨t173, A190, H⟩ := Option.bind_eq_some_iff.mp H; have A19 := Aside0.mk A190; clear A190
          by_cases c20 : t173 = true
          ·subst c20
           rw [if_pos rfl] at H; obtain ⟨t174, A210, H⟩ := Option.bind_eq_some_iff.mp H; have A21 := Aside0.mk A210; clear A210
           by_cases c22 : t174 = true
           ·subst c22
            rw [if_pos rfl] at H; obtain ⟨t175, A230, H⟩ := Option.bind_eq_some_iff.mp H; have A23 := Aside0.mk A230; clear A230
            by_cases c24 : t175 = true
            ·subst c24
             rw [if_pos rfl] at H; have H' := Aside0.mk H; clear H; have hcz25_0 := sqc0 BK165; have hcz25_1 := sqc1 BK165; have hfz25_0 := blk_frozen BK165.out 0; have hfz25_1 := blk_frozen BK165.out 1; have p171 : 0 ≤ (x4_2 : Int) := sqD; have q171 : x4_2 < (l0_1.length : Int) := sqD; obtain ⟨ad171, e171, hx171_0, hx171_1, hx171_2⟩ := at_T80 HR0_1.out x4_2 p171 q171
             cases e171
             replace hx171_0 := (HB.out.cell (World.block_lt_of_cell? w _ hx171_0)).trans hx171_0; replace hx171_1 := (HB.out.cell (World.block_lt_of_cell? w _ hx171_1)).trans hx171_1; replace hx171_2 := (HB.out.cell (World.block_lt_of_cell? w _ hx171_2)).trans hx171_2; replace p171 := eq_true p171; replace q171 := eq_true q171
             go_wp2_with (first | ((with_reducible refine gate_dst (N := 5) rfl ?_); refine box_event ?hg (N := 5) ?hd (cs := #[.int .i64 0, .int .i64 0, .int .i64 0]) (t := 80) ?hr ?_; (case hd => rfl); (case hg => rfl); (case hr => first | (go_simp; done) | (go_simp; rfl)); intro gb172 hg w26 hbox hb; have BK172 := Aside0.mk (hbox); have GW172 := Aside0.mk (sqZ hg HB); have GE172 := Aside0.mk (sqZ hg HB); replace HB := sqb hb HB; have NB165_172 := Aside0.mk (sqL hg BK165); have NB172_165 := Aside0.mk (sqG hg BK165); replace BK165 := sqk BK165 hb; clear hb hbox hg; have hnb27 := NB172_165.out; have hnc27 := NB165_172.out; have hcz28_0 := sqc0 BK172; have hcz28_1 := sqc1 BK172; have hcz28_2 := sqc2 BK172; have hfz28_0 := blk_frozen BK172.out 0; have hfz28_1 := blk_frozen BK172.out 1; have hfz28_2 := blk_frozen BK172.out 2; have hcz29_0 := sqc0 BK165; have hcz29_1 := sqc1 BK165; have hfz29_0 := blk_frozen BK165.out 0; have hfz29_1 := blk_frozen BK165.out 1) | (go_at_call 35; (with_reducible refine (rf_In.calls ((rd_T80 l0_1 x4_2).f0) 0 (l0_0.length : Int) true _ A19.out).mono ?_); rintro e w' ⟨rfl, ⟨nd, rfl⟩⟩; (try first | exact ⟨rfl, _, World.drewN_drewN _ _ _⟩ | exact ⟨rfl, _, Eq.trans (World.drewN_drewN _ _ _) (congrArg (World.drewN _) (Nat.add_assoc _ _ _))⟩)) | (go_at_call 35; (with_reducible refine (rf_In.calls ((rd_T80 l0_1 x4_2).f1) 0 400 true _ A21.out).mono ?_); rintro e w' ⟨rfl, ⟨nd, rfl⟩⟩; (try first | exact ⟨rfl, _, World.drewN_drewN _ _ _⟩ | exact ⟨rfl, _, Eq.trans (World.drewN_drewN _ _ _) (congrArg (World.drewN _) (Nat.add_assoc _ _ _))⟩)) | (go_at_call 35; (with_reducible refine (rf_In.calls ((rd_T80 l0_1 x4_2).f2) 0 20 true _ A23.out).mono ?_); rintro e w' ⟨rfl, ⟨nd, rfl⟩⟩; (try first | exact ⟨rfl, _, World.drewN_drewN _ _ _⟩ | exact ⟨rfl, _, Eq.trans (World.drewN_drewN _ _ _) (congrArg (World.drewN _) (Nat.add_assoc _ _ _))⟩)))
             repeat (go_quiet (first | ((with_reducible refine gate_dst (N := 5) rfl ?_); refine box_event ?hg (N := 5) ?hd (cs := #[.int .i64 0, .int .i64 0, .int .i64 0]) (t := 80) ?hr ?_; (case hd => rfl); (case hg => rfl); (case hr => first | (go_simp; done) | (go_simp; rfl)); intro gb172 hg w26 hbox hb; have BK172 := Aside0.mk (hbox); have GW172 := Aside0.mk (sqZ hg HB); have GE172 := Aside0.mk (sqZ hg HB); replace HB := sqb hb HB; have NB165_172 := Aside0.mk (sqL hg BK165); have NB172_165 := Aside0.mk (sqG hg BK165); replace BK165 := sqk BK165 hb; clear hb hbox hg; have hnb27 := NB172_165.out; have hnc27 := NB165_172.out; have hcz28_0 := sqc0 BK172; have hcz28_1 := sqc1 BK172; have hcz28_2 := sqc2 BK172; have hfz28_0 := blk_frozen BK172.out 0; have hfz28_1 := blk_frozen BK172.out 1; have hfz28_2 := blk_frozen BK172.out 2; have hcz29_0 := sqc0 BK165; have hcz29_1 := sqc1 BK165; have hfz29_0 := blk_frozen BK165.out 0; have hfz29_1 := blk_frozen BK165.out 1) | (go_at_call 35; (with_reducible refine (rf_In.calls ((rd_T80 l0_1 x4_2).f0) 0 (l0_0.length : Int) true _ A19.out).mono ?_); rintro e w' ⟨rfl, ⟨nd, rfl⟩⟩; (try first | exact ⟨rfl, _, World.drewN_drewN _ _ _⟩ | exact ⟨rfl, _, Eq.trans (World.drewN_drewN _ _ _) (congrArg (World.drewN _) (Nat.add_assoc _ _ _))⟩)) | (go_at_call 35; (with_reducible refine (rf_In.calls ((rd_T80 l0_1 x4_2).f1) 0 400 true _ A21.out).mono ?_); rintro e w' ⟨rfl, ⟨nd, rfl⟩⟩; (try first | exact ⟨rfl, _, World.drewN_drewN _ _ _⟩ | exact ⟨rfl, _, Eq.trans (World.drewN_drewN _ _ _) (congrArg (World.drewN _) (Nat.add_assoc _ _ _))⟩)) | (go_at_call 35; (with_reducible refine (rf_In.calls ((rd_T80 l0_1 x4_2).f2) 0 20 true _ A23.out).mono ?_); rintro e w' ⟨rfl, ⟨nd, rfl⟩⟩; (try first | exact ⟨rfl, _, World.drewN_drewN _ _ _⟩ | exact ⟨rfl, _, Eq.trans (World.drewN_drewN _ _ _) (congrArg (World.drewN _) (Nat.add_assoc _ _ _))⟩))); try go_wp2_with (first | ((with_reducible refine gate_dst (N := 5) rfl ?_); refine box_event ?hg (N := 5) ?hd (cs := #[.int .i64 0, .int .i64 0, .int .i64 0]) (t := 80) ?hr ?_; (case hd => rfl); (case hg => rfl); (case hr => first | (go_simp; done) | (go_simp; rfl)); intro gb172 hg w26 hbox hb; have BK172 := Aside0.mk (hbox); have GW172 := Aside0.mk (sqZ hg HB); have GE172 := Aside0.mk (sqZ hg HB); replace HB := sqb hb HB; have NB165_172 := Aside0.mk (sqL hg BK165); have NB172_165 := Aside0.mk (sqG hg BK165); replace BK165 := sqk BK165 hb; clear hb hbox hg; have hnb27 := NB172_165.out; have hnc27 := NB165_172.out; have hcz28_0 := sqc0 BK172; have hcz28_1 := sqc1 BK172; have hcz28_2 := sqc2 BK172; have hfz28_0 := blk_frozen BK172.out 0; have hfz28_1 := blk_frozen BK172.out 1; have hfz28_2 := blk_frozen BK172.out 2; have hcz29_0 := sqc0 BK165; have hcz29_1 := sqc1 BK165; have hfz29_0 := blk_frozen BK165.out 0; have hfz29_1 := blk_frozen BK165.out 1) | (go_at_call 35; (with_reducible refine (rf_In.calls ((rd_T80 l0_1 x4_2).f0) 0 (l0_0.length : Int) true _ A19.out).mono ?_); rintro e w' ⟨rfl, ⟨nd, rfl⟩⟩; (try first | exact ⟨rfl, _, World.drewN_drewN _ _ _⟩ | exact ⟨rfl, _, Eq.trans (World.drewN_drewN _ _ _) (congrArg (World.drewN _) (Nat.add_assoc _ _ _))⟩)) | (go_at_call 35; (with_reducible refine (rf_In.calls ((rd_T80 l0_1 x4_2).f1) 0 400 true _ A21.out).mono ?_); rintro e w' ⟨rfl, ⟨nd, rfl⟩⟩; (try first | exact ⟨rfl, _, World.drewN_drewN _ _ _⟩ | exact ⟨rfl, _, Eq.trans (World.drewN_drewN _ _ _) (congrArg (World.drewN _) (Nat.add_assoc _ _ _))⟩)) | (go_at_call 35; (with_reducible refine (rf_In.calls ((rd_T80 l0_1 x4_2).f2) 0 20 true _ A23.out).mono ?_); rintro e w' ⟨rfl, ⟨nd, rfl⟩⟩; (try first | exact ⟨rfl, _, World.drewN_drewN _ _ _⟩ | exact ⟨rfl, _, Eq.trans (World.drewN_drewN _ _ _) (congrArg (World.drewN _) (Nat.add_assoc _ _ _))⟩))))
             go_roundg k2
             case measure => have := HK1.out; have := HK2.out; omega
             case rel => exact ⟨(wrap64 (x4_2 + 1)), sqE, H', ⟨by have := HK1.out; have := HK2.out; omega⟩, ⟨sqX⟩, ⟨sqB HB⟩⟩
            ·replace c24 := Bool.eq_false_iff.mpr c24
             subst c24; rw [if_neg Bool.false_ne_true] at H; obtain rfl := Option.some.inj H; have hcz30_0 := sqc0 BK165; have hcz30_1 := sqc1 BK165; have hfz30_0 := blk_frozen BK165.out 0; have hfz30_1 := blk_frozen BK165.out 1; have p171 : 0 ≤ (x4_2 : Int) := sqD; have q171 : x4_2 < (l0_1.length : Int) := sqD; obtain ⟨ad171, e171, hx171_0, hx171_1, hx171_2⟩ := at_T80 HR0_1.out x4_2 p171 q171
             cases e171
             replace hx171_0 := (HB.out.cell (World.block_lt_of_cell? w _ hx171_0)).trans hx171_0; replace hx171_1 := (HB.out.cell (World.block_lt_of_cell? w _ hx171_1)).trans hx171_1; replace hx171_2 := (HB.out.cell (World.block_lt_of_cell? w _ hx171_2)).trans hx171_2; replace p171 := eq_true p171; replace q171 := eq_true q171
             go_wp2_with (first | ((with_reducible refine gate_dst (N := 5) rfl ?_); refine box_event ?hg (N := 5) ?hd (cs := #[.int .i64 0, .int .i64 0, .int .i64 0]) (t := 80) ?hr ?_; (case hd => rfl); (case hg => rfl); (case hr => first | (go_simp; done) | (go_simp; rfl)); intro gb172 hg w31 hbox hb; have BK172 := Aside0.mk (hbox); have GW172 := Aside0.mk (sqZ hg HB); have GE172 := Aside0.mk (sqZ hg HB); replace HB := sqb hb HB; have NB165_172 := Aside0.mk (sqL hg BK165); have NB172_165 := Aside0.mk (sqG hg BK165); replace BK165 := sqk BK165 hb; clear hb hbox hg; have hnb32 := NB172_165.out; have hnc32 := NB165_172.out; have hcz33_0 := sqc0 BK172; have hcz33_1 := sqc1 BK172; have hcz33_2 := sqc2 BK172; have hfz33_0 := blk_frozen BK172.out 0; have hfz33_1 := blk_frozen BK172.out 1; have hfz33_2 := blk_frozen BK172.out 2; have hcz34_0 := sqc0 BK165; have hcz34_1 := sqc1 BK165; have hfz34_0 := blk_frozen BK165.out 0; have hfz34_1 := blk_frozen BK165.out 1) | (go_at_call 35; (with_reducible refine (rf_In.calls ((rd_T80 l0_1 x4_2).f0) 0 (l0_0.length : Int) true _ A19.out).mono ?_); rintro e w' ⟨rfl, ⟨nd, rfl⟩⟩; (try first | exact ⟨rfl, _, World.drewN_drewN _ _ _⟩ | exact ⟨rfl, _, Eq.trans (World.drewN_drewN _ _ _) (congrArg (World.drewN _) (Nat.add_assoc _ _ _))⟩)) | (go_at_call 35; (with_reducible refine (rf_In.calls ((rd_T80 l0_1 x4_2).f1) 0 400 true _ A21.out).mono ?_); rintro e w' ⟨rfl, ⟨nd, rfl⟩⟩; (try first | exact ⟨rfl, _, World.drewN_drewN _ _ _⟩ | exact ⟨rfl, _, Eq.trans (World.drewN_drewN _ _ _) (congrArg (World.drewN _) (Nat.add_assoc _ _ _))⟩)) | (go_at_call 35; (with_reducible refine (rf_In.calls ((rd_T80 l0_1 x4_2).f2) 0 20 false _ A23.out).mono ?_); rintro e w' ⟨rfl, ⟨nd, rfl⟩⟩; (try first | exact ⟨rfl, _, World.drewN_drewN _ _ _⟩ | exact ⟨rfl, _, Eq.trans (World.drewN_drewN _ _ _) (congrArg (World.drewN _) (Nat.add_assoc _ _ _))⟩)))
             repeat (go_quiet (first | ((with_reducible refine gate_dst (N := 5) rfl ?_); refine box_event ?hg (N := 5) ?hd (cs := #[.int .i64 0, .int .i64 0, .int .i64 0]) (t := 80) ?hr ?_; (case hd => rfl); (case hg => rfl); (case hr => first | (go_simp; done) | (go_simp; rfl)); intro gb172 hg w31 hbox hb; have BK172 := Aside0.mk (hbox); have GW172 := Aside0.mk (sqZ hg HB); have GE172 := Aside0.mk (sqZ hg HB); replace HB := sqb hb HB; have NB165_172 := Aside0.mk (sqL hg BK165); have NB172_165 := Aside0.mk (sqG hg BK165); replace BK165 := sqk BK165 hb; clear hb hbox hg; have hnb32 := NB172_165.out; have hnc32 := NB165_172.out; have hcz33_0 := sqc0 BK172; have hcz33_1 := sqc1 BK172; have hcz33_2 := sqc2 BK172; have hfz33_0 := blk_frozen BK172.out 0; have hfz33_1 := blk_frozen BK172.out 1; have hfz33_2 := blk_frozen BK172.out 2; have hcz34_0 := sqc0 BK165; have hcz34_1 := sqc1 BK165; have hfz34_0 := blk_frozen BK165.out 0; have hfz34_1 := blk_frozen BK165.out 1) | (go_at_call 35; (with_reducible refine (rf_In.calls ((rd_T80 l0_1 x4_2).f0) 0 (l0_0.length : Int) true _ A19.out).mono ?_); rintro e w' ⟨rfl, ⟨nd, rfl⟩⟩; (try first | exact ⟨rfl, _, World.drewN_drewN _ _ _⟩ | exact ⟨rfl, _, Eq.trans (World.drewN_drewN _ _ _) (congrArg (World.drewN _) (Nat.add_assoc _ _ _))⟩)) | (go_at_call 35; (with_reducible refine (rf_In.calls ((rd_T80 l0_1 x4_2).f1) 0 400 true _ A21.out).mono ?_); rintro e w' ⟨rfl, ⟨nd, rfl⟩⟩; (try first | exact ⟨rfl, _, World.drewN_drewN _ _ _⟩ | exact ⟨rfl, _, Eq.trans (World.drewN_drewN _ _ _) (congrArg (World.drewN _) (Nat.add_assoc _ _ _))⟩)) | (go_at_call 35; (with_reducible refine (rf_In.calls ((rd_T80 l0_1 x4_2).f2) 0 20 false _ A23.out).mono ?_); rintro e w' ⟨rfl, ⟨nd, rfl⟩⟩; (try first | exact ⟨rfl, _, World.drewN_drewN _ _ _⟩ | exact ⟨rfl, _, Eq.trans (World.drewN_drewN _ _ _) (congrArg (World.drewN _) (Nat.add_assoc _ _ _))⟩))); try go_wp2_with (first | ((with_reducible refine gate_dst (N := 5) rfl ?_); refine box_event ?hg (N := 5) ?hd (cs := #[.int .i64 0, .int .i64 0, .int .i64 0]) (t := 80) ?hr ?_; (case hd => rfl); (case hg => rfl); (case hr => first | (go_simp; done) | (go_simp; rfl)); intro gb172 hg w31 hbox hb; have BK172 := Aside0.mk (hbox); have GW172 := Aside0.mk (sqZ hg HB); have GE172 := Aside0.mk (sqZ hg HB); replace HB := sqb hb HB; have NB165_172 := Aside0.mk (sqL hg BK165); have NB172_165 := Aside0.mk (sqG hg BK165); replace BK165 := sqk BK165 hb; clear hb hbox hg; have hnb32 := NB172_165.out; have hnc32 := NB165_172.out; have hcz33_0 := sqc0 BK172; have hcz33_1 := sqc1 BK172; have hcz33_2 := sqc2 BK172; have hfz33_0 := blk_frozen BK172.out 0; have hfz33_1 := blk_frozen BK172.out 1; have hfz33_2 := blk_frozen BK172.out 2; have hcz34_0 := sqc0 BK165; have hcz34_1 := sqc1 BK165; have hfz34_0 := blk_frozen BK165.out 0; have hfz34_1 := blk_frozen BK165.out 1) | (go_at_call 35; (with_reducible refine (rf_In.calls ((rd_T80 l0_1 x4_2).f0) 0 (l0_0.length : Int) true _ A19.out).mono ?_); rintro e w' ⟨rfl, ⟨nd, rfl⟩⟩; (try first | exact ⟨rfl, _, World.drewN_drewN _ _ _⟩ | exact ⟨rfl, _, Eq.trans (World.drewN_drewN _ _ _) (congrArg (World.drewN _) (Nat.add_assoc _ _ _))⟩)) | (go_at_call 35; (with_reducible refine (rf_In.calls ((rd_T80 l0_1 x4_2).f1) 0 400 true _ A21.out).mono ?_); rintro e w' ⟨rfl, ⟨nd, rfl⟩⟩; (try first | exact ⟨rfl, _, World.drewN_drewN _ _ _⟩ | exact ⟨rfl, _, Eq.trans (World.drewN_drewN _ _ _) (congrArg (World.drewN _) (Nat.add_assoc _ _ _))⟩)) | (go_at_call 35; (with_reducible refine (rf_In.calls ((rd_T80 l0_1 x4_2).f2) 0 20 false _ A23.out).mono ?_); rintro e w' ⟨rfl, ⟨nd, rfl⟩⟩; (try first | exact ⟨rfl, _, World.drewN_drewN _ _ _⟩ | exact ⟨rfl, _, Eq.trans (World.drewN_drewN _ _ _) (congrArg (World.drewN _) (Nat.add_assoc _ _ _))⟩))))
             go_ret
             exact ⟨by first | rfl | (simp [errW_none, errW_some] <;> rfl) | (simp [*, errW_none, errW_some] <;> rfl), sqB HB⟩
           ·replace c22 := Bool.eq_false_iff.mpr c22
            subst c22; rw [if_neg Bool.false_ne_true] at H; obtain rfl := Option.some.inj H; have hcz35_0 := sqc0 BK165; have hcz35_1 := sqc1 BK165; have hfz35_0 := blk_frozen BK165.out 0; have hfz35_1 := blk_frozen BK165.out 1; have p171 : 0 ≤ (x4_2 : Int) := sqD; have q171 : x4_2 < (l0_1.length : Int) := sqD; obtain ⟨ad171, e171, hx171_0, hx171_1, hx171_2⟩ := at_T80 HR0_1.out x4_2 p171 q171
            cases e171
            replace hx171_0 := (HB.out.cell (World.block_lt_of_cell? w _ hx171_0)).trans hx171_0; replace hx171_1 := (HB.out.cell (World.block_lt_of_cell? w _ hx171_1)).trans hx171_1; replace hx171_2 := (HB.out.cell (World.block_lt_of_cell? w _ hx171_2)).trans hx171_2; replace p171 := eq_true p171; replace q171 := eq_true q171
            go_wp2_with (first | ((with_reducible refine gate_dst (N := 5) rfl ?_); refine box_event ?hg (N := 5) ?hd (cs := #[.int .i64 0, .int .i64 0, .int .i64 0]) (t := 80) ?hr ?_; (case hd => rfl); (case hg => rfl); (case hr => first | (go_simp; done) | (go_simp; rfl)); intro gb172 hg w36 hbox hb; have BK172 := Aside0.mk (hbox); have GW172 := Aside0.mk (sqZ hg HB); have GE172 := Aside0.mk (sqZ hg HB); replace HB := sqb hb HB; have NB165_172 := Aside0.mk (sqL hg BK165); have NB172_165 := Aside0.mk (sqG hg BK165); replace BK165 := sqk BK165 hb; clear hb hbox hg; have hnb37 := NB172_165.out; have hnc37 := NB165_172.out; have hcz38_0 := sqc0 BK172; have hcz38_1 := sqc1 BK172; have hcz38_2 := sqc2 BK172; have hfz38_0 := blk_frozen BK172.out 0; have hfz38_1 := blk_frozen BK172.out 1; have hfz38_2 := blk_frozen BK172.out 2; have hcz39_0 := sqc0 BK165; have hcz39_1 := sqc1 BK165; have hfz39_0 := blk_frozen BK165.out 0; have hfz39_1 := blk_frozen BK165.out 1) | (go_at_call 35; (with_reducible refine (rf_In.calls ((rd_T80 l0_1 x4_2).f0) 0 (l0_0.length : Int) true _ A19.out).mono ?_); rintro e w' ⟨rfl, ⟨nd, rfl⟩⟩; (try first | exact ⟨rfl, _, World.drewN_drewN _ _ _⟩ | exact ⟨rfl, _, Eq.trans (World.drewN_drewN _ _ _) (congrArg (World.drewN _) (Nat.add_assoc _ _ _))⟩)) | (go_at_call 35; (with_reducible refine (rf_In.calls ((rd_T80 l0_1 x4_2).f1) 0 400 false _ A21.out).mono ?_); rintro e w' ⟨rfl, ⟨nd, rfl⟩⟩; (try first | exact ⟨rfl, _, World.drewN_drewN _ _ _⟩ | exact ⟨rfl, _, Eq.trans (World.drewN_drewN _ _ _) (congrArg (World.drewN _) (Nat.add_assoc _ _ _))⟩)))
            repeat (go_quiet (first | ((with_reducible refine gate_dst (N := 5) rfl ?_); refine box_event ?hg (N := 5) ?hd (cs := #[.int .i64 0, .int .i64 0, .int .i64 0]) (t := 80) ?hr ?_; (case hd => rfl); (case hg => rfl); (case hr => first | (go_simp; done) | (go_simp; rfl)); intro gb172 hg w36 hbox hb; have BK172 := Aside0.mk (hbox); have GW172 := Aside0.mk (sqZ hg HB); have GE172 := Aside0.mk (sqZ hg HB); replace HB := sqb hb HB; have NB165_172 := Aside0.mk (sqL hg BK165); have NB172_165 := Aside0.mk (sqG hg BK165); replace BK165 := sqk BK165 hb; clear hb hbox hg; have hnb37 := NB172_165.out; have hnc37 := NB165_172.out; have hcz38_0 := sqc0 BK172; have hcz38_1 := sqc1 BK172; have hcz38_2 := sqc2 BK172; have hfz38_0 := blk_frozen BK172.out 0; have hfz38_1 := blk_frozen BK172.out 1; have hfz38_2 := blk_frozen BK172.out 2; have hcz39_0 := sqc0 BK165; have hcz39_1 := sqc1 BK165; have hfz39_0 := blk_frozen BK165.out 0; have hfz39_1 := blk_frozen BK165.out 1) | (go_at_call 35; (with_reducible refine (rf_In.calls ((rd_T80 l0_1 x4_2).f0) 0 (l0_0.length : Int) true _ A19.out).mono ?_); rintro e w' ⟨rfl, ⟨nd, rfl⟩⟩; (try first | exact ⟨rfl, _, World.drewN_drewN _ _ _⟩ | exact ⟨rfl, _, Eq.trans (World.drewN_drewN _ _ _) (congrArg (World.drewN _) (Nat.add_assoc _ _ _))⟩)) | (go_at_call 35; (with_reducible refine (rf_In.calls ((rd_T80 l0_1 x4_2).f1) 0 400 false _ A21.out).mono ?_); rintro e w' ⟨rfl, ⟨nd, rfl⟩⟩; (try first | exact ⟨rfl, _, World.drewN_drewN _ _ _⟩ | exact ⟨rfl, _, Eq.trans (World.drewN_drewN _ _ _) (congrArg (World.drewN _) (Nat.add_assoc _ _ _))⟩))); try go_wp2_with (first | ((with_reducible refine gate_dst (N := 5) rfl ?_); refine box_event ?hg (N := 5) ?hd (cs := #[.int .i64 0, .int .i64 0, .int .i64 0]) (t := 80) ?hr ?_; (case hd => rfl); (case hg => rfl); (case hr => first | (go_simp; done) | (go_simp; rfl)); intro gb172 hg w36 hbox hb; have BK172 := Aside0.mk (hbox); have GW172 := Aside0.mk (sqZ hg HB); have GE172 := Aside0.mk (sqZ hg HB); replace HB := sqb hb HB; have NB165_172 := Aside0.mk (sqL hg BK165); have NB172_165 := Aside0.mk (sqG hg BK165); replace BK165 := sqk BK165 hb; clear hb hbox hg; have hnb37 := NB172_165.out; have hnc37 := NB165_172.out; have hcz38_0 := sqc0 BK172; have hcz38_1 := sqc1 BK172; have hcz38_2 := sqc2 BK172; have hfz38_0 := blk_frozen BK172.out 0; have hfz38_1 := blk_frozen BK172.out 1; have hfz38_2 := blk_frozen BK172.out 2; have hcz39_0 := sqc0 BK165; have hcz39_1 := sqc1 BK165; have hfz39_0 := blk_frozen BK165.out 0; have hfz39_1 := blk_frozen BK165.out 1) | (go_at_call 35; (with_reducible refine (rf_In.calls ((rd_T80 l0_1 x4_2).f0) 0 (l0_0.length : Int) true _ A19.out).mono ?_); rintro e w' ⟨rfl, ⟨nd, rfl⟩⟩; (try first | exact ⟨rfl, _, World.drewN_drewN _ _ _⟩ | exact ⟨rfl, _, Eq.trans (World.drewN_drewN _ _ _) (congrArg (World.drewN _) (Nat.add_assoc _ _ _))⟩)) | (go_at_call 35; (with_reducible refine (rf_In.calls ((rd_T80 l0_1 x4_2).f1) 0 400 false _ A21.out).mono ?_); rintro e w' ⟨rfl, ⟨nd, rfl⟩⟩; (try first | exact ⟨rfl, _, World.drewN_drewN _ _ _⟩ | exact ⟨rfl, _, Eq.trans (World.drewN_drewN _ _ _) (congrArg (World.drewN _) (Nat.add_assoc _ _ _))⟩))))
            go_ret
            exact ⟨by first | rfl | (simp [errW_none, errW_some] <;> rfl) | (simp [*, errW_none, errW_some] <;> rfl), sqB HB⟩
          ·replace c20 := Bool.eq_false_iff.mpr c20
           subst c20; rw [if_neg Bool.false_ne_true] at H; obtain rfl := Option.some.inj H; have hcz40_0 := sqc0 BK165; have hcz40_1 := sqc1 BK165; have hfz40_0 := blk_frozen BK165.out 0; have hfz40_1 := blk_frozen BK165.out 1; have p171 : 0 ≤ (x4_2 : Int) := sqD; have q171 : x4_2 < (l0_1.length : Int) := sqD; obtain ⟨ad171, e171, hx171_0, hx171_1, hx171_2⟩ := at_T80 HR0_1.out x4_2 p171 q171
           cases e171
           replace hx171_0 := (HB.out.cell (World.block_lt_of_cell? w _ hx171_0)).trans hx171_0; replace hx171_1 := (HB.out.cell (World.block_lt_of_cell? w _ hx171_1)).trans hx171_1; replace hx171_2 := (HB.out.cell (World.block_lt_of_cell? w _ hx171_2)).trans hx171_2; replace p171 := eq_true p171; replace q171 := eq_true q171
           go_wp2_with (first | ((with_reducible refine gate_dst (N := 5) rfl ?_); refine box_event ?hg (N := 5) ?hd (cs := #[.int .i64 0, .int .i64 0, .int .i64 0]) (t := 80) ?hr ?_; (case hd => rfl); (case hg => rfl); (case hr => first | (go_simp; done) | (go_simp; rfl)); intro gb172 hg w41 hbox hb; have BK172 := Aside0.mk (hbox); have GW172 := Aside0.mk (sqZ hg HB); have GE172 := Aside0.mk (sqZ hg HB); replace HB := sqb hb HB; have NB165_172 := Aside0.mk (sqL hg BK165); have NB172_165 := Aside0.mk (sqG hg BK165); replace BK165 := sqk BK165 hb; clear hb hbox hg; have hnb42 := NB172_165.out; have hnc42 := NB165_172.out; have hcz43_0 := sqc0 BK172; have hcz43_1 := sqc1 BK172; have hcz43_2 := sqc2 BK172; have hfz43_0 := blk_frozen BK172.out 0; have hfz43_1 := blk_frozen BK172.out 1; have hfz43_2 := blk_frozen BK172.out 2; have hcz44_0 := sqc0 BK165; have hcz44_1 := sqc1 BK165; have hfz44_0 := blk_frozen BK165.out 0; have hfz44_1 := blk_frozen BK165.out 1) | (go_at_call 35; (with_reducible refine (rf_In.calls ((rd_T80 l0_1 x4_2).f0) 0 (l0_0.length : Int) false _ A19.out).mono ?_); rintro e w' ⟨rfl, ⟨nd, rfl⟩⟩; (try first | exact ⟨rfl, _, World.drewN_drewN _ _ _⟩ | exact ⟨rfl, _, Eq.trans (World.drewN_drewN _ _ _) (congrArg (World.drewN _) (Nat.add_assoc _ _ _))⟩)))
           repeat (go_quiet (first | ((with_reducible refine gate_dst (N := 5) rfl ?_); refine box_event ?hg (N := 5) ?hd (cs := #[.int .i64 0, .int .i64 0, .int .i64 0]) (t := 80) ?hr ?_; (case hd => rfl); (case hg => rfl); (case hr => first | (go_simp; done) | (go_simp; rfl)); intro gb172 hg w41 hbox hb; have BK172 := Aside0.mk (hbox); have GW172 := Aside0.mk (sqZ hg HB); have GE172 := Aside0.mk (sqZ hg HB); replace HB := sqb hb HB; have NB165_172 := Aside0.mk (sqL hg BK165); have NB172_165 := Aside0.mk (sqG hg BK165); replace BK165 := sqk BK165 hb; clear hb hbox hg; have hnb42 := NB172_165.out; have hnc42 := NB165_172.out; have hcz43_0 := sqc0 BK172; have hcz43_1 := sqc1 BK172; have hcz43_2 := sqc2 BK172; have hfz43_0 := blk_frozen BK172.out 0; have hfz43_1 := blk_frozen BK172.out 1; have hfz43_2 := blk_frozen BK172.out 2; have hcz44_0 := sqc0 BK165; have hcz44_1 := sqc1 BK165; have hfz44_0 := blk_frozen BK165.out 0; have hfz44_1 := blk_frozen BK165.out 1) | (go_at_call 35; (with_reducible refine (rf_In.calls ((rd_T80 l0_1 x4_2).f0) 0 (l0_0.length : Int) false _ A19.out).mono ?_); rintro e w' ⟨rfl, ⟨nd, rfl⟩⟩; (try first | exact ⟨rfl, _, World.drewN_drewN _ _ _⟩ | exact ⟨rfl, _, Eq.trans (World.drewN_drewN _ _ _) (congrArg (World.drewN _) (Nat.add_assoc _ _ _))⟩))); try go_wp2_with (first | ((with_reducible refine gate_dst (N := 5) rfl ?_); refine box_event ?hg (N := 5) ?hd (cs := #[.int .i64 0, .int .i64 0, .int .i64 0]) (t := 80) ?hr ?_; (case hd => rfl); (case hg => rfl); (case hr => first | (go_simp; done) | (go_simp; rfl)); intro gb172 hg w41 hbox hb; have BK172 := Aside0.mk (hbox); have GW172 := Aside0.mk (sqZ hg HB); have GE172 := Aside0.mk (sqZ hg HB); replace HB := sqb hb HB; have NB165_172 := Aside0.mk (sqL hg BK165); have NB172_165 := Aside0.mk (sqG hg BK165); replace BK165 := sqk BK165 hb; clear hb hbox hg; have hnb42 := NB172_165.out; have hnc42 := NB165_172.out; have hcz43_0 := sqc0 BK172; have hcz43_1 := sqc1 BK172; have hcz43_2 := sqc2 BK172; have hfz43_0 := blk_frozen BK172.out 0; have hfz43_1 := blk_frozen BK172.out 1; have hfz43_2 := blk_frozen BK172.out 2; have hcz44_0 := sqc0 BK165; have hcz44_1 := sqc1 BK165; have hfz44_0 := blk_frozen BK165.out 0; have hfz44_1 := blk_frozen BK165.out 1) | (go_at_call 35; (with_reducible refine (rf_In.calls ((rd_T80 l0_1 x4_2).f0) 0 (l0_0.length : Int) false _ A19.out).mono ?_); rintro e w' ⟨rfl, ⟨nd, rfl⟩⟩; (try first | exact ⟨rfl, _, World.drewN_drewN _ _ _⟩ | exact ⟨rfl, _, Eq.trans (World.drewN_drewN _ _ _) (congrArg (World.drewN _) (Nat.add_assoc _ _ _))⟩))))
           go_ret
           exact ⟨by first | rfl | (simp [errW_none, errW_some] <;> rfl) | (simp [*, errW_none, errW_some] <;> rfl), sqB HB⟩
         ·rw [if_neg c18] at H
          exact absurd H (by simp)
        ·rw [if_neg c17] at H
         have c17b0 : decide (x4_2 < (l0_1.length : Int)) = false := decide_eq_false c17; clear c17; obtain rfl := Option.some.inj H; have hcz45_0 := sqc0 BK165; have hcz45_1 := sqc1 BK165; have hfz45_0 := blk_frozen BK165.out 0; have hfz45_1 := blk_frozen BK165.out 1
         go_wp2
         repeat (go_quiet (fail); try go_wp2)
         go_ret
         exact ⟨by first | rfl | (simp [errW_none, errW_some] <;> rfl) | (simp [*, errW_none, errW_some] <;> rfl), sqB HB⟩
 ·replace c3 := Bool.eq_false_iff.mpr c3
  subst c3; rw [if_neg Bool.false_ne_true] at H; obtain rfl := Option.some.inj H
  go_enter Tryd.func22, Tryd.ntmps22
  go_wp2_with (first | ((with_reducible refine gate_dst (N := 1) rfl ?_); refine box_event ?hg (N := 1) ?hd (cs := #[.slice A0_0 l0_0.length c0_0, .slice A0_1 l0_1.length c0_1]) (t := 25) ?hr ?_; (case hd => rfl); (case hg => rfl); (case hr => first | (go_simp; done) | (go_simp; rfl)); intro gb165 hg w46 hbox hb; have BK165 := Aside0.mk (hbox); have GW165 := Aside0.mk (sqZ hg HB); have GE165 := Aside0.mk (sqZ hg HB); replace HB := sqb hb HB; clear hb hbox hg; have hcz47_0 := sqc0 BK165; have hcz47_1 := sqc1 BK165; have hfz47_0 := blk_frozen BK165.out 0; have hfz47_1 := blk_frozen BK165.out 1) | (go_at_call 35; (with_reducible refine (rf_In.calls (l0_0.length : Int) 1 5 false _ A2.out).mono ?_); rintro e w' ⟨rfl, ⟨nd, rfl⟩⟩; (try first | exact ⟨rfl, _, World.drewN_drewN _ _ _⟩ | exact ⟨rfl, _, Eq.trans (World.drewN_drewN _ _ _) (congrArg (World.drewN _) (Nat.add_assoc _ _ _))⟩)))
  repeat (go_quiet (first | ((with_reducible refine gate_dst (N := 1) rfl ?_); refine box_event ?hg (N := 1) ?hd (cs := #[.slice A0_0 l0_0.length c0_0, .slice A0_1 l0_1.length c0_1]) (t := 25) ?hr ?_; (case hd => rfl); (case hg => rfl); (case hr => first | (go_simp; done) | (go_simp; rfl)); intro gb165 hg w46 hbox hb; have BK165 := Aside0.mk (hbox); have GW165 := Aside0.mk (sqZ hg HB); have GE165 := Aside0.mk (sqZ hg HB); replace HB := sqb hb HB; clear hb hbox hg; have hcz47_0 := sqc0 BK165; have hcz47_1 := sqc1 BK165; have hfz47_0 := blk_frozen BK165.out 0; have hfz47_1 := blk_frozen BK165.out 1) | (go_at_call 35; (with_reducible refine (rf_In.calls (l0_0.length : Int) 1 5 false _ A2.out).mono ?_); rintro e w' ⟨rfl, ⟨nd, rfl⟩⟩; (try first | exact ⟨rfl, _, World.drewN_drewN _ _ _⟩ | exact ⟨rfl, _, Eq.trans (World.drewN_drewN _ _ _) (congrArg (World.drewN _) (Nat.add_assoc _ _ _))⟩))); try go_wp2_with (first | ((with_reducible refine gate_dst (N := 1) rfl ?_); refine box_event ?hg (N := 1) ?hd (cs := #[.slice A0_0 l0_0.length c0_0, .slice A0_1 l0_1.length c0_1]) (t := 25) ?hr ?_; (case hd => rfl); (case hg => rfl); (case hr => first | (go_simp; done) | (go_simp; rfl)); intro gb165 hg w46 hbox hb; have BK165 := Aside0.mk (hbox); have GW165 := Aside0.mk (sqZ hg HB); have GE165 := Aside0.mk (sqZ hg HB); replace HB := sqb hb HB; clear hb hbox hg; have hcz47_0 := sqc0 BK165; have hcz47_1 := sqc1 BK165; have hfz47_0 := blk_frozen BK165.out 0; have hfz47_1 := blk_frozen BK165.out 1) | (go_at_call 35; (with_reducible refine (rf_In.calls (l0_0.length : Int) 1 5 false _ A2.out).mono ?_); rintro e w' ⟨rfl, ⟨nd, rfl⟩⟩; (try first | exact ⟨rfl, _, World.drewN_drewN _ _ _⟩ | exact ⟨rfl, _, Eq.trans (World.drewN_drewN _ _ _) (congrArg (World.drewN _) (Nat.add_assoc _ _ _))⟩))))
  go_ret
  exact ⟨by first | rfl | (simp [errW_none, errW_some] <;> rfl) | (simp [*, errW_none, errW_some] <;> rfl), sqB HB⟩
end Go.Proofs.YtemingmeidmjkaaDoor.Q
namespace Go.Proofs.YtemingmeidmjkaaDoor.Q
open Go.RowKit Go.Proofs.YtemingmeidmjkaaDoorW.PrintWords Go.Proofs.YtemingmeidmjkaaDoorW.PrintLast Go.Proofs.YtemingmeidmjkaaDoorW.PrintMore
attribute [local go_sem] max2_int min2_int max_two min_two max_three min_three max_four min_four   -- for this text's walks alone
set_option linter.unusedVariables false
set_option linter.unusedSimpArgs false
theorem eqA80 (d : Nat) (w : World) (x0 y0 : Int) (x1 y1 : Int) (x2 y2 : Int) :
  (Op.equalIn (d + 2) 80 (.agg #[.int .i64 x0, .int .i64 x1, .int .i64 x2]) (.agg #[.int .i64 y0, .int .i64 y1, .int .i64 y2])).run Tryd.prog w = .ok (x0 == y0 && (x1 == y1 && (x2 == y2))) w := by
 refine eqA_of Tryd.underlying80 sqF ?_; refine eqf_cons (by rfl) (by go_simp; rfl) (by go_simp; rfl) (by go_simp) ?_; refine eqf_cons (by rfl) (by go_simp; rfl) (by go_simp; rfl) (by go_simp) ?_; exact eqf_last (by rfl) (by go_simp; rfl) (by go_simp; rfl) (by go_simp)
end Go.Proofs.YtemingmeidmjkaaDoor.Q
namespace Go.Proofs.YtemingmeidmjkaaDoor.Q
open Go.RowKit Go.Proofs.YtemingmeidmjkaaDoorW.PrintWords Go.Proofs.YtemingmeidmjkaaDoorW.PrintLast Go.Proofs.YtemingmeidmjkaaDoorW.PrintMore
attribute [local go_sem] max2_int min2_int max_two min_two max_three min_three max_four min_four   -- for this text's walks alone
set_option linter.unusedVariables false
set_option linter.unusedSimpArgs false
attribute [local go_sem high] eqA80
mutual
def rf_Same.j0 : Nat → Bool → List (S41) → List (S80) → List (S41) → List (S80) → Option (Bool)
 | 0, _, _, _, _, _ => none
 | k + 1, x20, x179000, x179001, x180000, x180001 => if x20 = true then (some false) else (rf_Same.l0 k 0 x179000 x179001 x180000 x180001)
def rf_Same.l0 : Nat → Int → List (S41) → List (S80) → List (S41) → List (S80) → Option (Bool)
 | 0, _, _, _, _, _ => none
 | k + 1, x5, x179000, x179001, x180000, x180001 => if x5 < (x179001.length : Int) then (if 0 ≤ x5 then (if x5 < (x180001.length : Int) then (if (!(((rd_T80 x179001 x5).f0) == ((rd_T80 x180001 x5).f0)) || (!(((rd_T80 x179001 x5).f1) == ((rd_T80 x180001 x5).f1)) || (!(((rd_T80 x179001 x5).f2) == ((rd_T80 x180001 x5).f2))))) = true then (some false) else (rf_Same.l0 k (wrap64 (x5 + 1)) x179000 x179001 x180000 x180001)) else (none)) else (none)) else (some true)
end
def rf_Same.f (k : Nat) (l0_0 : List (S41)) (l0_1 : List (S80)) (l1_0 : List (S41)) (l1_1 : List (S80)) : Option (Bool) := (rf_Spans.f k l0_0 l1_0).bind fun t180 => (if t180 = true then (rf_Same.j0 k ((l0_1.length : Int) != (l1_1.length : Int)) l0_0 l0_1 l1_0 l1_1) else (rf_Same.j0 k true l0_0 l0_1 l1_0 l1_1))
set_option maxHeartbeats 8000000 in
set_option maxRecDepth 100000 in
theorem rf_Same.calls (k : Nat) (A0_0 : Option Addr) (c0_0 : Nat) (l0_0 : List (S41)) (A0_1 : Option Addr) (c0_1 : Nat) (l0_1 : List (S80)) (A1_0 : Option Addr) (c1_0 : Nat) (l1_0 : List (S41)) (A1_1 : Option Addr) (c1_1 : Nat) (l1_1 : List (S80)) (r : Bool) (w : World) (hr0_0 : Kd.C k41 w A0_0 l0_0.length l0_0) (hc0_0 : l0_0.length ≤ c0_0) (hr0_1 : Kd.C k80 w A0_1 l0_1.length l0_1) (hc0_1 : l0_1.length ≤ c0_1) (hr1_0 : Kd.C k41 w A1_0 l1_0.length l1_0) (hc1_0 : l1_0.length ≤ c1_0) (hr1_1 : Kd.C k80 w A1_1 l1_1.length l1_1) (hc1_1 : l1_1.length ≤ c1_1) (h : rf_Same.f k l0_0 l0_1 l1_0 l1_1 = some r) :
  Calls Tryd.prog 23 #[.agg #[.slice A0_0 l0_0.length c0_0, .slice A0_1 l0_1.length c0_1], .agg #[.slice A1_0 l1_0.length c1_0, .slice A1_1 l1_1.length c1_1]] w fun e w' => e = .returned (.bool r) ∧ Below w.heap.size w w' := by
 have hu25 := Tryd.underlying25; have hu80 := Tryd.underlying80; have HR0_0 := Aside0.mk hr0_0; have HC0_0 := Aside0.mk hc0_0; clear hr0_0 hc0_0; have HR0_1 := Aside0.mk hr0_1; have HC0_1 := Aside0.mk hc0_1; clear hr0_1 hc0_1; have HR1_0 := Aside0.mk hr1_0; have HC1_0 := Aside0.mk hc1_0; clear hr1_0 hc1_0; have HR1_1 := Aside0.mk hr1_1; have HC1_1 := Aside0.mk hc1_1; clear hr1_1 hc1_1; have HB := Aside0.mk (Below.refl w.heap.size w); have H : ((rf_Spans.f k l0_0 l1_0).bind fun t180 => (if t180 = true then (rf_Same.j0 k ((l0_1.length : Int) != (l1_1.length : Int)) l0_0 l0_1 l1_0 l1_1) else (rf_Same.j0 k true l0_0 l0_1 l1_0 l1_1))) = some r := h; clear h; have HC3 := Aside0.mk H; clear H; go_enter Tryd.func23, Tryd.ntmps23
 go_upto_region 1 with (first | ((with_reducible refine gate_dst (N := 2) rfl ?_); (try (refine gate_guard (by rfl) ?_; dsimp only)); refine box_event ?hg (N := 2) ?hd (cs := #[.slice A0_0 l0_0.length c0_0, .slice A0_1 l0_1.length c0_1]) (t := 25) ?hr ?_; (case hd => rfl); (case hg => rfl); (case hr => first | (go_simp; done) | (go_simp; rfl)); intro gb178 hg w4 hbox hb; have BK178 := Aside0.mk (hbox); have GW178 := Aside0.mk (sqZ hg HB); have GE178 := Aside0.mk (sqZ hg HB); replace HB := sqb hb HB; clear hb hbox hg) | ((with_reducible refine gate_dst (N := 3) rfl ?_); (try (refine gate_guard (by rfl) ?_; dsimp only)); refine box_event ?hg (N := 3) ?hd (cs := #[.slice A1_0 l1_0.length c1_0, .slice A1_1 l1_1.length c1_1]) (t := 25) ?hr ?_; (case hd => rfl); (case hg => rfl); (case hr => first | (go_simp; done) | (go_simp; rfl)); intro gb179 hg w5 hbox hb; have BK179 := Aside0.mk (hbox); have GW179 := Aside0.mk (sqZ hg HB); have GE179 := Aside0.mk (sqZ hg HB); replace HB := sqb hb HB; have NB178_179 := Aside0.mk (sqL hg BK178); have NB179_178 := Aside0.mk (sqG hg BK178); replace BK178 := sqk BK178 hb; clear hb hbox hg))
 repeat (go_quiet (first | ((with_reducible refine gate_dst (N := 2) rfl ?_); (try (refine gate_guard (by rfl) ?_; dsimp only)); refine box_event ?hg (N := 2) ?hd (cs := #[.slice A0_0 l0_0.length c0_0, .slice A0_1 l0_1.length c0_1]) (t := 25) ?hr ?_; (case hd => rfl); (case hg => rfl); (case hr => first | (go_simp; done) | (go_simp; rfl)); intro gb178 hg w4 hbox hb; have BK178 := Aside0.mk (hbox); have GW178 := Aside0.mk (sqZ hg HB); have GE178 := Aside0.mk (sqZ hg HB); replace HB := sqb hb HB; clear hb hbox hg) | ((with_reducible refine gate_dst (N := 3) rfl ?_); (try (refine gate_guard (by rfl) ?_; dsimp only)); refine box_event ?hg (N := 3) ?hd (cs := #[.slice A1_0 l1_0.length c1_0, .slice A1_1 l1_1.length c1_1]) (t := 25) ?hr ?_; (case hd => rfl); (case hg => rfl); (case hr => first | (go_simp; done) | (go_simp; rfl)); intro gb179 hg w5 hbox hb; have BK179 := Aside0.mk (hbox); have GW179 := Aside0.mk (sqZ hg HB); have GE179 := Aside0.mk (sqZ hg HB); replace HB := sqb hb HB; have NB178_179 := Aside0.mk (sqL hg BK178); have NB179_178 := Aside0.mk (sqG hg BK178); replace BK178 := sqk BK178 hb; clear hb hbox hg)); go_upto_region 1 with (first | ((with_reducible refine gate_dst (N := 2) rfl ?_); (try (refine gate_guard (by rfl) ?_; dsimp only)); refine box_event ?hg (N := 2) ?hd (cs := #[.slice A0_0 l0_0.length c0_0, .slice A0_1 l0_1.length c0_1]) (t := 25) ?hr ?_; (case hd => rfl); (case hg => rfl); (case hr => first | (go_simp; done) | (go_simp; rfl)); intro gb178 hg w4 hbox hb; have BK178 := Aside0.mk (hbox); have GW178 := Aside0.mk (sqZ hg HB); have GE178 := Aside0.mk (sqZ hg HB); replace HB := sqb hb HB; clear hb hbox hg) | ((with_reducible refine gate_dst (N := 3) rfl ?_); (try (refine gate_guard (by rfl) ?_; dsimp only)); refine box_event ?hg (N := 3) ?hd (cs := #[.slice A1_0 l1_0.length c1_0, .slice A1_1 l1_1.length c1_1]) (t := 25) ?hr ?_; (case hd => rfl); (case hg => rfl); (case hr => first | (go_simp; done) | (go_simp; rfl)); intro gb179 hg w5 hbox hb; have BK179 := Aside0.mk (hbox); have GW179 := Aside0.mk (sqZ hg HB); have GE179 := Aside0.mk (sqZ hg HB); replace HB := sqb hb HB; have NB178_179 := Aside0.mk (sqL hg BK178); have NB179_178 := Aside0.mk (sqG hg BK178); replace BK178 := sqk BK178 hb; clear hb hbox hg)))
 (try simp only [Act.put, sqA])
 go_cut [20] (fun v20 wc => ∃ (kq : Nat) (x20_2 : Bool), v20 = .bool x20_2 ∧ Aside0 (rf_Same.j0 kq x20_2 l0_0 l0_1 l1_0 l1_1 = some r) ∧ Aside0 (kq ≤ k) ∧ Aside0 (wc.heap[gb178]? = some (.cells #[(.slice A0_0 l0_0.length c0_0), (.slice A0_1 l0_1.length c0_1)] 25 (0, 0))) ∧ Aside0 (wc.heap[gb179]? = some (.cells #[(.slice A1_0 l1_0.length c1_0), (.slice A1_1 l1_1.length c1_1)] 25 (0, 0))) ∧ Aside0 (Below w.heap.size w wc))
 case first =>
  have H := HC3.out; clear HC3; obtain ⟨t180, A60, H⟩ := Option.bind_eq_some_iff.mp H; have A6 := Aside0.mk A60; clear A60
  by_cases c7 : t180 = true
  ·subst c7
   rw [if_pos rfl] at H; have H' := Aside0.mk H; clear H; have hnb8 := NB178_179.out; have hnc8 := NB179_178.out; have hcz9_0 := sqc0 BK178; have hcz9_1 := sqc1 BK178; have hfz9_0 := blk_frozen BK178.out 0; have hfz9_1 := blk_frozen BK178.out 1; have hcz10_0 := sqc0 BK179; have hcz10_1 := sqc1 BK179; have hfz10_0 := blk_frozen BK179.out 0; have hfz10_1 := blk_frozen BK179.out 1
   go_wp2_with (first | (go_at_call 26; (with_reducible refine (rf_Spans.calls k _ _ l0_0 _ _ l1_0 true _ ?side1 ?side2 ?side3 ?side4 A6.out).mono ?_); (case side1 => exact sqQ HR0_0 HB); (case side2 => exact HC0_0.out); (case side3 => exact sqQ HR1_0 HB); (case side4 => exact HC1_0.out); rintro e w' ⟨rfl, ⟨nd, rfl⟩⟩; (try first | exact ⟨rfl, _, World.drewN_drewN _ _ _⟩ | exact ⟨rfl, _, Eq.trans (World.drewN_drewN _ _ _) (congrArg (World.drewN _) (Nat.add_assoc _ _ _))⟩)))
   repeat (go_quiet (first | (go_at_call 26; (with_reducible refine (rf_Spans.calls k _ _ l0_0 _ _ l1_0 true _ ?side1 ?side2 ?side3 ?side4 A6.out).mono ?_); (case side1 => exact sqQ HR0_0 HB); (case side2 => exact HC0_0.out); (case side3 => exact sqQ HR1_0 HB); (case side4 => exact HC1_0.out); rintro e w' ⟨rfl, ⟨nd, rfl⟩⟩; (try first | exact ⟨rfl, _, World.drewN_drewN _ _ _⟩ | exact ⟨rfl, _, Eq.trans (World.drewN_drewN _ _ _) (congrArg (World.drewN _) (Nat.add_assoc _ _ _))⟩))); try go_wp2_with (first | (go_at_call 26; (with_reducible refine (rf_Spans.calls k _ _ l0_0 _ _ l1_0 true _ ?side1 ?side2 ?side3 ?side4 A6.out).mono ?_); (case side1 => exact sqQ HR0_0 HB); (case side2 => exact HC0_0.out); (case side3 => exact sqQ HR1_0 HB); (case side4 => exact HC1_0.out); rintro e w' ⟨rfl, ⟨nd, rfl⟩⟩; (try first | exact ⟨rfl, _, World.drewN_drewN _ _ _⟩ | exact ⟨rfl, _, Eq.trans (World.drewN_drewN _ _ _) (congrArg (World.drewN _) (Nat.add_assoc _ _ _))⟩))))
   go_meet
   case rel => exact ⟨_, (((l0_1.length : Int) != (l1_1.length : Int))), sqE, H', ⟨by first | omega | exact Nat.le_refl _⟩, ⟨sqK BK178⟩, ⟨sqK BK179⟩, ⟨sqB HB⟩⟩
  ·replace c7 := Bool.eq_false_iff.mpr c7
   subst c7; rw [if_neg Bool.false_ne_true] at H; have H' := Aside0.mk H; clear H; have hnb11 := NB178_179.out; have hnc11 := NB179_178.out; have hcz12_0 := sqc0 BK178; have hcz12_1 := sqc1 BK178; have hfz12_0 := blk_frozen BK178.out 0; have hfz12_1 := blk_frozen BK178.out 1; have hcz13_0 := sqc0 BK179; have hcz13_1 := sqc1 BK179; have hfz13_0 := blk_frozen BK179.out 0; have hfz13_1 := blk_frozen BK179.out 1
   go_wp2_with (first | (go_at_call 26; (with_reducible refine (rf_Spans.calls k _ _ l0_0 _ _ l1_0 false _ ?side1 ?side2 ?side3 ?side4 A6.out).mono ?_); (case side1 => exact sqQ HR0_0 HB); (case side2 => exact HC0_0.out); (case side3 => exact sqQ HR1_0 HB); (case side4 => exact HC1_0.out); rintro e w' ⟨rfl, ⟨nd, rfl⟩⟩; (try first | exact ⟨rfl, _, World.drewN_drewN _ _ _⟩ | exact ⟨rfl, _, Eq.trans (World.drewN_drewN _ _ _) (congrArg (World.drewN _) (Nat.add_assoc _ _ _))⟩)))
   repeat (go_quiet (first | (go_at_call 26; (with_reducible refine (rf_Spans.calls k _ _ l0_0 _ _ l1_0 false _ ?side1 ?side2 ?side3 ?side4 A6.out).mono ?_); (case side1 => exact sqQ HR0_0 HB); (case side2 => exact HC0_0.out); (case side3 => exact sqQ HR1_0 HB); (case side4 => exact HC1_0.out); rintro e w' ⟨rfl, ⟨nd, rfl⟩⟩; (try first | exact ⟨rfl, _, World.drewN_drewN _ _ _⟩ | exact ⟨rfl, _, Eq.trans (World.drewN_drewN _ _ _) (congrArg (World.drewN _) (Nat.add_assoc _ _ _))⟩))); try go_wp2_with (first | (go_at_call 26; (with_reducible refine (rf_Spans.calls k _ _ l0_0 _ _ l1_0 false _ ?side1 ?side2 ?side3 ?side4 A6.out).mono ?_); (case side1 => exact sqQ HR0_0 HB); (case side2 => exact HC0_0.out); (case side3 => exact sqQ HR1_0 HB); (case side4 => exact HC1_0.out); rintro e w' ⟨rfl, ⟨nd, rfl⟩⟩; (try first | exact ⟨rfl, _, World.drewN_drewN _ _ _⟩ | exact ⟨rfl, _, Eq.trans (World.drewN_drewN _ _ _) (congrArg (World.drewN _) (Nat.add_assoc _ _ _))⟩))))
   go_meet
   case rel => exact ⟨_, (true), sqE, H', ⟨by first | omega | exact Nat.le_refl _⟩, ⟨sqK BK178⟩, ⟨sqK BK179⟩, ⟨sqB HB⟩⟩
 case rest =>
  clear HC3; obtain ⟨kq, x20_2, rfl, HA, HJ2, BK178, BK179, HB⟩ := hcut
  cases kq with
  | zero => exact absurd HA.out (by simp [rf_Same.j0])
  | succ kj2 =>
   have H := HA.out; clear HA; simp only [rf_Same.j0] at H
   by_cases c14 : x20_2 = true
   ·subst c14
    rw [if_pos rfl] at H; obtain rfl := Option.some.inj H
    go_wp2
    repeat (go_quiet (fail); try go_wp2)
    go_ret
    exact ⟨by first | rfl | (simp [errW_none, errW_some] <;> rfl) | (simp [*, errW_none, errW_some] <;> rfl), sqB HB⟩
   ·replace c14 := Bool.eq_false_iff.mpr c14
    subst c14; rw [if_neg Bool.false_ne_true] at H; have H' := Aside0.mk H; clear H; go_wp2
    repeat (go_quiet (fail); try go_wp2)
    go_loopg [5] kj2 (fun kq v5 w' => ∃ (x5_2 : Int), v5 = .int .i64 x5_2 ∧ Aside0 (rf_Same.l0 kq x5_2 l0_0 l0_1 l1_0 l1_1 = some r) ∧ Aside0 (kq ≤ kj2) ∧ Aside0 (w'.heap[gb178]? = some (.cells #[(.slice A0_0 l0_0.length c0_0), (.slice A0_1 l0_1.length c0_1)] 25 (0, 0))) ∧ Aside0 (w'.heap[gb179]? = some (.cells #[(.slice A1_0 l1_0.length c1_0), (.slice A1_1 l1_1.length c1_1)] 25 (0, 0))) ∧ Aside0 (Below w.heap.size w w'))
    case atStart => exact ⟨(0), sqE, H', ⟨Nat.le_refl _⟩, ⟨sqK BK178⟩, ⟨sqK BK179⟩, ⟨sqB HB⟩⟩
    case round =>
     clear H'; try clear c14
     obtain ⟨x5_2, rfl, HA, HK2, BK178, BK179, HB⟩ := hrel
     cases gk with
     | zero => exact absurd HA.out (by simp [rf_Same.l0])
     | succ k2 =>
      have H := HA.out; clear HA; simp only [rf_Same.l0] at H
      by_cases c15 : x5_2 < (l0_1.length : Int)
      ·rw [if_pos c15] at H
       have c15b0 : decide (x5_2 < (l0_1.length : Int)) = true := decide_eq_true c15; clear c15
       by_cases c16 : 0 ≤ x5_2
       ·rw [if_pos c16] at H
        have c16b0 : decide (0 ≤ x5_2) = true := decide_eq_true c16; clear c16
        by_cases c17 : x5_2 < (l1_1.length : Int)
        ·rw [if_pos c17] at H
         have c17b0 : decide (x5_2 < (l1_1.length : Int)) = true := decide_eq_true c17; clear c17
         by_cases c18 : (!(((rd_T80 l0_1 x5_2).f0) == ((rd_T80 l1_1 x5_2).f0)) || (!(((rd_T80 l0_1 x5_2).f1) == ((rd_T80 l1_1 x5_2).f1)) || (!(((rd_T80 l0_1 x5_2).f2) == ((rd_T80 l1_1 x5_2).f2))))) = true
         ·rw [if_pos c18] at H
          have c18b0 : (!(((rd_T80 l0_1 x5_2).f0) == ((rd_T80 l1_1 x5_2).f0)) || (!(((rd_T80 l0_1 x5_2).f1) == ((rd_T80 l1_1 x5_2).f1)) || (!(((rd_T80 l0_1 x5_2).f2) == ((rd_T80 l1_1 x5_2).f2))))) = true := c18; clear c18; obtain rfl := Option.some.inj H; have hnb19 := NB178_179.out; have hnc19 := NB179_178.out; have hcz20_0 := sqc0 BK178; have hcz20_1 := sqc1 BK178; have hfz20_0 := blk_frozen BK178.out 0; have hfz20_1 := blk_frozen BK178.out 1; have p181 : 0 ≤ (x5_2 : Int) := sqD; have q181 : x5_2 < (l0_1.length : Int) := sqD; obtain ⟨ad181, e181, hx181_0, hx181_1, hx181_2⟩ := at_T80 HR0_1.out x5_2 p181 q181
          cases e181
          replace hx181_0 := (HB.out.cell (World.block_lt_of_cell? w _ hx181_0)).trans hx181_0; replace hx181_1 := (HB.out.cell (World.block_lt_of_cell? w _ hx181_1)).trans hx181_1; replace hx181_2 := (HB.out.cell (World.block_lt_of_cell? w _ hx181_2)).trans hx181_2; replace p181 := eq_true p181; replace q181 := eq_true q181; have hcz21_0 := sqc0 BK179; have hcz21_1 := sqc1 BK179; have hfz21_0 := blk_frozen BK179.out 0; have hfz21_1 := blk_frozen BK179.out 1; have p182 : 0 ≤ (x5_2 : Int) := sqD; have q182 : x5_2 < (l1_1.length : Int) := sqD; obtain ⟨ad182, e182, hx182_0, hx182_1, hx182_2⟩ := at_T80 HR1_1.out x5_2 p182 q182
          cases e182
          replace hx182_0 := (HB.out.cell (World.block_lt_of_cell? w _ hx182_0)).trans hx182_0; replace hx182_1 := (HB.out.cell (World.block_lt_of_cell? w _ hx182_1)).trans hx182_1; replace hx182_2 := (HB.out.cell (World.block_lt_of_cell? w _ hx182_2)).trans hx182_2; replace p182 := eq_true p182; replace q182 := eq_true q182
          go_wp2
          repeat (go_quiet (fail); try go_wp2)
          go_ret
          exact ⟨by first | rfl | (simp [errW_none, errW_some] <;> rfl) | (simp [*, errW_none, errW_some] <;> rfl), sqB HB⟩
         ·rw [if_neg c18] at H
          have c18b0 : (!(((rd_T80 l0_1 x5_2).f0) == ((rd_T80 l1_1 x5_2).f0)) || (!(((rd_T80 l0_1 x5_2).f1) == ((rd_T80 l1_1 x5_2).f1)) || (!(((rd_T80 l0_1 x5_2).f2) == ((rd_T80 l1_1 x5_2).f2))))) = false := by simpa using c18
          clear c18; have H' := Aside0.mk H; clear H; have hnb22 := NB178_179.out; have hnc22 := NB179_178.out; have hcz23_0 := sqc0 BK178; have hcz23_1 := sqc1 BK178; have hfz23_0 := blk_frozen BK178.out 0; have hfz23_1 := blk_frozen BK178.out 1; have p181 : 0 ≤ (x5_2 : Int) := sqD; have q181 : x5_2 < (l0_1.length : Int) := sqD; obtain ⟨ad181, e181, hx181_0, hx181_1, hx181_2⟩ := at_T80 HR0_1.out x5_2 p181 q181
          cases e181
          replace hx181_0 := (HB.out.cell (World.block_lt_of_cell? w _ hx181_0)).trans hx181_0; replace hx181_1 := (HB.out.cell (World.block_lt_of_cell? w _ hx181_1)).trans hx181_1; replace hx181_2 := (HB.out.cell (World.block_lt_of_cell? w _ hx181_2)).trans hx181_2; replace p181 := eq_true p181; replace q181 := eq_true q181; have hcz24_0 := sqc0 BK179; have hcz24_1 := sqc1 BK179; have hfz24_0 := blk_frozen BK179.out 0; have hfz24_1 := blk_frozen BK179.out 1; have p182 : 0 ≤ (x5_2 : Int) := sqD; have q182 : x5_2 < (l1_1.length : Int) := sqD; obtain ⟨ad182, e182, hx182_0, hx182_1, hx182_2⟩ := at_T80 HR1_1.out x5_2 p182 q182
          cases e182
          replace hx182_0 := (HB.out.cell (World.block_lt_of_cell? w _ hx182_0)).trans hx182_0; replace hx182_1 := (HB.out.cell (World.block_lt_of_cell? w _ hx182_1)).trans hx182_1; replace hx182_2 := (HB.out.cell (World.block_lt_of_cell? w _ hx182_2)).trans hx182_2; replace p182 := eq_true p182; replace q182 := eq_true q182
          go_wp2
          repeat (go_quiet (fail); try go_wp2)
          go_roundg k2
          case measure => have := HJ2.out; have := HK2.out; omega
          case rel => exact ⟨(wrap64 (x5_2 + 1)), sqE, H', ⟨by have := HJ2.out; have := HK2.out; omega⟩, ⟨sqK BK178⟩, ⟨sqK BK179⟩, ⟨sqB HB⟩⟩
        ·rw [if_neg c17] at H
         exact absurd H (by simp)
       ·rw [if_neg c16] at H
        exact absurd H (by simp)
      ·rw [if_neg c15] at H
       have c15b0 : decide (x5_2 < (l0_1.length : Int)) = false := decide_eq_false c15; clear c15; obtain rfl := Option.some.inj H; have hnb25 := NB178_179.out; have hnc25 := NB179_178.out; have hcz26_0 := sqc0 BK178; have hcz26_1 := sqc1 BK178; have hfz26_0 := blk_frozen BK178.out 0; have hfz26_1 := blk_frozen BK178.out 1
       go_wp2
       repeat (go_quiet (fail); try go_wp2)
       go_ret
       exact ⟨by first | rfl | (simp [errW_none, errW_some] <;> rfl) | (simp [*, errW_none, errW_some] <;> rfl), sqB HB⟩
end Go.Proofs.YtemingmeidmjkaaDoor.Q
namespace Go.Proofs.YtemingmeidmjkaaDoor.Q
open Go.RowKit Go.Proofs.YtemingmeidmjkaaDoorW.PrintWords Go.Proofs.YtemingmeidmjkaaDoorW.PrintLast Go.Proofs.YtemingmeidmjkaaDoorW.PrintMore
attribute [local go_sem] max2_int min2_int max_two min_two max_three min_three max_four min_four   -- for this text's walks alone
set_option linter.unusedVariables false
set_option linter.unusedSimpArgs false
def wool_Missing.f (l0_0 : List (S41)) (l0_1 : List (S80)) : Option (Int × Int × Int) := some ((msS (toSt l0_0) (toWg l0_1)).lo, (msS (toSt l0_0) (toWg l0_1)).hi, msE (toSt l0_0) (toWg l0_1))
theorem wool_Missing.calls (A0_0 : Option Addr) (c0_0 : Nat) (l0_0 : List (S41)) (A0_1 : Option Addr) (c0_1 : Nat) (l0_1 : List (S80)) (r1 : Int) (r2 : Int) (r3 : Int) (w : World) (hG : GL w) (hr0_0 : Kd.C k41 w A0_0 l0_0.length l0_0) (hc0_0 : l0_0.length ≤ c0_0) (hr0_1 : Kd.C k80 w A0_1 l0_1.length l0_1) (hc0_1 : l0_1.length ≤ c0_1) (h : wool_Missing.f l0_0 l0_1 = some (r1, r2, r3)) :
  Calls Tryd.prog 29 #[.agg #[.slice A0_0 l0_0.length c0_0, .slice A0_1 l0_1.length c0_1]] w fun e w' => e = .returned (.tuple #[.agg #[.int .i64 r1, .int .i64 r2], .int .i64 r3]) ∧ Below w.heap.size w w' := by
 simp only [wool_Missing.f, Option.some.injEq, Prod.mk.injEq] at h; obtain ⟨rfl, rfl, rfl⟩ := h; have H := missing_ A0_0 c0_0 (toSt l0_0) A0_1 c0_1 (toWg l0_1) w hG (toSt_C hr0_0) (toSt_c hc0_0) (toWg_C hr0_1) (toWg_c hc0_1); rw [toSt_len, toWg_len] at H; exact H
end Go.Proofs.YtemingmeidmjkaaDoor.Q
namespace Go.Proofs.YtemingmeidmjkaaDoor.Q
open Go.RowKit Go.Proofs.YtemingmeidmjkaaDoorW.PrintWords Go.Proofs.YtemingmeidmjkaaDoorW.PrintLast Go.Proofs.YtemingmeidmjkaaDoorW.PrintMore
attribute [local go_sem] max2_int min2_int max_two min_two max_three min_three max_four min_four   -- for this text's walks alone
set_option linter.unusedVariables false
set_option linter.unusedSimpArgs false
def rf_Fits.l0 : Nat → Int → Int → Int → List (S41) → List (S80) → Option (Bool)
 | 0, _, _, _, _, _ => none
 | k + 1, x1, x2, x7, x184000, x184001 => if x7 < (x184001.length : Int) then (if 0 ≤ x7 then (if ((rd_T80 x184001 x7).f0) = x1 then ((rf_In.f x2 (wrap64 (((rd_T80 x184001 x7).f1) - ((rd_T80 x184001 x7).f2))) (wrap64 (((rd_T80 x184001 x7).f1) + ((rd_T80 x184001 x7).f2)))).bind fun t186 => (if t186 = true then (rf_Fits.l0 k x1 x2 (wrap64 (x7 + 1)) x184000 x184001) else (some false))) else (rf_Fits.l0 k x1 x2 (wrap64 (x7 + 1)) x184000 x184001)) else (none)) else (some true)
def rf_Fits.f (k : Nat) (l0_0 : List (S41)) (l0_1 : List (S80)) (a1 : Int) (a2 : Int) : Option (Bool) := rf_Fits.l0 k a1 a2 0 l0_0 l0_1
set_option maxHeartbeats 8000000 in
set_option maxRecDepth 100000 in
theorem rf_Fits.calls (k : Nat) (A0_0 : Option Addr) (c0_0 : Nat) (l0_0 : List (S41)) (A0_1 : Option Addr) (c0_1 : Nat) (l0_1 : List (S80)) (a1 : Int) (a2 : Int) (r : Bool) (w : World) (hr0_0 : Kd.C k41 w A0_0 l0_0.length l0_0) (hc0_0 : l0_0.length ≤ c0_0) (hr0_1 : Kd.C k80 w A0_1 l0_1.length l0_1) (hc0_1 : l0_1.length ≤ c0_1) (h : rf_Fits.f k l0_0 l0_1 a1 a2 = some r) :
  Calls Tryd.prog 64 #[.agg #[.slice A0_0 l0_0.length c0_0, .slice A0_1 l0_1.length c0_1], .int .i64 a1, .int .i64 a2] w fun e w' => e = .returned (.bool r) ∧ Below w.heap.size w w' := by
 have hu25 := Tryd.underlying25; have hu80 := Tryd.underlying80; have HR0_0 := Aside0.mk hr0_0; have HC0_0 := Aside0.mk hc0_0; clear hr0_0 hc0_0; have HR0_1 := Aside0.mk hr0_1; have HC0_1 := Aside0.mk hc0_1; clear hr0_1 hc0_1; have HB := Aside0.mk (Below.refl w.heap.size w); have H : (rf_Fits.l0 k a1 a2 0 l0_0 l0_1) = some r := h; clear h; have H' := Aside0.mk H; clear H; go_enter Tryd.func64, Tryd.ntmps64
 go_wp2_with (first | ((with_reducible refine gate_dst (N := 3) rfl ?_); refine box_event ?hg (N := 3) ?hd (cs := #[.slice A0_0 l0_0.length c0_0, .slice A0_1 l0_1.length c0_1]) (t := 25) ?hr ?_; (case hd => rfl); (case hg => rfl); (case hr => first | (go_simp; done) | (go_simp; rfl)); intro gb183 hg w4 hbox hb; have BK183 := Aside0.mk (hbox); have GW183 := Aside0.mk (sqZ hg HB); have GE183 := Aside0.mk (sqZ hg HB); replace HB := sqb hb HB; clear hb hbox hg))
 go_loopg [7] k (fun kq v7 w' => ∃ (x7_1 : Int), v7 = .int .i64 x7_1 ∧ Aside0 (rf_Fits.l0 kq a1 a2 x7_1 l0_0 l0_1 = some r) ∧ Aside0 (kq ≤ k) ∧ Aside0 (w'.heap[gb183]? = some (.cells #[(.slice A0_0 l0_0.length c0_0), (.slice A0_1 l0_1.length c0_1)] 25 (0, 0))) ∧ Aside0 (Below w.heap.size w w'))
 case atStart => exact ⟨(0), sqE, H', ⟨Nat.le_refl _⟩, ⟨sqK BK183⟩, ⟨sqB HB⟩⟩
 case round =>
  clear H'; obtain ⟨x7_1, rfl, HA, HK1, BK183, HB⟩ := hrel
  cases gk with
  | zero => exact absurd HA.out (by simp [rf_Fits.l0])
  | succ k1 =>
   have H := HA.out; clear HA; simp only [rf_Fits.l0] at H
   by_cases c5 : x7_1 < (l0_1.length : Int)
   ·rw [if_pos c5] at H
    have c5b0 : decide (x7_1 < (l0_1.length : Int)) = true := decide_eq_true c5; clear c5
    by_cases c6 : 0 ≤ x7_1
    ·rw [if_pos c6] at H
     have c6b0 : decide (0 ≤ x7_1) = true := decide_eq_true c6; clear c6
     by_cases c7 : ((rd_T80 l0_1 x7_1).f0) = a1
     ·rw [if_pos c7] at H
      have c7b0 : (((rd_T80 l0_1 x7_1).f0) == a1) = true := beq_iff_eq.mpr c7; have c7b1 : (((rd_T80 l0_1 x7_1).f0) != a1) = false := bne_eq_false_iff_eq.mpr c7; clear c7; obtain ⟨t186, A80, H⟩ := Option.bind_eq_some_iff.mp H; have A8 := Aside0.mk A80; clear A80
      by_cases c9 : t186 = true
      ·subst c9
       rw [if_pos rfl] at H; have H' := Aside0.mk H; clear H; have hcz10_0 := sqc0 BK183; have hcz10_1 := sqc1 BK183; have hfz10_0 := blk_frozen BK183.out 0; have hfz10_1 := blk_frozen BK183.out 1; have p184 : 0 ≤ (x7_1 : Int) := sqD; have q184 : x7_1 < (l0_1.length : Int) := sqD; obtain ⟨ad184, e184, hx184_0, hx184_1, hx184_2⟩ := at_T80 HR0_1.out x7_1 p184 q184
       cases e184
       replace hx184_0 := (HB.out.cell (World.block_lt_of_cell? w _ hx184_0)).trans hx184_0; replace hx184_1 := (HB.out.cell (World.block_lt_of_cell? w _ hx184_1)).trans hx184_1; replace hx184_2 := (HB.out.cell (World.block_lt_of_cell? w _ hx184_2)).trans hx184_2; replace p184 := eq_true p184; replace q184 := eq_true q184
       go_wp2_with (first | ((with_reducible refine gate_dst (N := 8) rfl ?_); refine box_event ?hg (N := 8) ?hd (cs := #[.int .i64 0, .int .i64 0, .int .i64 0]) (t := 80) ?hr ?_; (case hd => rfl); (case hg => rfl); (case hr => first | (go_simp; done) | (go_simp; rfl)); intro gb185 hg w11 hbox hb; have BK185 := Aside0.mk (hbox); have GW185 := Aside0.mk (sqZ hg HB); have GE185 := Aside0.mk (sqZ hg HB); replace HB := sqb hb HB; have NB183_185 := Aside0.mk (sqL hg BK183); have NB185_183 := Aside0.mk (sqG hg BK183); replace BK183 := sqk BK183 hb; clear hb hbox hg; have hnb12 := NB185_183.out; have hnc12 := NB183_185.out; have hcz13_0 := sqc0 BK185; have hcz13_1 := sqc1 BK185; have hcz13_2 := sqc2 BK185; have hfz13_0 := blk_frozen BK185.out 0; have hfz13_1 := blk_frozen BK185.out 1; have hfz13_2 := blk_frozen BK185.out 2) | (go_at_call 35; (with_reducible refine (rf_In.calls a2 (wrap64 (((rd_T80 l0_1 x7_1).f1) - ((rd_T80 l0_1 x7_1).f2))) (wrap64 (((rd_T80 l0_1 x7_1).f1) + ((rd_T80 l0_1 x7_1).f2))) true _ A8.out).mono ?_); rintro e w' ⟨rfl, ⟨nd, rfl⟩⟩))
       go_roundg k1
       case measure => have := HK1.out; omega
       case rel => exact ⟨(wrap64 (x7_1 + 1)), sqE, H', ⟨by have := HK1.out; omega⟩, ⟨sqX⟩, ⟨sqB HB⟩⟩
      ·replace c9 := Bool.eq_false_iff.mpr c9
       subst c9; rw [if_neg Bool.false_ne_true] at H; obtain rfl := Option.some.inj H; have hcz14_0 := sqc0 BK183; have hcz14_1 := sqc1 BK183; have hfz14_0 := blk_frozen BK183.out 0; have hfz14_1 := blk_frozen BK183.out 1; have p184 : 0 ≤ (x7_1 : Int) := sqD; have q184 : x7_1 < (l0_1.length : Int) := sqD; obtain ⟨ad184, e184, hx184_0, hx184_1, hx184_2⟩ := at_T80 HR0_1.out x7_1 p184 q184
       cases e184
       replace hx184_0 := (HB.out.cell (World.block_lt_of_cell? w _ hx184_0)).trans hx184_0; replace hx184_1 := (HB.out.cell (World.block_lt_of_cell? w _ hx184_1)).trans hx184_1; replace hx184_2 := (HB.out.cell (World.block_lt_of_cell? w _ hx184_2)).trans hx184_2; replace p184 := eq_true p184; replace q184 := eq_true q184
       go_wp2_with (first | ((with_reducible refine gate_dst (N := 8) rfl ?_); refine box_event ?hg (N := 8) ?hd (cs := #[.int .i64 0, .int .i64 0, .int .i64 0]) (t := 80) ?hr ?_; (case hd => rfl); (case hg => rfl); (case hr => first | (go_simp; done) | (go_simp; rfl)); intro gb185 hg w15 hbox hb; have BK185 := Aside0.mk (hbox); have GW185 := Aside0.mk (sqZ hg HB); have GE185 := Aside0.mk (sqZ hg HB); replace HB := sqb hb HB; have NB183_185 := Aside0.mk (sqL hg BK183); have NB185_183 := Aside0.mk (sqG hg BK183); replace BK183 := sqk BK183 hb; clear hb hbox hg; have hnb16 := NB185_183.out; have hnc16 := NB183_185.out; have hcz17_0 := sqc0 BK185; have hcz17_1 := sqc1 BK185; have hcz17_2 := sqc2 BK185; have hfz17_0 := blk_frozen BK185.out 0; have hfz17_1 := blk_frozen BK185.out 1; have hfz17_2 := blk_frozen BK185.out 2) | (go_at_call 35; (with_reducible refine (rf_In.calls a2 (wrap64 (((rd_T80 l0_1 x7_1).f1) - ((rd_T80 l0_1 x7_1).f2))) (wrap64 (((rd_T80 l0_1 x7_1).f1) + ((rd_T80 l0_1 x7_1).f2))) false _ A8.out).mono ?_); rintro e w' ⟨rfl, ⟨nd, rfl⟩⟩))
       go_ret
       exact ⟨by first | rfl | (simp [errW_none, errW_some] <;> rfl) | (simp [*, errW_none, errW_some] <;> rfl), sqB HB⟩
     ·rw [if_neg c7] at H
      have c7b0 : (((rd_T80 l0_1 x7_1).f0) == a1) = false := beq_eq_false_iff_ne.mpr c7; have c7b1 : (((rd_T80 l0_1 x7_1).f0) != a1) = true := bne_iff_ne.mpr c7; have H' := Aside0.mk H; clear H; have hcz18_0 := sqc0 BK183; have hcz18_1 := sqc1 BK183; have hfz18_0 := blk_frozen BK183.out 0; have hfz18_1 := blk_frozen BK183.out 1; have p184 : 0 ≤ (x7_1 : Int) := sqD; have q184 : x7_1 < (l0_1.length : Int) := sqD; obtain ⟨ad184, e184, hx184_0, hx184_1, hx184_2⟩ := at_T80 HR0_1.out x7_1 p184 q184
      cases e184
      replace hx184_0 := (HB.out.cell (World.block_lt_of_cell? w _ hx184_0)).trans hx184_0; replace hx184_1 := (HB.out.cell (World.block_lt_of_cell? w _ hx184_1)).trans hx184_1; replace hx184_2 := (HB.out.cell (World.block_lt_of_cell? w _ hx184_2)).trans hx184_2; replace p184 := eq_true p184; replace q184 := eq_true q184
      go_wp2_with (first | ((with_reducible refine gate_dst (N := 8) rfl ?_); refine box_event ?hg (N := 8) ?hd (cs := #[.int .i64 0, .int .i64 0, .int .i64 0]) (t := 80) ?hr ?_; (case hd => rfl); (case hg => rfl); (case hr => first | (go_simp; done) | (go_simp; rfl)); intro gb185 hg w19 hbox hb; have BK185 := Aside0.mk (hbox); have GW185 := Aside0.mk (sqZ hg HB); have GE185 := Aside0.mk (sqZ hg HB); replace HB := sqb hb HB; have NB183_185 := Aside0.mk (sqL hg BK183); have NB185_183 := Aside0.mk (sqG hg BK183); replace BK183 := sqk BK183 hb; clear hb hbox hg; have hnb20 := NB185_183.out; have hnc20 := NB183_185.out; have hcz21_0 := sqc0 BK185; have hcz21_1 := sqc1 BK185; have hcz21_2 := sqc2 BK185; have hfz21_0 := blk_frozen BK185.out 0; have hfz21_1 := blk_frozen BK185.out 1; have hfz21_2 := blk_frozen BK185.out 2))
      go_roundg k1
      case measure => have := HK1.out; omega
      case rel => exact ⟨(wrap64 (x7_1 + 1)), sqE, H', ⟨by have := HK1.out; omega⟩, ⟨sqX⟩, ⟨sqB HB⟩⟩
    ·rw [if_neg c6] at H
     exact absurd H (by simp)
   ·rw [if_neg c5] at H
    have c5b0 : decide (x7_1 < (l0_1.length : Int)) = false := decide_eq_false c5; clear c5; obtain rfl := Option.some.inj H; have hcz22_0 := sqc0 BK183; have hcz22_1 := sqc1 BK183; have hfz22_0 := blk_frozen BK183.out 0; have hfz22_1 := blk_frozen BK183.out 1
    go_wp2
    go_ret
    exact ⟨by first | rfl | (simp [errW_none, errW_some] <;> rfl) | (simp [*, errW_none, errW_some] <;> rfl), sqB HB⟩
def rf_Least.f (a0_0 : Int) (a0_1 : Int) (a1 : Int) : Option (Int) := if (wrap64 ((wrap64 (Int.tdiv (wrap64 (a1 * a0_1)) 1000)) * 1000)) < (wrap64 (a1 * a0_1)) then (some (wrap64 (a1 - (wrap64 ((wrap64 (Int.tdiv (wrap64 (a1 * a0_1)) 1000)) + 1))))) else (some (wrap64 (a1 - (wrap64 (Int.tdiv (wrap64 (a1 * a0_1)) 1000)))))
set_option maxHeartbeats 8000000 in
set_option maxRecDepth 100000 in
theorem rf_Least.calls (a0_0 : Int) (a0_1 : Int) (a1 : Int) (r : Int) (w : World) (h : rf_Least.f a0_0 a0_1 a1 = some r) :
  Calls Tryd.prog 74 #[.agg #[.int .i64 a0_0, .int .i64 a0_1], .int .i64 a1] w fun e w' => e = .returned (.int .i64 r) ∧ Below w.heap.size w w' := by
 have hu41 := Tryd.underlying41; have HB := Aside0.mk (Below.refl w.heap.size w); have H : (if (wrap64 ((wrap64 (Int.tdiv (wrap64 (a1 * a0_1)) 1000)) * 1000)) < (wrap64 (a1 * a0_1)) then (some (wrap64 (a1 - (wrap64 ((wrap64 (Int.tdiv (wrap64 (a1 * a0_1)) 1000)) + 1))))) else (some (wrap64 (a1 - (wrap64 (Int.tdiv (wrap64 (a1 * a0_1)) 1000)))))) = some r := h; clear h
 by_cases c3 : (wrap64 ((wrap64 (Int.tdiv (wrap64 (a1 * a0_1)) 1000)) * 1000)) < (wrap64 (a1 * a0_1))
 ·rw [if_pos c3] at H
  have c3b0 : decide ((wrap64 ((wrap64 (Int.tdiv (wrap64 (a1 * a0_1)) 1000)) * 1000)) < (wrap64 (a1 * a0_1))) = true := decide_eq_true c3; clear c3; obtain rfl := Option.some.inj H
  go_enter Tryd.func74, Tryd.ntmps74
  go_wp2_with (first | ((with_reducible refine gate_dst (N := 2) rfl ?_); refine box_event ?hg (N := 2) ?hd (cs := #[.int .i64 a0_0, .int .i64 a0_1]) (t := 41) ?hr ?_; (case hd => rfl); (case hg => rfl); (case hr => first | (go_simp; done) | (go_simp; rfl)); intro gb187 hg w4 hbox hb; have BK187 := Aside0.mk (hbox); have GW187 := Aside0.mk (sqZ hg HB); have GE187 := Aside0.mk (sqZ hg HB); replace HB := sqb hb HB; clear hb hbox hg; have hcz5_0 := sqc0 BK187; have hcz5_1 := sqc1 BK187; have hfz5_0 := blk_frozen BK187.out 0; have hfz5_1 := blk_frozen BK187.out 1))
  go_ret
  exact ⟨by first | rfl | (simp [errW_none, errW_some] <;> rfl) | (simp [*, errW_none, errW_some] <;> rfl), sqB HB⟩
 ·rw [if_neg c3] at H
  have c3b0 : decide ((wrap64 ((wrap64 (Int.tdiv (wrap64 (a1 * a0_1)) 1000)) * 1000)) < (wrap64 (a1 * a0_1))) = false := decide_eq_false c3; clear c3; obtain rfl := Option.some.inj H
  go_enter Tryd.func74, Tryd.ntmps74
  go_wp2_with (first | ((with_reducible refine gate_dst (N := 2) rfl ?_); refine box_event ?hg (N := 2) ?hd (cs := #[.int .i64 a0_0, .int .i64 a0_1]) (t := 41) ?hr ?_; (case hd => rfl); (case hg => rfl); (case hr => first | (go_simp; done) | (go_simp; rfl)); intro gb187 hg w6 hbox hb; have BK187 := Aside0.mk (hbox); have GW187 := Aside0.mk (sqZ hg HB); have GE187 := Aside0.mk (sqZ hg HB); replace HB := sqb hb HB; clear hb hbox hg; have hcz7_0 := sqc0 BK187; have hcz7_1 := sqc1 BK187; have hfz7_0 := blk_frozen BK187.out 0; have hfz7_1 := blk_frozen BK187.out 1))
  go_ret
  exact ⟨by first | rfl | (simp [errW_none, errW_some] <;> rfl) | (simp [*, errW_none, errW_some] <;> rfl), sqB HB⟩
def rf_Greatest.f (a0_0 : Int) (a0_1 : Int) (a1 : Int) : Option (Int) := some (wrap64 (a1 - (wrap64 (Int.tdiv (wrap64 (a1 * a0_0)) 1000))))
set_option maxHeartbeats 8000000 in
set_option maxRecDepth 100000 in
theorem rf_Greatest.calls (a0_0 : Int) (a0_1 : Int) (a1 : Int) (r : Int) (w : World) (h : rf_Greatest.f a0_0 a0_1 a1 = some r) :
  Calls Tryd.prog 75 #[.agg #[.int .i64 a0_0, .int .i64 a0_1], .int .i64 a1] w fun e w' => e = .returned (.int .i64 r) ∧ Below w.heap.size w w' := by
 have hu41 := Tryd.underlying41; have HB := Aside0.mk (Below.refl w.heap.size w); have H : (some (wrap64 (a1 - (wrap64 (Int.tdiv (wrap64 (a1 * a0_0)) 1000))))) = some r := h; clear h; obtain rfl := Option.some.inj H
 go_enter Tryd.func75, Tryd.ntmps75
 go_wp2_with (first | ((with_reducible refine gate_dst (N := 2) rfl ?_); refine box_event ?hg (N := 2) ?hd (cs := #[.int .i64 a0_0, .int .i64 a0_1]) (t := 41) ?hr ?_; (case hd => rfl); (case hg => rfl); (case hr => first | (go_simp; done) | (go_simp; rfl)); intro gb188 hg w3 hbox hb; have BK188 := Aside0.mk (hbox); have GW188 := Aside0.mk (sqZ hg HB); have GE188 := Aside0.mk (sqZ hg HB); replace HB := sqb hb HB; clear hb hbox hg; have hcz4_0 := sqc0 BK188; have hcz4_1 := sqc1 BK188; have hfz4_0 := blk_frozen BK188.out 0; have hfz4_1 := blk_frozen BK188.out 1))
 go_ret
 exact ⟨by first | rfl | (simp [errW_none, errW_some] <;> rfl) | (simp [*, errW_none, errW_some] <;> rfl), sqB HB⟩
end Go.Proofs.YtemingmeidmjkaaDoor.Q
