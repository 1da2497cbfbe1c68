/- Functions printed by the kit's printer over these walks, and the plain law. No condition. -/
import Derived.Test.YtemingmeidmjkaaDoorX0
import Derived.Test.YtemingmeidmjkaaDoorGWoolEnough0
import Derived.Test.YtemingmeidmjkaaDoorX3
import Derived.Test.YtemingmeidmjkaaDoorRows
import Derived.LaidLaws
import Derived.LaidHandle
import Derived.Handed
import Derived.ChangeSame
set_option linter.unusedVariables false
set_option linter.unusedSimpArgs false
namespace Go.Proofs.YtemingmeidmjkaaDoor.Q
open Go.RowKit Go.Proofs.YtemingmeidmjkaaDoorW.PrintWords
set_option linter.unusedVariables false
set_option linter.unusedSimpArgs false
def ub (x : Int) : Prop := 0 ≤ x ∧ x ≤ 255
theorem ub_wf {x : Int} (h : (Lit.int .u8 x).wf = true) : ub x := by
 simp only [Lit.wf, Bool.and_eq_true, decide_eq_true_eq] at h; exact h
theorem tm {x m : Int} (h : 0 ≤ x) : Int.tmod x m = x % m := Int.tmod_eq_emod_of_nonneg h
theorem mn_min (a b : Int) : mn a b = min a b := by unfold mn; omega
theorem rd_app (A : List Int) (x : Int) (j : Nat) (h : j < A.length) : rd (A ++ [x]) (j : Int) = rd A (j : Int) := by
 unfold rd
 rw [Int.toNat_natCast, List.getD_eq_getElem?_getD, List.getD_eq_getElem?_getD, List.getElem?_append_left h]
theorem rd_last (A : List Int) (x : Int) (j : Nat) (h : j = A.length) : rd (A ++ [x]) (j : Int) = x := by
 subst h
 unfold rd
 rw [Int.toNat_natCast, List.getD_eq_getElem?_getD, List.getElem?_append_right (Nat.le_refl _), Nat.sub_self]; rfl
theorem rd_in {l : List Int} {j : Int} (h0 : 0 ≤ j) (h : j < l.length) : rd l j ∈ l := by
 obtain ⟨m, rfl⟩ : ∃ m : Nat, j = (m : Int) := ⟨j.toNat, by omega⟩; rw [rdI l m (by omega)]; exact List.getElem_mem _
theorem roadE_ok {st : List Sp} {wg : List Wg} (h1 : 1 ≤ st.length) (h5 : st.length ≤ 5) (hs : ∀ s ∈ st, stB s) (h8 : wg.length ≤ 8) (hw : ∀ x ∈ wg, (0 ≤ x.p ∧ x.p ≤ st.length) ∧ (0 ≤ x.r ∧ x.r ≤ 400) ∧ (0 ≤ x.o ∧ x.o ≤ 20)) : roadE st wg = 0 := by
 have e1 : inB 1 5 [(st.length : Int)] = true := (inB_one _ _ _).2 (by omega)
 have e2 : st.any stBad = false := by
  rw [List.any_eq_false]; intro s h; obtain ⟨a, b, c⟩ := hs s h
  have e : inB 0 300 [s.lo, s.hi] = true := by rw [inB_iff]; simp; omega
  simp [stBad, e]; omega
 have e3 : wg.any (wgBad st.length) = false := by
  rw [List.any_eq_false]; intro x h; obtain ⟨a, b, c⟩ := hw x h
  simp [wgBad, (inB_one _ _ _).2 a, (inB_one _ _ _).2 b, (inB_one _ _ _).2 c]
 simp [roadE, e1, e2, e3]; omega
theorem road_l0 (l0 : List S76) (a : Int) (b : List Int) (c : List S136) (hb : ∀ x ∈ l0, ub x.f0 ∧ ub x.f1) : ∀ (d i : Nat) (acc : List S41), i + d = 4 → acc.length = i → (∀ s ∈ toSt acc, stB s) → ∃ st : List S41, Ev (fun k => lw_Cart_road.l0 k (i : Int) l0 a b c acc) (st, []) ∧ 1 ≤ st.length ∧ st.length ≤ 4 ∧ ∀ s ∈ toSt st, stB s
 | 0, i, acc, hd, hl, hs => by
  obtain rfl : i = 4 := by omega
  refine ⟨acc, ?_, by omega, by omega, hs⟩; refine Ev.up ?_; simp only [lw_Cart_road.l0, if_neg (show ¬ ((4 : Nat) : Int) = 0 by omega)]
  by_cases h : ((4 : Nat) : Int) < (l0.length : Int)
  ·simp only [if_pos h, decide_eq_false (show ¬ ((4 : Nat) : Int) < 4 by omega)]
   refine Ev.up ?_; simp only [lw_Cart_road.j1, Bool.false_eq_true, if_false]; exact Ev.now _
  ·simp only [if_neg h]
   refine Ev.up ?_; simp only [lw_Cart_road.j1, Bool.false_eq_true, if_false]; exact Ev.now _
 | d + 1, i, acc, hd, hl, hs => by
  by_cases hgo : i = 0 ∨ i < l0.length
  ·obtain ⟨x, hx, hev⟩ : ∃ x : S41, stB ⟨x.f0, x.f1⟩ ∧ ∀ r, Ev (fun k => lw_Cart_road.l0 k ((i + 1 : Nat) : Int) l0 a b c (acc ++ [x])) r → Ev (fun k => lw_Cart_road.j1 k (i : Int) true l0 a b c acc) r := by
    by_cases hi : i < l0.length
    ·have hm : rd_T76 l0 (i : Int) ∈ l0 := by
      have e : rd_T76 l0 (i : Int) = l0[i] := by simp [rd_T76, hi]
      rw [e]; exact List.getElem_mem _
     obtain ⟨⟨h1, h2⟩, h3, h4⟩ := hb _ hm; refine ⟨⟨Int.tmod (wrap64 ((rd_T76 l0 (i : Int)).f0)) 200, wrap64 ((Int.tmod (wrap64 ((rd_T76 l0 (i : Int)).f0)) 200) + (Int.tmod (wrap64 ((rd_T76 l0 (i : Int)).f1)) 100))⟩, ?_, fun r hr => ?_⟩
     ·simp only
      rw [wr (x := (rd_T76 l0 (i : Int)).f0) (by omega), wr (x := (rd_T76 l0 (i : Int)).f1) (by omega), tm h1, tm h3, wr (by omega)]
      unfold stB
      simp only; omega
     ·refine Ev.up ?_
      simp only [lw_Cart_road.j1, if_true, if_pos (show (i : Int) < (l0.length : Int) by omega), if_pos (show (0 : Int) ≤ (i : Int) by omega), lw_span.f, Option.bind_some, if_pos (show acc.length < 8796093022208 by omega), wi i (by omega)]; exact hr
    ·refine ⟨⟨(80 : Int) % 200, ((80 : Int) % 200) + ((30 : Int) % 100)⟩, ⟨by decide, by decide, by decide⟩, fun r hr => ?_⟩
     refine Ev.up ?_; simp only [lw_Cart_road.j1, if_true, if_neg (show ¬ (i : Int) < (l0.length : Int) by omega), lw_span.f, Option.bind_some, if_pos (show acc.length < 8796093022208 by omega), wi i (by omega)]; exact hr
   obtain ⟨st, h1, h2⟩ := road_l0 l0 a b c hb d (i + 1) (acc ++ [x]) (by omega) (by simp [hl]) (by
    intro s h; simp only [toSt, List.map_append, List.map_cons, List.map_nil, List.mem_append, List.mem_singleton] at h
    rcases h with h | h
    ·exact hs s h
    ·rw [h]; exact hx)
   refine ⟨st, ?_, h2⟩; refine Ev.up ?_
   by_cases h0 : i = 0
   ·simp only [lw_Cart_road.l0, if_pos (show (i : Int) = 0 by omega)]
    exact hev _ h1
   ·simp only [lw_Cart_road.l0, if_neg (show ¬ (i : Int) = 0 by omega), if_pos (show (i : Int) < (l0.length : Int) by omega), decide_eq_true (show (i : Int) < 4 by omega)]
    exact hev _ h1
  ·refine ⟨acc, ?_, by omega, by omega, hs⟩
   refine Ev.up ?_; simp only [lw_Cart_road.l0, if_neg (show ¬ (i : Int) = 0 by omega), if_neg (show ¬ (i : Int) < (l0.length : Int) by omega)]; refine Ev.up ?_; simp only [lw_Cart_road.j1, Bool.false_eq_true, if_false]; exact Ev.now _
theorem road_f (l0 : List S76) (a : Int) (b : List Int) (c : List S136) (hb : ∀ x ∈ l0, ub x.f0 ∧ ub x.f1) : ∃ st : List S41, Ev (fun k => lw_Cart_road.f k l0 a b c) (st, []) ∧ 1 ≤ st.length ∧ st.length ≤ 4 ∧ ∀ s ∈ toSt st, stB s :=
 road_l0 l0 a b c hb 4 0 [] (by omega) rfl (fun s h => by cases h)
theorem own_f (st : List S41) (wg : List S80) (h0 : st.length ≤ 1000) (h1 : wg.length ≤ 1000) : lw_own.f st wg = some (st, wg) := by
 unfold lw_own.f
 simp only [Option.bind_some, List.length_nil, List.nil_append]; rw [if_pos (by omega), if_pos (by omega)]
theorem most_f {s : Sp} (h : stB s) {w : Int} (hw : 0 ≤ w ∧ w ≤ 400) : lw_most.f s.lo s.hi w = some (w - loS s w) := by
 obtain ⟨h0, h1, h2⟩ := h; have h3 : 0 ≤ w * s.hi := Int.mul_nonneg hw.1 (by omega); have h4 : w * s.hi ≤ 400 * 300 := Int.mul_le_mul hw.2 h2 (by omega) (by omega)
 unfold lw_most.f loS
 generalize w * s.hi = b at *
 rw [wr (x := b) (by omega), wr (x := b + 999) (by omega), Int.tdiv_eq_ediv_of_nonneg (by omega), wr (by omega)]
 congr 1
 omega
theorem least_f {s : Sp} (h : stB s) {w : Int} (hw : 0 ≤ w ∧ w ≤ 400) : lw_least.f s.lo s.hi w = some (w - hiS s w) := by
 obtain ⟨h0, h1, h2⟩ := h; have h3 : 0 ≤ w * s.lo := Int.mul_nonneg hw.1 (by omega); have h4 : w * s.lo ≤ 400 * 300 := Int.mul_le_mul hw.2 (by omega) (by omega) (by omega)
 unfold lw_least.f hiS
 generalize w * s.lo = b at *
 rw [wr (x := b) (by omega), Int.tdiv_eq_ediv_of_nonneg (by omega), wr (by omega)]
 congr 1
 omega
theorem by_f (l : List Int) (hl : ∀ x ∈ l, ub x) (i : Int) (hi : 0 ≤ i) : ∃ b, lw_by.f l i = some b ∧ ub b := by
 unfold lw_by.f
 by_cases h : (l.length : Int) = 0
 ·rw [if_pos h]
  exact ⟨0, rfl, by decide, by decide⟩
 ·have h1 : 0 ≤ i % (l.length : Int) := Int.emod_nonneg _ h
  have h2 : i % (l.length : Int) < (l.length : Int) := Int.emod_lt_of_pos _ (by omega); have hb := hl _ (rd_in h1 h2); rw [if_neg h, tm hi, if_pos h1, if_pos h2]; refine ⟨_, rfl, ?_⟩; obtain ⟨h3, h4⟩ := hb; rw [wr (by omega)]; exact ⟨h3, h4⟩
structure LvP (st : List Sp) (th : Int) (i : Nat) (g : Int) (A T : List Int) : Prop where
 la : A.length = i + 1
 lt : T.length = i
 bd : ∀ j : Nat, j ≤ i → 0 ≤ rd A (j : Int) ∧ rd A (j : Int) ≤ 400
 step : ∀ j : Nat, j < i → loS (rdS st (j : Int)) (rd A (j : Int)) ≤ rd A (j : Int) - rd T (j : Int) ∧ rd A (j : Int) - rd T (j : Int) ≤ hiS (rdS st (j : Int)) (rd A (j : Int)) ∧ rd A ((j + 1 : Nat) : Int) = rd A (j : Int) - rd T (j : Int) - (if (j : Int) = th then g else 0)
 g0 : (i : Int) ≤ th ∨ th < 0 → g = 0
 gn : 0 ≤ g
theorem LvP.push {st : List Sp} {th : Int} {i : Nat} {g g' : Int} {A T : List Int} (h : LvP st th i g A T) (t v : Int) (h1 : loS (rdS st (i : Int)) (rd A (i : Int)) ≤ rd A (i : Int) - t) (h2 : rd A (i : Int) - t ≤ hiS (rdS st (i : Int)) (rd A (i : Int)))
  (hv : v = rd A (i : Int) - t - (if (i : Int) = th then g' else 0)) (hb : 0 ≤ v ∧ v ≤ 400) (hg : (i : Int) ≠ th → g' = g) (hn : 0 ≤ g') : LvP st th (i + 1) g' (A ++ [v]) (T ++ [t]) where
 la := by simp [h.la]
 lt := by simp [h.lt]
 bd := by
  intro j hj
  by_cases e : j = i + 1
  ·rw [rd_last A v j (by rw [h.la, e])]
   exact hb
  ·rw [rd_app A v j (by rw [h.la]; omega)]
   exact h.bd j (by omega)
 step := by
  intro j hj
  by_cases e : j = i
  ·subst e
   rw [rd_app A v j (by rw [h.la]; omega), rd_last T t j h.lt.symm, rd_last A v (j + 1) (by rw [h.la])]; exact ⟨h1, h2, hv⟩
  ·have := h.step j (by omega)
   rw [rd_app A v j (by rw [h.la]; omega), rd_app T t j (by rw [h.lt]; omega), rd_app A v (j + 1) (by rw [h.la]; omega)]; refine ⟨this.1, this.2.1, ?_⟩; rw [this.2.2]
   by_cases e2 : (j : Int) = th
   ·rw [if_pos e2, if_pos e2, hg (by omega)]
   ·rw [if_neg e2, if_neg e2]
 g0 := by
  intro hc
  by_cases e : (i : Int) = th
  ·omega
  ·rw [hg e]
   exact h.g0 (by omega)
 gn := hn
theorem take_f (lo D b : Int) (hb : ub b) (hD : 0 ≤ D ∧ D ≤ 400) (hlo : 0 ≤ lo ∧ lo ≤ 400) : ∃ t, wrap64 (lo + wrap64 (Int.tdiv (wrap64 (b * wrap64 D)) 255)) = t ∧ lo ≤ t ∧ t ≤ lo + D := by
 obtain ⟨h1, h2⟩ := hb; have h3 : 0 ≤ b * D := Int.mul_nonneg h1 hD.1; have h4 : b * D ≤ 255 * D := Int.mul_le_mul_of_nonneg_right h2 hD.1; rw [wr (x := D) (by omega)]
 generalize b * D = m at *
 rw [wr (x := m) (by omega), Int.tdiv_eq_ediv_of_nonneg h3, wr (x := m / 255) (by omega), wr (by omega)]; exact ⟨_, rfl, by omega, by omega⟩
section
variable (l0 : List S76) (a : Int) (l2 : List Int) (l3 : List S136) (st : List S41) (wg : List S80) (hst : ∀ s ∈ toSt st, stB s) (hb : ∀ x ∈ l2, ub x) (hn : st.length ≤ 1000) (th stolen : Int) (hs : 0 ≤ stolen ∧ stolen ≤ 1000)
theorem lived_l0 (hst : ∀ s ∈ toSt st, stB s) (hb : ∀ x ∈ l2, ub x) (hn : st.length ≤ 1000) (hs : 0 ≤ stolen ∧ stolen ≤ 1000) : ∀ (d i : Nat) (g : Int) (A T : List Int), i + d = st.length → LvP (toSt st) th i g A T →
  ∃ A' T' g', Ev (fun k => lw_Cart_lived.l0 k th stolen A T g (rd A (i : Int)) (i : Int) l0 a l2 l3 st wg) (A', T', g') ∧ LvP (toSt st) th st.length g' A' T' ∧ rd A' 0 = rd A 0
 | 0, i, g, A, T, hd, h => by
  obtain rfl : i = st.length := by omega
  refine ⟨A, T, g, ?_, h, rfl⟩; refine Ev.up ?_; simp only [lw_Cart_lived.l0, if_neg (show ¬ (st.length : Int) < (st.length : Int) by omega)]; exact Ev.now _
 | d + 1, i, g, A, T, hd, h => by
  have hi : i < st.length := by omega
  have hv : stB (rdS (toSt st) (i : Int)) := by
   rw [rdS_nat _ _ (by rw [toSt_len]; exact hi)]; exact hst _ (List.getElem_mem _)
  have er : rdS (toSt st) (i : Int) = ⟨st[i].f0, st[i].f1⟩ := by rw [rdS_nat _ _ (by rw [toSt_len]; exact hi), toSt_get st i hi]
  have hw := h.bd i (Nat.le_refl _); have e1 := least_f hv hw; have e2 := most_f hv hw; obtain ⟨b, e3, hb'⟩ := by_f l2 hb (i : Int) (by omega); have g1 := loS_nn hv hw.1; have g2 := loS_hiS hv hw.1; have g3 := hiS_le hv hw.1; obtain ⟨t, e4, t1, t2⟩ := take_f (rd A (i : Int) - hiS (rdS (toSt st) (i : Int)) (rd A (i : Int))) ((rd A (i : Int) - loS (rdS (toSt st) (i : Int)) (rd A (i : Int))) - (rd A (i : Int) - hiS (rdS (toSt st) (i : Int)) (rd A (i : Int)))) b hb' (by omega) (by omega); have hla := h.la; have hlt := h.lt
  have hA0 : ∀ v, rd (A ++ [v]) 0 = rd A 0 := fun v => rd_app A v 0 (by omega)
  by_cases hth : (i : Int) = th
  ·have p := h.push (g' := min (rd A (i : Int) - t) stolen) t (rd A (i : Int) - t - min (rd A (i : Int) - t) stolen) (by omega) (by omega) (by rw [if_pos hth]) (by omega) (fun e => absurd hth e) (by omega)
   obtain ⟨A', T', g', q1, q2, q3⟩ := lived_l0 hst hb hn hs d (i + 1) _ _ _ (by omega) p; refine ⟨A', T', g', ?_, q2, by rw [q3, hA0]⟩; rw [rd_last A _ (i + 1) (by omega)] at q1; refine Ev.up ?_; rw [er] at e1 e2 e4; simp only at e1 e2; simp only [lw_Cart_lived.l0, if_pos (show (i : Int) < (st.length : Int) by omega), if_pos (show (0 : Int) ≤ (i : Int) by omega), rdA st i hi, e1, e2, e3, Option.bind_some, e4, if_pos hth, if_pos (show A.length < 17592186044416 by omega), if_pos (show T.length < 17592186044416 by omega), mn_min, wr (show -9223372036854775808 ≤ rd A (i : Int) - t ∧ rd A (i : Int) - t ≤ 9223372036854775807 by omega), wr (show -9223372036854775808 ≤ rd A (i : Int) - t - min (rd A (i : Int) - t) stolen ∧ rd A (i : Int) - t - min (rd A (i : Int) - t) stolen ≤ 9223372036854775807 by omega), wi i (by omega)]; exact q1
  ·have p := h.push (g' := g) t (rd A (i : Int) - t) (by omega) (by omega) (by rw [if_neg hth]; omega) (by omega) (fun _ => rfl) h.gn
   obtain ⟨A', T', g', q1, q2, q3⟩ := lived_l0 hst hb hn hs d (i + 1) _ _ _ (by omega) p; refine ⟨A', T', g', ?_, q2, by rw [q3, hA0]⟩; rw [rd_last A _ (i + 1) (by omega)] at q1; refine Ev.up ?_; rw [er] at e1 e2 e4; simp only at e1 e2; simp only [lw_Cart_lived.l0, if_pos (show (i : Int) < (st.length : Int) by omega), if_pos (show (0 : Int) ≤ (i : Int) by omega), rdA st i hi, e1, e2, e3, Option.bind_some, e4, if_neg hth, if_pos (show A.length < 17592186044416 by omega), if_pos (show T.length < 17592186044416 by omega), wr (show -9223372036854775808 ≤ rd A (i : Int) - t ∧ rd A (i : Int) - t ≤ 9223372036854775807 by omega), wi i (by omega)]; exact q1
theorem lived_f (ha : 0 ≤ a ∧ a ≤ 65535) (hst : ∀ s ∈ toSt st, stB s) (hb : ∀ x ∈ l2, ub x) (hn : st.length ≤ 1000) (hs : 0 ≤ stolen ∧ stolen ≤ 1000) :
  ∃ A T g, Ev (fun k => lw_Cart_lived.f k l0 a l2 l3 st wg th stolen) (A, T, g) ∧ LvP (toSt st) th st.length g A T ∧ rd A 0 = a % 401 := by
 have hm : 0 ≤ a % 401 ∧ a % 401 ≤ 400 := by omega
 have p : LvP (toSt st) th 0 0 [a % 401] [] := ⟨rfl, rfl, fun j hj => by
  obtain rfl : j = 0 := by omega
  exact hm, fun j hj => absurd hj (Nat.not_lt_zero _), fun _ => rfl, Int.le_refl _⟩
 obtain ⟨A, T, g, q1, q2, q3⟩ := lived_l0 l0 a l2 l3 st wg th stolen hst hb hn hs st.length 0 0 _ _ (by omega) p; refine ⟨A, T, g, ?_, q2, q3⟩
 unfold lw_Cart_lived.f
 rw [wr (by omega), tm ha.1]; exact q1
end
section
variable (l0 : List S76) (a : Int) (l2 : List Int) (l3 : List S136) (st : List S41) (n : Nat) (A sp : List Int)
end
end Go.Proofs.YtemingmeidmjkaaDoor.Q
namespace Go.Proofs.YtemingmeidmjkaaDoor.Q
open Go.RowKit Go.Proofs.YtemingmeidmjkaaDoorW.PrintWords Go.Proofs.YtemingmeidmjkaaDoorW.PrintLast Go.Proofs.YtemingmeidmjkaaDoorW.PrintMore
attribute [local go_sem] max2_int min2_int max_two min_two max_three min_three max_four min_four   -- for this text's walks alone
set_option linter.unusedVariables false
set_option linter.unusedSimpArgs false
end Go.Proofs.YtemingmeidmjkaaDoor.Q
namespace Go.Proofs.YtemingmeidmjkaaDoor.Q
open Go.RowKit Go.Proofs.YtemingmeidmjkaaDoorW.PrintWords Go.Proofs.YtemingmeidmjkaaDoorW.PrintLast Go.Proofs.YtemingmeidmjkaaDoorW.PrintMore
attribute [local go_sem] max2_int min2_int max_two min_two max_three min_three max_four min_four   -- for this text's walks alone
set_option linter.unusedVariables false
set_option linter.unusedSimpArgs false
end Go.Proofs.YtemingmeidmjkaaDoor.Q
namespace Go.Proofs.YtemingmeidmjkaaDoor.Q
open Go.RowKit Go.Proofs.YtemingmeidmjkaaDoorW.PrintWords
set_option linter.unusedVariables false
set_option linter.unusedSimpArgs false
theorem leN_mono {st : List Sp} (h : ∀ s ∈ st, stB s) {x y : Int} (hxy : x ≤ y) : ∀ k : Nat, k ≤ st.length → leN st x k ≤ leN st y k
 | 0, _ => hxy
 | k + 1, hk => by
  have e : rdS st k = st[k] := rdS_nat st k (by omega); exact loS_mono (by rw [e]; exact h _ (List.getElem_mem _)) (leN_mono h hxy k (by omega))
theorem bs_spec (f : Int → Bool) (hf : ∀ x y, x ≤ y → f x = true → f y = true) : ∀ (k : Nat) (i j : Int), i ≤ j → j - i < k → i ≤ bsS f k i j ∧ bsS f k i j ≤ j ∧ (∀ x, i ≤ x → x < bsS f k i j → f x = false) ∧ (bsS f k i j < j → f (bsS f k i j) = true)
 | 0, i, j, h, hk => by omega
 | k + 1, i, j, h, hk => by
  unfold bsS
  by_cases hij : i < j
  ·rw [if_pos hij]
   cases hm : f ((i + j) / 2)
   ·simp only [Bool.false_eq_true, if_false]
    obtain ⟨h1, h2, h3, h4⟩ := bs_spec f hf k ((i + j) / 2 + 1) j (by omega) (by omega); refine ⟨by omega, h2, fun x hx1 hx2 => ?_, h4⟩
    by_cases hx : x ≤ (i + j) / 2
    ·cases hfx : f x
     ·rfl
     ·rw [hf x _ hx hfx] at hm; cases hm
    ·exact h3 x (by omega) hx2
   ·simp only [if_true]
    obtain ⟨h1, h2, h3, h4⟩ := bs_spec f hf k i ((i + j) / 2) (by omega) (by omega); refine ⟨h1, by omega, h3, fun hx => ?_⟩
    by_cases h5 : bsS f k i ((i + j) / 2) < (i + j) / 2
    ·exact h4 h5
    ·rw [show bsS f k i ((i + j) / 2) = (i + j) / 2 by omega]; exact hm
  ·rw [if_neg hij]
   exact ⟨by omega, by omega, fun x h1 h2 => by omega, fun h => by omega⟩
end Go.Proofs.YtemingmeidmjkaaDoor.Q
namespace Go.Proofs.YtemingmeidmjkaaDoor.Q
open Go.RowKit Go.Proofs.YtemingmeidmjkaaDoorW.PrintWords
set_option linter.unusedVariables false
set_option linter.unusedSimpArgs false
theorem LvP.least {st : List Sp} {i : Nat} {g : Int} {A T : List Int} (hok : ∀ s ∈ st, stB s) (h : LvP st (-1) i g A T) (hi : i ≤ st.length) : ∀ j : Nat, j ≤ i → leN st (rd A 0) j ≤ rd A (j : Int)
 | 0, _ => Int.le_refl _
 | j + 1, hj => by
  obtain ⟨h1, h2, h3⟩ := h.step j (by omega); rw [if_neg (by omega)] at h3
  have hv : stB (rdS st (j : Int)) := by
   rw [rdS_nat _ _ (by omega)]; exact hok _ (List.getElem_mem _)
  have h4 := loS_mono hv (LvP.least hok h hi j (by omega))
  show loS (rdS st j) (leN st (rd A 0) j) ≤ _
  omega
section
variable (l0 : List S76) (l2 : List Int) (l3 : List S136) (st : List S41) (wg : List S80) (m want v e : Int)
theorem En_j4 (hst : ∀ s ∈ toSt st, stB s) (hb : ∀ x ∈ l2, ub x) (hn : st.length ≤ 4) (x : Nat) (hx : x ≤ 2) (w a : Int) (hw : 0 ≤ w ∧ w ≤ 400) (next : Ev (fun k => lw_WoolEnough.l0 k m want v e ((x + 1 : Nat) : Int) l0 w l2 l3 st wg) true) :
  Ev (fun k => lw_WoolEnough.j4 k m want v e (x : Int) w (leN (toSt st) w st.length) false l0 a l2 l3 st wg) true := by
 obtain ⟨A, T, g, q1, q2, q3⟩ := lived_f l0 w l2 l3 st wg (-1) 0 (by omega) hst hb (by omega) (by omega); have hle := q2.least hst (by rw [toSt_len]; omega) st.length (Nat.le_refl _); rw [q3, show w % 401 = w by omega] at hle; have hla := q2.la
 have eu : IntKind.u16.wrap w = w := by rw [IntKind.wrap_u16]; omega
 refine Ev.up ?_; simp only [lw_WoolEnough.j4, Bool.false_eq_true, if_false, eu]; refine Ev.bind q1 ?_; simp only [wr (x := (A.length : Int) - 1) (by omega), if_pos (show (0 : Int) ≤ (A.length : Int) - 1 by omega), if_pos (show (A.length : Int) - 1 < (A.length : Int) by omega), wi x (by omega)]; rw [show (A.length : Int) - 1 = (st.length : Int) by omega]; simp only [if_neg (show ¬ rd A (st.length : Int) < leN (toSt st) w st.length by omega)]; exact next
theorem En_l1 (hst : ∀ s ∈ toSt st, stB s) (hb : ∀ x ∈ l2, ub x) (hn : st.length ≤ 4) (x : Nat) (hx : x ≤ 2) (w a : Int) (hw : 0 ≤ w ∧ w ≤ 400) (hf : (if e = 0 then (decide (leN (toSt st) w st.length ≥ want) != ((x : Int) != 1)) else (decide (leN (toSt st) w st.length ≥ want) != false)) = false) (next : Ev (fun k => lw_WoolEnough.l0 k m want v e ((x + 1 : Nat) : Int) l0 w l2 l3 st wg) true) :
  ∀ (d i : Nat), i + d = st.length → Ev (fun k => lw_WoolEnough.l1 k m want v e (x : Int) w (leN (toSt st) w i) (i : Int) l0 a l2 l3 st wg) true
 | 0, i, hd => by
  obtain rfl : i = st.length := by omega
  have hj := En_j4 l0 l2 l3 st wg m want v e hst hb hn x hx w a hw next; refine Ev.up ?_; simp only [lw_WoolEnough.l1, if_neg (show ¬ (st.length : Int) < (st.length : Int) by omega)]
  by_cases he : e = 0
  ·rw [if_pos he] at hf
   simp only [if_pos he, hf]; exact hj
  ·rw [if_neg he] at hf
   simp only [if_neg he, hf]; exact hj
 | d + 1, i, hd => by
  have hi : i < st.length := by omega
  have hok : RdOk (toSt st) [] := ⟨hst, fun x h => absurd h List.not_mem_nil, by rw [toSt_len]; omega⟩; have hv := hok.at (i : Int) (by omega) (by rw [toSt_len]; omega); have hbd := leN_bd hok hw.1 i (by rw [toSt_len]; omega); have e1 := most_f hv (w := leN (toSt st) w i) ⟨hbd.1, by omega⟩
  have er : rdS (toSt st) (i : Int) = ⟨st[i].f0, st[i].f1⟩ := by rw [rdS_nat _ _ (by rw [toSt_len]; exact hi), toSt_get st i hi]
  have ih := En_l1 hst hb hn x hx w a hw hf next d (i + 1) (by omega); have e2 : leN (toSt st) w (i + 1) = loS (rdS (toSt st) (i : Int)) (leN (toSt st) w i) := rfl; have hb2 := leN_bd hok hw.1 (i + 1) (by rw [toSt_len]; omega); rw [e2] at ih hb2; rw [er] at e1 ih hb2; simp only at e1; refine Ev.up ?_; simp only [lw_WoolEnough.l1, if_pos (show (i : Int) < (st.length : Int) by omega), if_pos (show (0 : Int) ≤ (i : Int) by omega), rdA st i hi, e1, Option.bind_some, wi i (by omega)]; rw [show leN (toSt st) w i - (leN (toSt st) w i - loS ⟨st[i].f0, st[i].f1⟩ (leN (toSt st) w i)) = loS ⟨st[i].f0, st[i].f1⟩ (leN (toSt st) w i) by omega, wr (by omega)]; exact ih
end
theorem WoolEnough_ev (l0 : List S76) (a : Int) (l2 : List Int) (l3 : List S136) (a1 a2 : Int) (h0 : ∀ x ∈ l0, ub x.f0 ∧ ub x.f1) (h2 : ∀ x ∈ l2, ub x) (ha1 : 0 ≤ a1 ∧ a1 ≤ 65535) (ha2 : ub a2) : Ev (fun k => lw_WoolEnough.f k l0 a l2 l3 a1 a2) true := by
 obtain ⟨st, hr, hn1, hn4, hst⟩ := road_f l0 a l2 l3 h0; have hok : RdOk (toSt st) [] := ⟨hst, fun x h => absurd h List.not_mem_nil, by rw [toSt_len]; omega⟩; have hE : roadE (toSt st) (toWg []) = 0 := roadE_ok (by rw [toSt_len]; omega) (by rw [toSt_len]; omega) hst (by simp [toWg]) (fun x h => by cases h); obtain ⟨m1, m2⟩ := ha2
 have hw : 0 ≤ a1 % 401 ∧ a1 % 401 ≤ 400 := by omega
 unfold lw_WoolEnough.f
 refine Ev.bind hr ?_; simp only [own_f st [] (by omega) (by simp), Option.bind_some, wool_Need.f, wr (x := a1) (by omega), tm ha1.1]
 generalize a1 % 401 = want at *
 have hmono : ∀ x y, x ≤ y → (fun x => decide (leN (toSt st) x (toSt st).length ≥ want)) x = true → (fun x => decide (leN (toSt st) x (toSt st).length ≥ want)) y = true := by
  intro x y hxy hx; simp only [decide_eq_true_eq] at hx ⊢; exact Int.le_trans hx (leN_mono hst hxy _ (Nat.le_refl _))
 obtain ⟨b1, b2, b3, b4⟩ := bs_spec (fun x => decide (leN (toSt st) x (toSt st).length ≥ want)) hmono 1001 0 401 (by omega) (by omega); have hV : bsS (fun x => decide (leN (toSt st) x (toSt st).length ≥ want)) 1001 0 401 = ndV (toSt st) want := rfl; rw [hV] at b1 b2 b3 b4; have hin : inB 0 400 [want] = true := (inB_one _ _ _).2 hw; simp only [decide_eq_false_iff_not, decide_eq_true_eq, toSt_len] at b3 b4
 by_cases c : ndV (toSt st) want > 400
 ·have e1 : ndE (toSt st) (toWg []) want = 7 := by rw [ndE, if_pos hE, if_pos hin, if_pos c]
  have e2 : ndR (toSt st) (toWg []) want = 0 := by rw [ndR, e1, if_neg (by omega)]
  have hlow := b3 400 (by omega) (by omega)
  have hf : ∀ x : Nat, (if (7 : Int) = 0 then (decide (leN (toSt st) 400 st.length ≥ want) != ((x : Int) != 1)) else (decide (leN (toSt st) 400 st.length ≥ want) != false)) = false := fun x => by
   rw [if_neg (by omega), decide_eq_false hlow]; rfl
  simp only [e1, e2, if_neg (show ¬ (7 : Int) = 0 by omega), if_true, if_neg (show ¬ (0 : Int) < 0 by omega), if_neg (show ¬ (0 : Int) > 400 by omega)]; refine Ev.up ?_; simp only [lw_WoolEnough.j0, Bool.false_eq_true, if_false]
  have R3 : Ev (fun k => lw_WoolEnough.l0 k a2 want 0 7 ((2 + 1 : Nat) : Int) l0 400 l2 l3 st []) true := by
   refine Ev.up ?_; simp only [lw_WoolEnough.l0, if_neg (show ¬ ((2 + 1 : Nat) : Int) < 3 by omega), known_f, Option.bind_some]; exact Ev.now _
  have R2 : ∀ a, Ev (fun k => lw_WoolEnough.l0 k a2 want 0 7 ((1 + 1 : Nat) : Int) l0 a l2 l3 st []) true := by
   intro a; refine Ev.up ?_; simp only [lw_WoolEnough.l0, if_pos (show ((1 + 1 : Nat) : Int) < 3 by omega), if_neg (show ¬ ((1 + 1 : Nat) : Int) = 0 by omega), if_neg (show ¬ ((1 + 1 : Nat) : Int) = 1 by omega), if_pos (show ((1 + 1 : Nat) : Int) = 2 by omega), if_neg (show ¬ (7 : Int) = 0 by omega)]; refine Ev.up ?_; simp only [lw_WoolEnough.j6, if_neg (show ¬ (400 : Int) < 0 by omega)]; exact En_l1 l0 l2 l3 st [] a2 want 0 7 hst h2 hn4 2 (by omega) 400 a (by omega) (hf 2) R3 st.length 0 (by omega)
  have R1 : ∀ a, Ev (fun k => lw_WoolEnough.l0 k a2 want 0 7 ((0 + 1 : Nat) : Int) l0 a l2 l3 st []) true := by
   intro a; refine Ev.up ?_; simp only [lw_WoolEnough.l0, if_pos (show ((0 + 1 : Nat) : Int) < 3 by omega), if_neg (show ¬ ((0 + 1 : Nat) : Int) = 0 by omega), if_pos (show ((0 + 1 : Nat) : Int) = 1 by omega), if_neg (show ¬ (7 : Int) = 0 by omega)]; refine Ev.up ?_; simp only [lw_WoolEnough.j5, if_neg (show ¬ (400 : Int) < 0 by omega)]; exact En_l1 l0 l2 l3 st [] a2 want 0 7 hst h2 hn4 1 (by omega) 400 a (by omega) (hf 1) (R2 _) st.length 0 (by omega)
  refine Ev.up ?_; simp only [lw_WoolEnough.l0, if_pos (show (0 : Int) < 3 by omega), if_true, if_neg (show ¬ (7 : Int) = 0 by omega)]; refine Ev.up ?_; simp only [lw_WoolEnough.j2, if_neg (show ¬ (400 : Int) < 0 by omega)]; exact En_l1 l0 l2 l3 st [] a2 want 0 7 hst h2 hn4 0 (by omega) 400 a (by omega) (hf 0) (R1 _) st.length 0 (by omega)
 ·have e1 : ndE (toSt st) (toWg []) want = 0 := by rw [ndE, if_pos hE, if_pos hin, if_neg c]
  have e2 : ndR (toSt st) (toWg []) want = ndV (toSt st) want := by rw [ndR, e1, if_pos rfl]
  have hup := b4 (by omega); have hV2 := leN_bd hok b1 st.length (by rw [toSt_len]; omega); simp only [e1, e2, if_true]
  generalize ndV (toSt st) want = V at *
  simp only [if_neg (show ¬ V < 0 by omega), if_neg c, decide_eq_false (show ¬ V < want by omega)]; refine Ev.up ?_; simp only [lw_WoolEnough.j0, Bool.false_eq_true, if_false]
  have R3 : ∀ a, Ev (fun k => lw_WoolEnough.l0 k a2 want V 0 ((2 + 1 : Nat) : Int) l0 a l2 l3 st []) true := by
   intro a; refine Ev.up ?_; simp only [lw_WoolEnough.l0, if_neg (show ¬ ((2 + 1 : Nat) : Int) < 3 by omega), known_f, Option.bind_some]; exact Ev.now _
  have R2 : ∀ a, Ev (fun k => lw_WoolEnough.l0 k a2 want V 0 ((1 + 1 : Nat) : Int) l0 a l2 l3 st []) true := by
   intro a; have hge : leN (toSt st) (min 400 (V + a2)) st.length ≥ want := Int.le_trans hup (leN_mono hst (by omega) _ (by rw [toSt_len]; omega)); refine Ev.up ?_; simp only [lw_WoolEnough.l0, if_pos (show ((1 + 1 : Nat) : Int) < 3 by omega), if_neg (show ¬ ((1 + 1 : Nat) : Int) = 0 by omega), if_neg (show ¬ ((1 + 1 : Nat) : Int) = 1 by omega), if_pos (show ((1 + 1 : Nat) : Int) = 2 by omega), if_true, wr (x := a2) (by omega), wr (x := V + a2) (by omega), mn_min]; refine Ev.up ?_; simp only [lw_WoolEnough.j6, if_neg (show ¬ min 400 (V + a2) < 0 by omega)]; exact En_l1 l0 l2 l3 st [] a2 want V 0 hst h2 hn4 2 (by omega) _ a (by omega) (by rw [if_pos rfl, decide_eq_true hge]; rfl) (R3 _) st.length 0 (by omega)
  have R1 : ∀ a, Ev (fun k => lw_WoolEnough.l0 k a2 want V 0 ((0 + 1 : Nat) : Int) l0 a l2 l3 st []) true := by
   intro a; refine Ev.up ?_; simp only [lw_WoolEnough.l0, if_pos (show ((0 + 1 : Nat) : Int) < 3 by omega), if_neg (show ¬ ((0 + 1 : Nat) : Int) = 0 by omega), if_pos (show ((0 + 1 : Nat) : Int) = 1 by omega), if_true, wr (x := V - 1) (by omega)]
   by_cases hv : V = 0
   ·refine Ev.up ?_
    simp only [lw_WoolEnough.j5, if_pos (show V - 1 < 0 by omega), wi (0 + 1) (by omega)]; exact R2 _
   ·have hlow := b3 (V - 1) (by omega) (by omega)
    refine Ev.up ?_; simp only [lw_WoolEnough.j5, if_neg (show ¬ V - 1 < 0 by omega)]; exact En_l1 l0 l2 l3 st [] a2 want V 0 hst h2 hn4 1 (by omega) _ a (by omega) (by rw [if_pos rfl, decide_eq_false hlow]; rfl) (R2 _) st.length 0 (by omega)
  refine Ev.up ?_; simp only [lw_WoolEnough.l0, if_pos (show (0 : Int) < 3 by omega), if_true]; refine Ev.up ?_; simp only [lw_WoolEnough.j2, if_neg (show ¬ V < 0 by omega)]; exact En_l1 l0 l2 l3 st [] a2 want V 0 hst h2 hn4 0 (by omega) _ a (by omega) (by rw [if_pos rfl, decide_eq_true hup]; rfl) (R1 _) st.length 0 (by omega)
theorem WoolEnough_pure (l0_0 : List (S76)) (a0_1 : Int) (l0_2 : List Int) (l0_3 : List (S136)) (a1 : Int) (a2 : Int) (w0 : (∀ x_ ∈ l0_0, ((Lit.int .u8 x_.f0).wf = true) ∧ ((Lit.int .u8 x_.f1).wf = true)) ∧ (((Lit.int .u16 a0_1).wf = true) ∧ ((∀ x_ ∈ l0_2, (Lit.int .u8 x_).wf = true) ∧ (∀ x_ ∈ l0_3, ((Lit.int .u8 x_.f0).wf = true) ∧ (((Lit.int .u8 x_.f1).wf = true) ∧ ((Lit.int .u8 x_.f2).wf = true)))))) (w1 : (Lit.int .u16 a1).wf = true) (w2 : (Lit.int .u8 a2).wf = true) : ∃ k, lw_WoolEnough.f k l0_0 a0_1 l0_2 l0_3 a1 a2 = some true := by
 have u : (Lit.int .u16 a1).wf = true → 0 ≤ a1 ∧ a1 ≤ 65535 := fun h => by
  simp only [Lit.wf, Bool.and_eq_true, decide_eq_true_eq] at h; exact h
 exact (WoolEnough_ev l0_0 a0_1 l0_2 l0_3 a1 a2 (fun x h => ⟨ub_wf (w0.1 x h).1, ub_wf (w0.1 x h).2⟩) (fun x h => ub_wf (w0.2.2.1 x h)) (u w1) (ub_wf w2)).rounds
end Go.Proofs.YtemingmeidmjkaaDoor.Q
namespace Go.Proofs.YtemingmeidmjkaaDoor
open Go.RowKit Go.ChangeShapes Go.Shelf Go.Proofs.YtemingmeidmjkaaDoorW.PrintWords
set_option linter.unusedVariables false
set_option maxRecDepth 100000
theorem glNamed : Tryd.prog.globalNamed "walkmill/wool.all" = some 0 := by kernel_rfl
theorem glType : (Tryd.prog.globals[0]?).map (·.type) = some 100 := by kernel_rfl
theorem cells3 : Tryd.prog.cellsOf 3 = 1 := by kernel_rfl
theorem cellsSome : Tryd.prog.cellsOf 100 = 2 := by kernel_rfl
theorem gl_of_laid {W : World} (h : laidMetH Tryd.prog [("walkmill/wool.all", Rows.laid_walkmill_wool_all)] W) : GL W := by
 have h' : laidMet Tryd.prog [("walkmill/wool.all", Rows.laid_walkmill_wool_all)] W := h; clear h; have h := h'; obtain ⟨ps, ⟨g, t, cs, fuel, p, q, e1, e2, e3, e4, _, _⟩, _⟩ := h; obtain rfl := Option.some.inj (glNamed.symm.trans e1); obtain rfl := Option.some.inj (glType.symm.trans e2); obtain ⟨xs, n, _, hx, hl, hlen, hf⟩ := DataW.trod_struct Tryd.underlying100 e4
 have hcell := fun i => World.var?_cell glNamed e3 i
 have hl2 : cs.toList.length = 2 := by rw [hl]; exact cellsSome
 match xs, hlen with
 | [y0, y1], _ =>
  have f0 := hf 0 _ rfl; have f1 := hf 1 _ rfl; simp only [List.getElem?_cons_zero, List.getElem?_cons_succ] at f0 f1; obtain ⟨a, ha, rfl, _⟩ := DataW.trod_int Tryd.underlying3 f0; obtain ⟨b, hb, rfl, _⟩ := DataW.trod_int Tryd.underlying3 f1; simp only [List.map_cons, List.map_nil, Rows.laid_walkmill_wool_all, Prod.mk.injEq, DataW.agg.injEq, List.cons.injEq, DataW.lit.injEq, Lit.int.injEq, true_and, and_true] at hx; obtain ⟨⟨rfl, rfl⟩, _⟩ := hx
  have hcs : cs = #[.int .i64 0, .int .i64 400] := by
   apply Array.toList_inj.1
   match hc : cs.toList, hl2 with
   | [u, v], _ =>
    rw [hc] at ha hb
    simp [cells3] at ha hb
    rw [ha, hb]
  refine ⟨rfl, by decide, fun _ => ⟨_, rfl, fun j x hj => ?_⟩⟩
  match j, hj with
  | 0, hj =>
   simp only [List.getElem?_cons_zero, Option.some.injEq] at hj; subst hj; refine ⟨[.int .i64 0, .int .i64 400], rfl, kSp_mk _ ⟨0, 400⟩, fun i u hi => ?_⟩; have h9 := hcell i; rw [hcs] at h9; rw [add_plain]; simp only [Nat.zero_mul, Nat.zero_add] at *; rw [h9]
   simpa using hi
def lay0 (w : World) : World := { w with heap := w.heap.modify 0 fun o => match o with
  | .cells _ t frozen => .cells #[.int .i64 0, .int .i64 400] t frozen
  | o => o }
theorem lay0_met (os : Os) (args : Array Value) : laidMetH Tryd.prog [("walkmill/wool.all", Rows.laid_walkmill_wool_all)] ((lay0 (World.holding Tryd.prog os ⟨#[], #[], []⟩)).forCall (fun _ _ => 0) ⟨#[], args, []⟩).memory := by
 show laidMet Tryd.prog [("walkmill/wool.all", Rows.laid_walkmill_wool_all)] _
 exact laidMet_of_run' 8 sqF sqF
end Go.Proofs.YtemingmeidmjkaaDoor
