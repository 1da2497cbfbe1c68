/- Functions printed by the kit's printer over these walks, and the plain law. No condition. -/
import Derived.Test.YtemingmeidmjkaaDoorV0
import Derived.Test.YtemingmeidmjkaaDoorGWoolWheres1
import Derived.Test.YtemingmeidmjkaaDoorGWoolWheres0
import Derived.Test.YtemingmeidmjkaaDoorV2
import Derived.Test.YtemingmeidmjkaaDoorV3
import Derived.Test.YtemingmeidmjkaaDoorRows
import Derived.LaidLaws
import Derived.LaidHandle
import Derived.Handed
import Derived.ChangeSame
set_option linter.unusedVariables false
set_option linter.unusedSimpArgs false
namespace Go.Proofs.YtemingmeidmjkaaDoor.Q
open Go.RowKit Go.Proofs.YtemingmeidmjkaaDoorW.PrintWords
set_option linter.unusedVariables false
set_option linter.unusedSimpArgs false
def enF (g : Nat → Bool) : Nat → Nat → Int × Int → Int × Int
 | 0, _, x => x
 | d + 1, i, x => enF g d (i + 1) (if g i then (if x.1 < 0 then ((i : Int), (i : Int)) else (x.1, (i : Int))) else x)
theorem enF_fst (g : Nat → Bool) : ∀ (d i : Nat) (x : Int × Int), ((enF g d i x).1 ≥ 0 ↔ x.1 ≥ 0 ∨ ∃ j, i ≤ j ∧ j < i + d ∧ g j = true)
 | 0, i, x => by
  unfold enF
  exact ⟨fun h => .inl h, fun h => h.elim id (fun ⟨j, h1, h2, _⟩ => by omega)⟩
 | d + 1, i, x => by
  rw [enF, enF_fst g d (i + 1)]
  cases hg : g i
  ·simp only [Bool.false_eq_true, if_false]
   constructor
   ·rintro (h | ⟨j, h1, h2, h3⟩)
    ·exact .inl h
    ·exact .inr ⟨j, by omega, by omega, h3⟩
   ·rintro (h | ⟨j, h1, h2, h3⟩)
    ·exact .inl h
    ·refine .inr ⟨j, ?_, by omega, h3⟩
     by_cases e : j = i
     ·rw [e, hg] at h3; cases h3
     ·omega
  ·simp only [if_true]
   constructor
   ·intro _
    exact .inr ⟨i, by omega, by omega, hg⟩
   ·intro _
    left
    by_cases hx : x.1 < 0
    ·rw [if_pos hx]; simp only; omega
    ·rw [if_neg hx]; simp only; omega
theorem Ends_l0 (g : Nat → Bool) : ∀ (d i : Nat) (a b : Int), i + d = 401 → Ev (fun k => rf_Ends.l0 k (T4 g) (i : Int) a b) (enF g d i (a, b))
 | 0, i, a, b, hd => by
  refine Ev.up ?_; simp only [rf_Ends.l0, T4_len, if_neg (show ¬ (i : Int) < ((401 : Nat) : Int) by omega)]; exact Ev.now _
 | d + 1, i, a, b, hd => by
  refine Ev.up ?_; simp only [rf_Ends.l0, T4_len, if_pos (show (i : Int) < ((401 : Nat) : Int) by omega), if_pos (show (0 : Int) ≤ (i : Int) by omega), T4_get g i (by omega)]; rw [enF]
  cases hg : g i
  ·simp only [Bool.false_eq_true, if_false]
   refine Ev.up ?_; simp only [rf_Ends.j1, Bool.false_eq_true, if_false, T4_len, if_pos (show (i : Int) < ((401 : Nat) : Int) by omega), if_pos (show (0 : Int) ≤ (i : Int) by omega), T4_get g i (show i ≤ 400 by omega), hg, wi i (by omega)]; exact Ends_l0 g d (i + 1) a b (by omega)
  ·simp only [if_true]
   refine Ev.up ?_
   by_cases ha : a < 0
   ·simp only [rf_Ends.j1, decide_eq_true ha, if_true, T4_len, if_pos (show (i : Int) < ((401 : Nat) : Int) by omega), if_pos (show (0 : Int) ≤ (i : Int) by omega), T4_get g i (show i ≤ 400 by omega), hg, wi i (by omega), if_pos ha]
    exact Ends_l0 g d (i + 1) _ _ (by omega)
   ·simp only [rf_Ends.j1, decide_eq_false ha, Bool.false_eq_true, if_false, if_true, T4_len, if_pos (show (i : Int) < ((401 : Nat) : Int) by omega), if_pos (show (0 : Int) ≤ (i : Int) by omega), T4_get g i (show i ≤ 400 by omega), hg, wi i (by omega), if_neg ha]
    exact Ends_l0 g d (i + 1) _ _ (by omega)
theorem Ends_f (g : Nat → Bool) : Ev (fun k => rf_Ends.f k (T4 g)) (enF g 401 0 (-1, -1)) := Ends_l0 g 401 0 (-1) (-1) (by omega)
theorem Is_f (n : Nat) (R : Nat → Nat → Bool) (hn : 0 < n) : Ev (fun k => rf_Is.f k (rowsL n R)) (decide (∃ w : Nat, w ≤ 400 ∧ R 0 w = true)) := by
 unfold rf_Is.f
 simp only [rowsL_len, if_pos (show (0 : Int) < (n : Int) by omega)]; have h0 := rowsL_get n R 0 hn; rw [show ((0 : Nat) : Int) = 0 from rfl] at h0; rw [h0]; refine Ev.bind (Ends_f (R 0)) ?_
 have e : decide ((enF (R 0) 401 0 (-1, -1)).1 ≥ 0) = decide (∃ w : Nat, w ≤ 400 ∧ R 0 w = true) := by
  rw [decide_eq_decide, enF_fst]
  constructor
  ·rintro (h | ⟨j, h1, h2, h3⟩)
   ·simp at h
   ·exact ⟨j, by omega, h3⟩
  ·rintro ⟨j, h1, h2⟩
   exact .inr ⟨j, by omega, by omega, h2⟩
 rw [← e]; exact Ev.now _
theorem mx_max (a b : Int) : mx a b = max a b := by unfold mx; omega
section
variable (st : List S41) (wg : List S80)
end
section
variable (st : List S41) (wg : List S80)
end
end Go.Proofs.YtemingmeidmjkaaDoor.Q
namespace Go.Proofs.YtemingmeidmjkaaDoor.Q
open Go.RowKit Go.Proofs.YtemingmeidmjkaaDoorW.PrintWords
set_option linter.unusedVariables false
set_option linter.unusedSimpArgs false
section
variable {st : List S41} {wg : List S80}
theorem dec_hon (hok : RdOk (toSt st) (toWg wg)) : decide (∃ w : Nat, w ≤ 400 ∧ fuB (toSt st) (toWg wg) (-1) (st.length - 0) 0 w = true) = honB (toSt st) (toWg wg) := by
 rw [Bool.eq_iff_iff, decide_eq_true_eq, hon_is hok, toSt_len, Nat.sub_zero]
theorem dec_th (hok : RdOk (toSt st) (toWg wg)) (s : Nat) (hs : s < st.length) : decide (∃ w : Nat, w ≤ 400 ∧ fuB (toSt st) (toWg wg) (s : Int) (st.length - 0) 0 w = true) = thOk (toSt st) (toWg wg) s := by
 rw [Bool.eq_iff_iff, decide_eq_true_eq, th_is hok (by rw [toSt_len]; exact hs), toSt_len, Nat.sub_zero]
theorem Where_l0 (hok : RdOk (toSt st) (toWg wg)) (h5 : st.length ≤ 500) (hl : wg.length ≤ 1000) : ∀ (d i : Nat), i + d = st.length → Ev (fun k => rf_Where.l0 k (whereN (toSt st) (toWg wg) i) (i : Int) st wg) (whereL (toSt st) (toWg wg))
 | 0, i, hd => by
  obtain rfl : i = st.length := by omega
  refine Ev.up ?_; simp only [rf_Where.l0, if_neg (Int.lt_irrefl _)]
  have e : whereN (toSt st) (toWg wg) st.length = whereL (toSt st) (toWg wg) := by rw [whereL, whereN, toSt_len]
  rw [e]; exact Ev.now _
 | d + 1, i, hd => by
  have ih := Where_l0 hok h5 hl d (i + 1) (by omega); rw [whereN_succ] at ih; have hb := whereN_len (toSt st) (toWg wg) i; refine Ev.up ?_; simp only [rf_Where.l0, if_pos (show (i : Int) < (st.length : Int) by omega)]; refine Ev.bind (Sets_f st wg (i : Int) hok hl h5) ?_; refine Ev.bind (Is_f (st.length + 1) _ (by omega)) ?_; simp only [dec_th hok i (by omega), wi i (by omega), if_pos (show (whereN (toSt st) (toWg wg) i).length < 17592186044416 by omega)]
  cases ht : thOk (toSt st) (toWg wg) i
  ·rw [ht] at ih
   simp only [Bool.false_eq_true, if_false, List.append_nil] at ih ⊢; exact ih
  ·rw [ht] at ih
   simp only [if_true] at ih ⊢; exact ih
theorem Where_f (hok : RdOk (toSt st) (toWg wg)) (h5 : st.length ≤ 500) (hl : wg.length ≤ 1000) : Ev (fun k => rf_Where.f k st wg) (whereL (toSt st) (toWg wg)) := Where_l0 hok h5 hl st.length 0 (by omega)
theorem Stolen_f (h5 : st.length ≤ 500) (hl : wg.length ≤ 1000) : Ev (fun k => rf_Stolen.f k st wg) (owL (toSt st) (toWg wg), owE (toSt st) (toWg wg)) := by
 unfold rf_Stolen.f
 refine Ev.bind (Check_f st wg (by omega) hl) ?_
 by_cases he : roadE (toSt st) (toWg wg) = 0
 ·have hok := (road_ok he).1
  simp only [if_pos he]; refine Ev.bind (Sets_f st wg (-1) hok hl h5) ?_; refine Ev.bind (Is_f (st.length + 1) _ (by omega)) ?_; simp only [dec_hon hok]
  cases hh : honB (toSt st) (toWg wg)
  ·simp only [Bool.false_eq_true, if_false]
   refine Ev.bind (Where_f hok h5 hl) ?_
   by_cases hw : whereL (toSt st) (toWg wg) = []
   ·have e1 : owE (toSt st) (toWg wg) = 9 := by simp [owE, he, hh, hw]
    have e2 : owL (toSt st) (toWg wg) = [] := by rw [owL, e1]; rfl
    rw [e1, e2, hw]; exact Ev.now _
   ·have e1 : owE (toSt st) (toWg wg) = 0 := by simp [owE, he, hh, hw]
    have e2 : owL (toSt st) (toWg wg) = whereL (toSt st) (toWg wg) := by rw [owL, e1]; rfl
    have hp : ((whereL (toSt st) (toWg wg)).length : Int) > 0 := by
     have := List.length_pos_iff.2 hw; omega
    rw [e1, e2]; simp only [if_pos hp]; exact Ev.now _
  ·have e1 : owE (toSt st) (toWg wg) = 6 := by simp [owE, he, hh]
   have e2 : owL (toSt st) (toWg wg) = [] := by rw [owL, e1]; rfl
   rw [e1, e2]; simp only [if_true]; exact Ev.now _
 ·have e1 : owE (toSt st) (toWg wg) = roadE (toSt st) (toWg wg) := by simp [owE, he]
  have e2 : owL (toSt st) (toWg wg) = [] := by rw [owL, e1, if_neg he]
  rw [e1, e2]; simp only [if_neg he]; exact Ev.now _
end
end Go.Proofs.YtemingmeidmjkaaDoor.Q
namespace Go.Proofs.YtemingmeidmjkaaDoor.Q
open Go.RowKit Go.Proofs.YtemingmeidmjkaaDoorW.PrintWords
set_option linter.unusedVariables false
set_option linter.unusedSimpArgs false
def amU (t : Sp) (w v : Nat) (a : Sp) : Sp := ⟨if a.lo < 0 then max 1 (loS t w - v) else if max 1 (loS t w - v) < a.lo then max 1 (loS t w - v) else a.lo, max a.hi (hiS t w - v)⟩
def amV (h : Nat → Bool) (t : Sp) (w : Nat) : Nat → Nat → Sp → Sp
 | 0, _, a => a
 | d + 1, v, a => amV h t w d (v + 1) (if h v && decide ((v : Int) < hiS t w) then amU t w v a else a)
def amW (g h : Nat → Bool) (t : Sp) : Nat → Nat → Sp → Sp
 | 0, _, a => a
 | d + 1, w, a => amW g h t d (w + 1) (if g w then amV h t w (w + 1) 0 a else a)
structure AmIs (t : Sp) (P : Nat → Nat → Prop) (a : Sp) : Prop where
 all : ∀ w v, P w v → 1 ≤ a.lo ∧ a.lo ≤ max 1 (loS t w - v) ∧ hiS t w - v ≤ a.hi
 some : (a = ⟨-1, -1⟩ ∧ ∀ w v, ¬ P w v) ∨ ((∃ w v, P w v ∧ a.lo = max 1 (loS t w - v)) ∧ ∃ w v, P w v ∧ a.hi = hiS t w - v)
theorem AmIs.congr {t : Sp} {P Q : Nat → Nat → Prop} {a : Sp} (h : AmIs t P a) (e : ∀ w v, P w v ↔ Q w v) : AmIs t Q a := by
 have : P = Q := by funext w v; exact propext (e w v)
 subst this; exact h
theorem AmIs.step {t : Sp} {P : Nat → Nat → Prop} {a : Sp} (h : AmIs t P a) (w v : Nat) (hv : 0 ≤ hiS t w - v) : AmIs t (fun w' v' => P w' v' ∨ (w' = w ∧ v' = v)) (amU t w v a) := by
 obtain ⟨h1, h2⟩ := h
 rcases h2 with ⟨rfl, h2⟩ | ⟨⟨w1, v1, p1, e1⟩, w2, v2, p2, e2⟩
 ·refine ⟨fun w' v' hp => ?_, .inr ⟨⟨w, v, .inr ⟨rfl, rfl⟩, ?_⟩, w, v, .inr ⟨rfl, rfl⟩, ?_⟩⟩
  ·rcases hp with hp | ⟨rfl, rfl⟩
   ·exact absurd hp (h2 _ _)
   ·simp only [amU]; omega
  ·simp only [amU]; omega
  ·simp only [amU]; omega
 ·have h3 := h1 w1 v1 p1
  have h4 := h1 w2 v2 p2; refine ⟨fun w' v' hp => ?_, .inr ⟨?_, ?_⟩⟩
  ·rcases hp with hp | ⟨rfl, rfl⟩
   ·have := h1 w' v' hp
    simp only [amU]; omega
   ·simp only [amU]; omega
  ·by_cases c : max 1 (loS t w - v) < a.lo
   ·exact ⟨w, v, .inr ⟨rfl, rfl⟩, by simp only [amU]; omega⟩
   ·exact ⟨w1, v1, .inl p1, by simp only [amU]; omega⟩
  ·by_cases c : hiS t w - v ≤ a.hi
   ·exact ⟨w2, v2, .inl p2, by simp only [amU]; omega⟩
   ·exact ⟨w, v, .inr ⟨rfl, rfl⟩, by simp only [amU]; omega⟩
theorem amV_is (h : Nat → Bool) (t : Sp) (w : Nat) (P : Nat → Nat → Prop) : ∀ (d i : Nat) (a : Sp), AmIs t (fun w' v => P w' v ∨ (w' = w ∧ v < i ∧ h v = true ∧ (v : Int) < hiS t w)) a → AmIs t (fun w' v => P w' v ∨ (w' = w ∧ v < i + d ∧ h v = true ∧ (v : Int) < hiS t w)) (amV h t w d i a)
 | 0, i, a, ha => ha
 | d + 1, i, a, ha => by
  rw [amV, show i + (d + 1) = i + 1 + d by omega]; refine amV_is h t w P d (i + 1) _ ?_
  by_cases hc : h i = true ∧ (i : Int) < hiS t w
  ·rw [if_pos (by rw [hc.1, decide_eq_true hc.2]; rfl)]
   refine (ha.step w i (by omega)).congr (fun w' v => ?_)
   constructor
   ·rintro ((h1 | ⟨h1, h2, h3, h4⟩) | ⟨rfl, rfl⟩)
    ·exact .inl h1
    ·exact .inr ⟨h1, by omega, h3, h4⟩
    ·exact .inr ⟨rfl, by omega, hc.1, hc.2⟩
   ·rintro (h1 | ⟨h1, h2, h3, h4⟩)
    ·exact .inl (.inl h1)
    ·by_cases e : v = i
     ·exact .inr ⟨h1, e⟩
     ·exact .inl (.inr ⟨h1, by omega, h3, h4⟩)
  ·have hf : ¬ ((h i && decide ((i : Int) < hiS t w)) = true) := by
    rw [Bool.and_eq_true, decide_eq_true_eq]; exact hc
   rw [if_neg hf]; refine ha.congr (fun w' v => ?_)
   constructor
   ·rintro (h1 | ⟨h1, h2, h3, h4⟩)
    ·exact .inl h1
    ·exact .inr ⟨h1, by omega, h3, h4⟩
   ·rintro (h1 | ⟨h1, h2, h3, h4⟩)
    ·exact .inl h1
    ·by_cases e : v = i
     ·subst e; exact absurd ⟨h3, h4⟩ hc
     ·exact .inr ⟨h1, by omega, h3, h4⟩
theorem amW_is (g h : Nat → Bool) (t : Sp) : ∀ (d i : Nat) (a : Sp), AmIs t (fun w v => w < i ∧ g w = true ∧ v ≤ w ∧ h v = true ∧ (v : Int) < hiS t w) a → AmIs t (fun w v => w < i + d ∧ g w = true ∧ v ≤ w ∧ h v = true ∧ (v : Int) < hiS t w) (amW g h t d i a)
 | 0, i, a, ha => ha
 | d + 1, i, a, ha => by
  rw [amW, show i + (d + 1) = i + 1 + d by omega]; refine amW_is g h t d (i + 1) _ ?_
  by_cases hg : g i = true
  ·rw [if_pos hg]
   refine (amV_is h t i (fun w v => w < i ∧ g w = true ∧ v ≤ w ∧ h v = true ∧ (v : Int) < hiS t w) (i + 1) 0 a (ha.congr fun w v => ?_)).congr (fun w v => ?_)
   ·constructor
    ·exact fun h1 => .inl h1
    ·rintro (h1 | ⟨_, h2, _⟩)
     ·exact h1
     ·omega
   ·constructor
    ·rintro (⟨h1, h2⟩ | ⟨rfl, h2, h3, h4⟩)
     ·exact ⟨by omega, h2⟩
     ·exact ⟨by omega, hg, by omega, h3, h4⟩
    ·rintro ⟨h1, h2, h3, h4, h5⟩
     by_cases e : w = i
     ·subst e; exact .inr ⟨rfl, by omega, h4, h5⟩
     ·exact .inl ⟨by omega, h2, h3, h4, h5⟩
  ·rw [if_neg hg]
   refine ha.congr (fun w v => ?_)
   constructor
   ·rintro ⟨h1, h2⟩; exact ⟨by omega, h2⟩
   ·rintro ⟨h1, h2, h3⟩
    by_cases e : w = i
    ·subst e; exact absurd h2 hg
    ·exact ⟨by omega, h2, h3⟩
theorem amW_spec (g h : Nat → Bool) (t : Sp) : AmIs t (fun w v => w < 401 ∧ g w = true ∧ v ≤ w ∧ h v = true ∧ (v : Int) < hiS t w) (amW g h t 401 0 ⟨-1, -1⟩) := by
 have h0 := amW_is g h t 401 0 ⟨-1, -1⟩ ⟨fun w v hp => by omega, .inl ⟨rfl, fun w v hp => by omega⟩⟩
 exact h0.congr fun w v => by rw [Nat.zero_add]
theorem thN_le (t x y : Sp) : ∀ n : Nat, thN t x y n ≤ 400 ∧ (∀ j : Nat, j < n → thN t x y n ≤ max 1 (loS t (x.lo + j) - min y.hi (hiS t (x.lo + j) - 1))) ∧ (thN t x y n = 400 ∨ ∃ j : Nat, j < n ∧ thN t x y n = max 1 (loS t (x.lo + j) - min y.hi (hiS t (x.lo + j) - 1)))
 | 0 => ⟨Int.le_refl _, fun j h => by omega, .inl rfl⟩
 | n + 1 => by
  obtain ⟨h1, h2, h3⟩ := thN_le t x y n; rw [thN_succ]
  generalize thN t x y n = a at *
  unfold thStep
  refine ⟨by omega, fun j hj => ?_, ?_⟩
  ·by_cases e : j = n
   ·subst e; omega
   ·have := h2 j (by omega); omega
  ·by_cases c : a ≤ max 1 (loS t (x.lo + n) - min y.hi (hiS t (x.lo + n) - 1))
   ·rw [show min a (max 1 (loS t (x.lo + n) - min y.hi (hiS t (x.lo + n) - 1))) = a by omega]
    rcases h3 with h3 | ⟨j, hj, h3⟩
    ·exact .inl h3
    ·exact .inr ⟨j, by omega, h3⟩
   ·exact .inr ⟨n, by omega, by omega⟩
theorem amW_span (g h : Nat → Bool) (t x y : Sp) (ht : stB t) (hx : fullS x) (hy : fullS y) (hg : ∀ w : Nat, w ≤ 400 → (g w = true ↔ inS x (w : Int))) (hh : ∀ w : Nat, w ≤ 400 → (h w = true ↔ inS y (w : Int))) (hxy : ∀ w : Int, inS x w → y.lo + 1 ≤ hiS t w) :
  amW g h t 401 0 ⟨-1, -1⟩ = ⟨thN t x y (x.hi + 1 - x.lo).toNat, hiS t x.hi - y.lo⟩ := by
 obtain ⟨s1, s2⟩ := amW_spec g h t; obtain ⟨n1, n2, n3⟩ := thN_le t x y (x.hi + 1 - x.lo).toNat
 unfold fullS at hx hy
 have hval : ∀ w v : Nat, (w < 401 ∧ g w = true ∧ v ≤ w ∧ h v = true ∧ (v : Int) < hiS t w) ↔ inS x (w : Int) ∧ inS y (v : Int) ∧ (v : Int) < hiS t w := by
  intro w v
  constructor
  ·rintro ⟨h1, h2, h3, h4, h5⟩
   exact ⟨(hg w (by omega)).1 h2, (hh v (by omega)).1 h4, h5⟩
  ·rintro ⟨h1, h2, h3⟩
   have h4 := hiS_le ht (w := (w : Int)) (by omega)
   unfold inS at h1 h2
   exact ⟨by omega, (hg w (by omega)).2 h1, by omega, (hh v (by omega)).2 h2, h3⟩
 generalize amW g h t 401 0 ⟨-1, -1⟩ = a at *
 obtain ⟨xl, hxl⟩ : ∃ n : Nat, x.lo = (n : Int) := ⟨x.lo.toNat, by omega⟩; obtain ⟨xh, hxh⟩ : ∃ n : Nat, x.hi = (n : Int) := ⟨x.hi.toNat, by omega⟩; obtain ⟨yl, hyl⟩ : ∃ n : Nat, y.lo = (n : Int) := ⟨y.lo.toNat, by omega⟩
 have ph : inS x (xh : Int) ∧ inS y (yl : Int) ∧ (yl : Int) < hiS t (xh : Int) := by
  have := hxy (xh : Int) (by unfold inS; omega)
  unfold inS
  omega
 have ha := s1 xh yl ((hval _ _).2 ph)
 rcases s2 with ⟨_, s2⟩ | ⟨⟨w1, v1, p1, e1⟩, w2, v2, p2, e2⟩
 ·exact absurd ((hval _ _).2 ph) (s2 _ _)
 ·have q1 := (hval _ _).1 p1
  have q2 := (hval _ _).1 p2
  have hhi : a.hi = hiS t x.hi - y.lo := by
   have m2 := hiS_mono ht (w := (w2 : Int)) (w' := x.hi) q2.1.2; have := q2.2.1.1; rw [hxh] at m2 ⊢; omega
  have best : ∀ j : Nat, j < (x.hi + 1 - x.lo).toNat → a.lo ≤ max 1 (loS t (x.lo + j) - min y.hi (hiS t (x.lo + j) - 1)) := by
   intro j hj
   have hin : inS x (x.lo + j) := by unfold inS; omega
   have hb := hxy _ hin; have h0 := hiS_le ht (w := x.lo + (j : Int)) (by omega); obtain ⟨v, hv⟩ : ∃ v : Nat, min y.hi (hiS t (x.lo + j) - 1) = (v : Int) := ⟨(min y.hi (hiS t (x.lo + j) - 1)).toNat, by omega⟩
   have ew : x.lo + (j : Int) = ((xl + j : Nat) : Int) := by omega
   rw [ew] at hin hb h0 hv ⊢; have := s1 (xl + j) v ((hval _ _).2 ⟨hin, by unfold inS; omega, by omega⟩); rw [hv]; omega
  have hlo : a.lo = thN t x y (x.hi + 1 - x.lo).toNat := by
   have l1 : thN t x y (x.hi + 1 - x.lo).toNat ≤ a.lo := by
    have hi1 := q1.1
    unfold inS at hi1
    have := n2 (w1 - xl) (by omega); rw [show x.lo + ((w1 - xl : Nat) : Int) = (w1 : Int) by omega] at this; have := q1.2.1.2; omega
   have l2 : a.lo ≤ thN t x y (x.hi + 1 - x.lo).toNat := by
    rcases n3 with n3 | ⟨j, hj, n3⟩
    ·rw [n3]
     have hi1 := q1.1
     unfold inS at hi1
     have g1 := loS_hiS ht (w := (w1 : Int)) (by omega); have g2 := hiS_le ht (w := (w1 : Int)) (by omega); omega
    ·rw [n3]
     exact best j hj
   omega
  cases a
  simp only at hlo hhi; rw [hlo, hhi]
theorem amW_no (g h : Nat → Bool) (t : Sp) (hg : ∀ w : Nat, w ≤ 400 → g w = false) : amW g h t 401 0 ⟨-1, -1⟩ = ⟨-1, -1⟩ := by
 obtain ⟨_, s2⟩ := amW_spec g h t
 rcases s2 with ⟨s2, _⟩ | ⟨⟨w1, v1, p1, _⟩, _⟩
 ·exact s2
 ·rw [hg w1 (by omega)] at p1
  exact absurd p1.2.1 (by simp)
theorem fu_up {st : List Sp} {wg : List Wg} {th : Int} (d p v : Nat) (h : fuB st wg th d (p + 1) v = true) : ∃ w : Nat, w ≤ 400 ∧ fuB st wg th (d + 1) p w = true := by
 have h1 : fwB st wg th (p + 1) v = true := by
  cases d with
  | zero => exact h
  | succ d => rw [fuB, Bool.and_eq_true] at h; exact h.1
 rw [fwB, Bool.and_eq_true, List.any_eq_true] at h1; obtain ⟨_, w, hw, h2⟩ := h1; have hw4 := List.mem_range.1 hw; simp only [Bool.and_eq_true, decide_eq_true_eq] at h2; refine ⟨w, by omega, ?_⟩; rw [fuB, Bool.and_eq_true, List.any_eq_true]; exact ⟨h2.1.2, v, List.mem_range.2 (by omega), by rw [Bool.and_eq_true]; exact ⟨h, h2.2⟩⟩
theorem fu_top {st : List Sp} {wg : List Wg} {th : Int} : ∀ (p d v : Nat), v ≤ 400 → fuB st wg th d p v = true → ∃ w : Nat, w ≤ 400 ∧ fuB st wg th (d + p) 0 w = true
 | 0, d, v, hv, h => ⟨v, hv, h⟩
 | p + 1, d, v, hv, h => by
  obtain ⟨w, hw, h1⟩ := fu_up d p v h; obtain ⟨x, hx, h2⟩ := fu_top p (d + 1) w hw h1; exact ⟨x, hx, by rw [show d + (p + 1) = d + 1 + p by omega]; exact h2⟩
section
variable (st : List S41) (wg : List S80)
theorem Amount_v (hok : RdOk (toSt st) (toWg wg)) (s : Nat) (hs : s < st.length) (R : Nat → Nat → Bool) (w : Nat) (hw : w ≤ 400) (hR : R s w = true) (r : Int × Int) : ∀ (d i : Nat) (a : Sp), i + d = w + 1 →
  Ev (fun k => rf_Amount.l0 k (s : Int) (rowsL (st.length + 1) R) ((w + 1 : Nat) : Int) st wg (amV (R (s + 1)) (rdS (toSt st) s) w d i a).lo (amV (R (s + 1)) (rdS (toSt st) s) w d i a).hi) r →
  Ev (fun k => rf_Amount.l1 k (s : Int) (rowsL (st.length + 1) R) (w : Int) (i : Int) st wg a.lo a.hi) r
 | 0, i, a, hd, h => by
  refine Ev.up ?_; simp only [rf_Amount.l1, if_neg (show ¬ (i : Int) ≤ (w : Int) by omega)]; refine Ev.up ?_; simp only [rf_Amount.j2, Bool.false_eq_true, if_false, wi w (by omega)]; exact h
 | d + 1, i, a, hd, h => by
  have hlen := hok.len; rw [toSt_len] at hlen; have hv := hok.at (s : Int) (by omega) (by rw [toSt_len]; omega)
  have er : rdS (toSt st) (s : Int) = ⟨st[s].f0, st[s].f1⟩ := by rw [rdS_nat _ _ (by rw [toSt_len]; exact hs), toSt_get st s hs]
  have e1 := Least_f (rdS (toSt st) (s : Int)) hv (w : Int) (by omega); have e2 := Greatest_f (rdS (toSt st) (s : Int)) hv (w : Int) (by omega); have e3 := Step_f st wg hok (s : Int) s w i hs hw; rw [beq_self_eq_true] at e3; rw [show stpB (toSt st) (s : Int) s w i = decide ((i : Int) < hiS (rdS (toSt st) (s : Int)) w) by unfold stpB; rw [if_pos rfl]] at e3; have g1 := loS_nn hv (w := (w : Int)) (by omega); have g2 := loS_hiS hv (w := (w : Int)) (by omega); have g3 := hiS_le hv (w := (w : Int)) (by omega); rw [amV] at h; refine Ev.up ?_; simp only [rf_Amount.l1, if_pos (show (i : Int) ≤ (w : Int) by omega), if_pos (show (0 : Int) ≤ (s : Int) by omega), rowsL_len, if_pos (show (s : Int) < ((st.length + 1 : Nat) : Int) by omega), if_pos (show (0 : Int) ≤ (w : Int) by omega), rowsL_get _ R s (show s < st.length + 1 by omega), T4_len, if_pos (show (w : Int) < ((401 : Nat) : Int) by omega), T4_get (R s) w hw, hR]; refine Ev.up ?_; simp only [rf_Amount.j2, if_true, wi s (by omega), if_pos (show (0 : Int) ≤ ((s + 1 : Nat) : Int) by omega), rowsL_len, if_pos (show ((s + 1 : Nat) : Int) < ((st.length + 1 : Nat) : Int) by omega), if_pos (show (0 : Int) ≤ (i : Int) by omega), rowsL_get _ R (s + 1) (show s + 1 < st.length + 1 by omega), T4_len, if_pos (show (i : Int) < ((401 : Nat) : Int) by omega), T4_get (R (s + 1)) i (by omega), e3, Option.bind_some]
  cases hh : R (s + 1) i
  ·rw [hh] at h
   simp only [Bool.false_and, Bool.false_eq_true, if_false] at h ⊢; refine Ev.up ?_; simp only [rf_Amount.j3, if_true, wi i (by omega)]; exact Amount_v hok s hs R w hw hR r d (i + 1) a (by omega) h
  ·rw [hh] at h
   simp only [Bool.true_and, if_true] at h ⊢
   by_cases hc : (i : Int) < hiS (rdS (toSt st) (s : Int)) w
   ·rw [decide_eq_true hc] at h ⊢
    simp only [if_true] at h; refine Ev.up ?_; have ih := Amount_v hok s hs R w hw hR r d (i + 1) _ (by omega) h; rw [er] at e1 e2 g1 g2 g3 hc ih; simp only at e1 e2; simp only [amU] at ih; simp only [rf_Amount.j3, Bool.not_true, Bool.false_eq_true, if_false, if_pos (show (0 : Int) ≤ (s : Int) by omega), if_pos (show (s : Int) < (st.length : Int) by omega), rdA st s hs, e1, e2, Option.bind_some, wi i (by omega), wr (show -9223372036854775808 ≤ loS ⟨st[s].f0, st[s].f1⟩ (w : Int) - (i : Int) ∧ loS ⟨st[s].f0, st[s].f1⟩ (w : Int) - (i : Int) ≤ 9223372036854775807 by omega), wr (show -9223372036854775808 ≤ hiS ⟨st[s].f0, st[s].f1⟩ (w : Int) - (i : Int) ∧ hiS ⟨st[s].f0, st[s].f1⟩ (w : Int) - (i : Int) ≤ 9223372036854775807 by omega), mx_max]
    by_cases c1 : a.lo < 0
    ·simp only [if_pos c1] at ih ⊢
     exact ih
    ·simp only [if_neg c1] at ih ⊢
     by_cases c2 : max 1 (loS ⟨st[s].f0, st[s].f1⟩ (w : Int) - (i : Int)) < a.lo
     ·simp only [if_pos c2] at ih ⊢
      exact ih
     ·simp only [if_neg c2] at ih ⊢
      exact ih
   ·rw [decide_eq_false hc] at h ⊢
    simp only [Bool.false_eq_true, if_false] at h; refine Ev.up ?_; simp only [rf_Amount.j3, Bool.not_false, if_true, wi i (by omega)]; exact Amount_v hok s hs R w hw hR r d (i + 1) a (by omega) h
theorem Amount_l0 (hok : RdOk (toSt st) (toWg wg)) (s : Nat) (hs : s < st.length) (R : Nat → Nat → Bool) : ∀ (d i : Nat) (a : Sp), i + d = 401 →
  Ev (fun k => rf_Amount.l0 k (s : Int) (rowsL (st.length + 1) R) (i : Int) st wg a.lo a.hi) ((amW (R s) (R (s + 1)) (rdS (toSt st) s) d i a).lo, (amW (R s) (R (s + 1)) (rdS (toSt st) s) d i a).hi)
 | 0, i, a, hd => by
  refine Ev.up ?_; simp only [rf_Amount.l0, if_neg (show ¬ (i : Int) ≤ 400 by omega)]; exact Ev.now _
 | d + 1, i, a, hd => by
  have ih := Amount_l0 hok s hs R d (i + 1); have hlen := hok.len; rw [toSt_len] at hlen; rw [amW]; refine Ev.up ?_; simp only [rf_Amount.l0, if_pos (show (i : Int) ≤ 400 by omega)]
  cases hR : R s i
  ·simp only [Bool.false_eq_true, if_false]
   refine Ev.up ?_; simp only [rf_Amount.l1, if_pos (show (0 : Int) ≤ (i : Int) by omega), if_pos (show (0 : Int) ≤ (s : Int) by omega), rowsL_len, if_pos (show (s : Int) < ((st.length + 1 : Nat) : Int) by omega), rowsL_get _ R s (show s < st.length + 1 by omega), T4_len, if_pos (show (i : Int) < ((401 : Nat) : Int) by omega), T4_get (R s) i (show i ≤ 400 by omega), hR]; refine Ev.up ?_; simp only [rf_Amount.j2, Bool.false_eq_true, if_false, wi i (by omega)]; exact ih a (by omega)
  ·simp only [if_true]
   exact Amount_v st wg hok s hs R i (by omega) hR _ (i + 1) 0 a (by omega) (ih _ (by omega))
def amR (st : List Sp) (wg : List Wg) (s : Nat) : Sp := if thOk st wg s then thAmt st wg s else ⟨-1, -1⟩
theorem Amount_f (hok : RdOk (toSt st) (toWg wg)) (h5 : st.length ≤ 500) (hl : wg.length ≤ 1000) (s : Nat) (hs : s < st.length) : Ev (fun k => rf_Amount.f k st wg (s : Int)) ((amR (toSt st) (toWg wg) s).lo, (amR (toSt st) (toWg wg) s).hi) := by
 unfold rf_Amount.f
 refine Ev.bind (Sets_f st wg (s : Int) hok hl h5) ?_; have h0 := Amount_l0 st wg hok s hs (fun q => fuB (toSt st) (toWg wg) s (st.length - q) q) 401 0 ⟨-1, -1⟩ (by omega)
 have hs' : s < (toSt st).length := by rw [toSt_len]; exact hs
 have key : amW (fuB (toSt st) (toWg wg) s (st.length - s) s) (fuB (toSt st) (toWg wg) s (st.length - (s + 1)) (s + 1)) (rdS (toSt st) s) 401 0 ⟨-1, -1⟩ = amR (toSt st) (toWg wg) s := by
  unfold amR
  cases ht : thOk (toSt st) (toWg wg) s
  ·simp only [Bool.false_eq_true, if_false]
   refine amW_no _ _ _ (fun w hw => ?_); rw [← Bool.not_eq_true]; intro hf; obtain ⟨x, hx, h1⟩ := fu_top s _ w hw hf; rw [show st.length - s + s = (toSt st).length by rw [toSt_len]; omega] at h1; rw [(th_is hok hs').2 ⟨x, hx, h1⟩] at ht
   cases ht
  ·simp only [if_true]
   have h35 := (th_ok hs').1 ht; have ok5 := rd5_ok hok hs'; have hin := th_in hok hs' ht; rw [toSt_len] at hin h35
   have full : ∀ q : Nat, q ≤ st.length → fullS (rdS (thL5 (toSt st) (toWg wg) s) (q : Int)) := by
    intro q hq; have h1 := h35.2 q hq; have h2 := ok5 q
    unfold okS at h2
    unfold fullS
    omega
   refine amW_span _ _ _ _ _ (hok.at (s : Int) (by omega) (by omega)) (full s (by omega)) (full (s + 1) (by omega)) (hin s (by omega)) (hin (s + 1) (by omega)) (fun w hw => ?_); have hw' := hw; rw [th5_at hs', thX, trimLo_in (hok.at (s : Int) (by omega) (by omega)) _ 402 _ (ok_len (comeAt_ok hok s (by omega)))] at hw; rw [th5_gt hs' (s + 1) (by omega)]; exact hw.2
 rw [← key]; exact h0
theorem thN_pos (t x y : Sp) (n : Nat) : 0 ≤ thN t x y n := by
 obtain ⟨_, _, h | ⟨j, _, h⟩⟩ := thN_le t x y n <;> omega
theorem WoolWheres_ev (a1 : Int) : Ev (fun k => lw_WoolWheres.f k st wg a1) true := by
 unfold lw_WoolWheres.f
 simp only [long_f, Option.bind_some]
 by_cases hlong : (st.length : Int) > 10 ∨ (wg.length : Int) > 12
 ·simp only [hlong, decide_true, if_true, known_f, Option.bind_some]
  exact Ev.now _
 ·simp only [hlong, decide_false, Bool.false_eq_true, if_false]
  simp only [Copy_f st wg (by omega) (by omega), Option.bind_some, wool_Where.f, wool_Amount.f]; refine Ev.bind (Same_f st wg (by omega) (by omega)) ?_; simp only [if_true]; refine Ev.bind (Stolen_f (by omega) (by omega)) ?_; simp only [if_true]
  have last : Ev (fun k => lw_WoolWheres.j0 k a1 (amE (toSt st) (toWg wg) a1) false st wg (amS (toSt st) (toWg wg) a1).lo (amS (toSt st) (toWg wg) a1).hi) true := by
   refine Ev.up ?_; simp only [lw_WoolWheres.j0, Bool.false_eq_true, if_false]; refine Ev.bind (Check_f st wg (by omega) (by omega)) ?_
   by_cases he : roadE (toSt st) (toWg wg) = 0
   ·have hrk := road_ok he
    have hok := hrk.1; have hlen := hrk.2; rw [toSt_len] at hlen; simp only [he, if_true, In_f, Option.bind_some, wr (show -9223372036854775808 ≤ (st.length : Int) - 1 ∧ (st.length : Int) - 1 ≤ 9223372036854775807 by omega)]
    cases hin : inB 0 ((st.length : Int) - 1) [a1]
    ·have e1 : amE (toSt st) (toWg wg) a1 = 7 := by simp [amE, he, toSt_len, hin]
     have e2 : amS (toSt st) (toWg wg) a1 = ⟨0, 0⟩ := by rw [amS, e1]; rfl
     refine Ev.up ?_; simp only [lw_WoolWheres.j1, Bool.not_false, if_true]; refine Ev.up ?_; simp only [lw_WoolWheres.j2, if_neg (show ¬ (7 : Int) = 0 by omega), e1, e2, if_true, beq_self_eq_true, Bool.and_self, known_f, Option.bind_some]; exact Ev.now _
    ·have hin2 := (inB_one _ _ _).1 hin
     obtain ⟨s, rfl⟩ : ∃ s : Nat, a1 = (s : Int) := ⟨a1.toNat, by omega⟩
     have hs : s < st.length := by omega
     refine Ev.up ?_; simp only [lw_WoolWheres.j1, Bool.not_true, Bool.false_eq_true, if_false]; refine Ev.up ?_; simp only [lw_WoolWheres.j2, if_true]; refine Ev.bind (Amount_f st wg hok (by omega) (by omega) s hs) ?_
     cases ht : thOk (toSt st) (toWg wg) s
     ·have e0 : amR (toSt st) (toWg wg) s = ⟨-1, -1⟩ := by rw [amR, ht]; rfl
      have e1 : amE (toSt st) (toWg wg) (s : Int) = 9 := by simp [amE, he, toSt_len, hin, ht]
      have e2 : amS (toSt st) (toWg wg) (s : Int) = ⟨0, 0⟩ := by rw [amS, e1]; rfl
      simp only [e0, e1, e2, if_neg (show ¬ (-1 : Int) ≥ 0 by omega), if_true, beq_self_eq_true, Bool.and_self, known_f, Option.bind_some]; exact Ev.now _
     ·have e0 : amR (toSt st) (toWg wg) s = thAmt (toSt st) (toWg wg) s := by rw [amR, ht]; rfl
      have e1 : amE (toSt st) (toWg wg) (s : Int) = 0 := by simp [amE, he, toSt_len, hin, ht]
      have e2 : amS (toSt st) (toWg wg) (s : Int) = thAmt (toSt st) (toWg wg) s := by rw [amS, e1, Int.toNat_natCast]; rfl
      have hp : (thAmt (toSt st) (toWg wg) s).lo ≥ 0 := thN_pos _ _ _ _; simp only [e0, e1, e2, if_pos hp, if_true, beq_self_eq_true, Bool.and_self, known_f, Option.bind_some]; exact Ev.now _
   ·have e1 : amE (toSt st) (toWg wg) a1 = roadE (toSt st) (toWg wg) := by simp [amE, he]
    have e2 : amS (toSt st) (toWg wg) a1 = ⟨0, 0⟩ := by rw [amS, e1, if_neg he]
    simp only [if_neg he]; refine Ev.up ?_; simp only [lw_WoolWheres.j1, Bool.false_eq_true, if_false]; refine Ev.up ?_; simp only [lw_WoolWheres.j2, if_neg he, e1, e2, if_true, beq_self_eq_true, Bool.and_self, known_f, Option.bind_some]; exact Ev.now _
  by_cases ho : owE (toSt st) (toWg wg) = 0
  ·simp only [if_pos ho]
   have hl := whereL_len (toSt st) (toWg wg); rw [toSt_len] at hl
   have hol : (owL (toSt st) (toWg wg)).length ≤ 1000 := by rw [owL, if_pos ho]; omega
   refine Ev.bind (Ints_f _ _ hol) ?_; simp only [decide_true, Bool.not_true]; exact last
  ·have e2 : owL (toSt st) (toWg wg) = [] := by rw [owL, if_neg ho]
   simp only [if_neg ho, e2, List.length_nil, Int.natCast_zero, if_true]; exact last
end
theorem WoolWheres_pure (l0_0 : List (S41)) (l0_1 : List (S80)) (a1 : Int) : ∃ k, lw_WoolWheres.f k l0_0 l0_1 a1 = some true := (WoolWheres_ev l0_0 l0_1 a1).rounds
end Go.Proofs.YtemingmeidmjkaaDoor.Q
namespace Go.Proofs.YtemingmeidmjkaaDoor
open Go.RowKit Go.ChangeShapes Go.Shelf Go.Proofs.YtemingmeidmjkaaDoorW.PrintWords
set_option linter.unusedVariables false
set_option maxRecDepth 100000
theorem glNamed : Tryd.prog.globalNamed "walkmill/wool.all" = some 0 := by kernel_rfl
theorem glType : (Tryd.prog.globals[0]?).map (·.type) = some 100 := by kernel_rfl
theorem cells3 : Tryd.prog.cellsOf 3 = 1 := by kernel_rfl
theorem cellsSome : Tryd.prog.cellsOf 100 = 2 := by kernel_rfl
theorem gl_of_laid {W : World} (h : laidMetH Tryd.prog [("walkmill/wool.all", Rows.laid_walkmill_wool_all)] W) : GL W := by
 have h' : laidMet Tryd.prog [("walkmill/wool.all", Rows.laid_walkmill_wool_all)] W := h; clear h; have h := h'; obtain ⟨ps, ⟨g, t, cs, fuel, p, q, e1, e2, e3, e4, _, _⟩, _⟩ := h; obtain rfl := Option.some.inj (glNamed.symm.trans e1); obtain rfl := Option.some.inj (glType.symm.trans e2); obtain ⟨xs, n, _, hx, hl, hlen, hf⟩ := DataW.trod_struct Tryd.underlying100 e4
 have hcell := fun i => World.var?_cell glNamed e3 i
 have hl2 : cs.toList.length = 2 := by rw [hl]; exact cellsSome
 match xs, hlen with
 | [y0, y1], _ =>
  have f0 := hf 0 _ rfl; have f1 := hf 1 _ rfl; simp only [List.getElem?_cons_zero, List.getElem?_cons_succ] at f0 f1; obtain ⟨a, ha, rfl, _⟩ := DataW.trod_int Tryd.underlying3 f0; obtain ⟨b, hb, rfl, _⟩ := DataW.trod_int Tryd.underlying3 f1; simp only [List.map_cons, List.map_nil, Rows.laid_walkmill_wool_all, Prod.mk.injEq, DataW.agg.injEq, List.cons.injEq, DataW.lit.injEq, Lit.int.injEq, true_and, and_true] at hx; obtain ⟨⟨rfl, rfl⟩, _⟩ := hx
  have hcs : cs = #[.int .i64 0, .int .i64 400] := by
   apply Array.toList_inj.1
   match hc : cs.toList, hl2 with
   | [u, v], _ =>
    rw [hc] at ha hb
    simp [cells3] at ha hb
    rw [ha, hb]
  refine ⟨rfl, by decide, fun _ => ⟨_, rfl, fun j x hj => ?_⟩⟩
  match j, hj with
  | 0, hj =>
   simp only [List.getElem?_cons_zero, Option.some.injEq] at hj; subst hj; refine ⟨[.int .i64 0, .int .i64 400], rfl, kSp_mk _ ⟨0, 400⟩, fun i u hi => ?_⟩; have h9 := hcell i; rw [hcs] at h9; rw [add_plain]; simp only [Nat.zero_mul, Nat.zero_add] at *; rw [h9]
   simpa using hi
def lay0 (w : World) : World := { w with heap := w.heap.modify 0 fun o => match o with
  | .cells _ t frozen => .cells #[.int .i64 0, .int .i64 400] t frozen
  | o => o }
theorem lay0_met (os : Os) (args : Array Value) : laidMetH Tryd.prog [("walkmill/wool.all", Rows.laid_walkmill_wool_all)] ((lay0 (World.holding Tryd.prog os ⟨#[], #[], []⟩)).forCall (fun _ _ => 0) ⟨#[], args, []⟩).memory := by
 show laidMet Tryd.prog [("walkmill/wool.all", Rows.laid_walkmill_wool_all)] _
 exact laidMet_of_run' 8 sqF sqF
end Go.Proofs.YtemingmeidmjkaaDoor
