/- Functions printed by the kit's printer over these walks, and the plain law. No condition. -/
import Derived.Test.YtemingmeidmjkaaDoorX0
import Derived.Test.YtemingmeidmjkaaDoorGWoolWrongs0
import Derived.Test.YtemingmeidmjkaaDoorX2
import Derived.Test.YtemingmeidmjkaaDoorX1
import Derived.Test.YtemingmeidmjkaaDoorX3
import Derived.Test.YtemingmeidmjkaaDoorProg
import Derived.Below
import Derived.Deep.Draws
import Derived.Deep.AppendLies
import Derived.Maps.AppendAt
import Derived.OwnWalk
import Derived.Laws.BytesArg
import Derived.Laws.MakeOwn
import Derived.Laws.OwnMore
import Derived.Deep.OwnRows
import Derived.Tactics
import Derived.Lib.ConvBytes
import Derived.Laws.Slices
import Derived.WalkKit
import Derived.KernelRfl
import Derived.RowKit3
import Derived.Deep.LoopGhost
import Derived.Deep.QuietTactic
import Derived.BigQuiet
import Derived.WideLaws
import Derived.Deep.DeepCutAuto
import Derived.Deep.CutBlock
import Derived.Deep.RegionHeld3
import Derived.Laws.Rows
import Derived.Lib.AppendStr
import Derived.ArgAppend
import Derived.Laws.IdiomCopy
import Derived.OrdersHeld
import Derived.Laws.BitsLemmas
import Derived.RowKit
import Derived.Laws.Bits128
import Derived.ProofKit
import Derived.OpenShut
import Derived.ShutString
import Derived.ChangeOld
import Derived.SizedLaws
import Derived.ChangeArms
import Derived.WideShapes
import Derived.Carry
import Derived.Test.YtemingmeidmjkaaDoorRows
import Derived.LaidLaws
import Derived.LaidHandle
import Derived.Handed
import Derived.ChangeSame
set_option linter.unusedVariables false
set_option linter.unusedSimpArgs false
namespace Go.Proofs.YtemingmeidmjkaaDoor.Q
open Go.RowKit Go.Proofs.YtemingmeidmjkaaDoorW.PrintWords
set_option linter.unusedVariables false
set_option linter.unusedSimpArgs false
def T4 (g : Nat → Bool) : List Bool := (List.range 401).map g
theorem T4_len (g : Nat → Bool) : (T4 g).length = 401 := by simp [T4]
theorem T4_get (g : Nat → Bool) (i : Nat) (h : i ≤ 400) : rdOf false (T4 g) (i : Int) = g i := by
 unfold rdOf T4
 rw [Int.toNat_natCast, List.getD_eq_getElem?_getD, List.getElem?_map, List.getElem?_range (by omega)]; rfl
theorem T4_congr {g h : Nat → Bool} (e : ∀ j, j ≤ 400 → g j = h j) : T4 g = T4 h := List.map_congr_left fun j hj => e j (by have := List.mem_range.1 hj; omega)
theorem T4_set (g : Nat → Bool) (i : Nat) (b : Bool) : (T4 g).set i b = T4 (fun j => if j = i then b else g j) := by
 apply List.ext_getElem?
 intro j; rw [List.getElem?_set, T4_len]
 unfold T4
 rw [List.getElem?_map, List.getElem?_map]
 by_cases hj : j < 401
 ·rw [List.getElem?_range hj]
  by_cases e : i = j
  ·rw [if_pos e, if_pos (by omega)]
   simp [e]
  ·rw [if_neg e]
   simp [show ¬ j = i from fun e' => e e'.symm]
 ·rw [List.getElem?_eq_none (l := List.range 401) (by simpa using hj)]
  by_cases e : i = j
  ·rw [if_pos e, if_neg (by omega)]; rfl
  ·rw [if_neg e]; rfl
def rowsL (n : Nat) (R : Nat → Nat → Bool) : List (List Bool) := (List.range n).map fun p => T4 (R p)
theorem rowsL_len (n : Nat) (R : Nat → Nat → Bool) : (rowsL n R).length = n := by simp [rowsL]
theorem rowsL_get (n : Nat) (R : Nat → Nat → Bool) (p : Nat) (h : p < n) : rd_L9 (rowsL n R) (p : Int) = T4 (R p) := by
 unfold rd_L9 rowsL
 rw [Int.toNat_natCast, List.getD_eq_getElem?_getD, List.getElem?_map, List.getElem?_range h]; rfl
theorem rowsL_set (n : Nat) (R : Nat → Nat → Bool) (p : Nat) (g : Nat → Bool) (h : p < n) : (rowsL n R).set p (T4 g) = rowsL n (fun q => if q = p then g else R q) := by
 apply List.ext_getElem?
 intro j; rw [List.getElem?_set, rowsL_len]
 unfold rowsL
 rw [List.getElem?_map, List.getElem?_map]
 by_cases hj : j < n
 ·rw [List.getElem?_range hj]
  by_cases e : p = j
  ·rw [if_pos e, if_pos (by omega)]
   simp [e]
  ·rw [if_neg e]
   simp [show ¬ j = p from fun e' => e e'.symm]
 ·rw [List.getElem?_eq_none (l := List.range n) (by simpa using hj)]
  by_cases e : p = j
  ·omega
  ·rw [if_neg e]; rfl
theorem rowsL_succ (n : Nat) (R : Nat → Nat → Bool) : rowsL n R ++ [T4 (R n)] = rowsL (n + 1) R := by simp [rowsL, List.range_succ]
theorem rowsL_congr {n : Nat} {R S : Nat → Nat → Bool} (e : ∀ p, p < n → ∀ j, j ≤ 400 → R p j = S p j) : rowsL n R = rowsL n S := List.map_congr_left fun p hp => T4_congr (e p (List.mem_range.1 hp))
def fitB (wg : List Wg) (p w : Int) : Bool := wg.all fun x => !decide (x.p = p) || inB (x.r - x.o) (x.r + x.o) [w]
theorem fitB_iff (wg : List Wg) (p w : Int) : fitB wg p w = true ↔ ∀ x ∈ wg, x.p = p → x.r - x.o ≤ w ∧ w ≤ x.r + x.o := by
 unfold fitB
 simp only [List.all_eq_true, Bool.or_eq_true, Bool.not_eq_true', decide_eq_false_iff_not, inB_one]
 exact ⟨fun h x hx hp => (h x hx).resolve_left (fun hn => hn hp), fun h x hx => by
  by_cases e : x.p = p
  ·exact .inr (h x hx e)
  ·exact .inl e⟩
theorem seen_in (p w : Int) : ∀ (wg : List Wg) (s : Sp), inS (wg.foldl (seenStep p) s) w ↔ inS s w ∧ ∀ x ∈ wg, x.p = p → x.r - x.o ≤ w ∧ w ≤ x.r + x.o
 | [], s => by simp
 | x :: wg, s => by
  rw [List.foldl_cons, seen_in p w wg]
  unfold seenStep
  by_cases e : x.p = p
  ·rw [if_pos e, inS_and]
   simp only [List.mem_cons, forall_eq_or_imp, e, true_implies]
   unfold inS
   simp only
   constructor
   ·rintro ⟨⟨h1, h2⟩, h3⟩; exact ⟨h1, h2, h3⟩
   ·rintro ⟨h1, h2, h3⟩; exact ⟨⟨h1, h2⟩, h3⟩
  ·rw [if_neg e]
   simp only [List.mem_cons, forall_eq_or_imp, e, false_implies, true_and]
theorem fit_seen (wg : List Wg) (p w : Int) (h : 0 ≤ w ∧ w ≤ 400) : fitB wg p w = true ↔ inS (seenS wg p) w := by
 rw [fitB_iff, seenS, seen_in]; simp only [inS]; exact ⟨fun h1 => ⟨h, h1⟩, fun h1 => h1.2⟩
theorem Fits_l0 (st : List S41) (wg : List S80) (hw : wgOk (toWg wg)) (hl : wg.length ≤ 1000) (p w : Int) : ∀ (d i : Nat), i + d = wg.length → Ev (fun k => rf_Fits.l0 k p w (i : Int) st wg) (fitB (toWg (wg.drop i)) p w)
 | 0, i, h => by
  refine Ev.up ?_; simp only [rf_Fits.l0, if_neg (show ¬ (i : Int) < (wg.length : Int) by omega)]; rw [List.drop_eq_nil_of_le (by omega)]; exact Ev.now _
 | d + 1, i, h => by
  refine Ev.up ?_
  have hi : i < wg.length := by omega
  have hb := hw ⟨wg[i].f0, wg[i].f1, wg[i].f2⟩ (List.mem_map.2 ⟨wg[i], List.getElem_mem hi, rfl⟩); simp only at hb; simp only [rf_Fits.l0, if_pos (show (i : Int) < (wg.length : Int) by omega), if_pos (show (0 : Int) ≤ (i : Int) by omega), wi i (by omega), rdW wg i hi, In_f, Option.bind_some]; rw [wr (x := wg[i].f1 - wg[i].f2) (by omega), wr (x := wg[i].f1 + wg[i].f2) (by omega), List.drop_eq_getElem_cons hi]; have ih := Fits_l0 st wg hw hl p w d (i + 1) (by omega); have e : fitB (toWg (wg[i] :: wg.drop (i + 1))) p w = ((!decide (wg[i].f0 = p) || inB (wg[i].f1 - wg[i].f2) (wg[i].f1 + wg[i].f2) [w]) && fitB (toWg (wg.drop (i + 1))) p w) := rfl; rw [e]
  by_cases hp : wg[i].f0 = p
  ·simp only [hp, if_true, decide_true, Bool.not_true, Bool.false_or]
   cases inB (wg[i].f1 - wg[i].f2) (wg[i].f1 + wg[i].f2) [w]
   ·simp only [Bool.false_eq_true, if_false, Bool.false_and]; exact Ev.now _
   ·simp only [if_true, Bool.true_and]; exact ih
  ·simp only [hp, if_false, decide_false, Bool.not_false, Bool.true_or, Bool.true_and]
   exact ih
theorem Fits_f (st : List S41) (wg : List S80) (hw : wgOk (toWg wg)) (hl : wg.length ≤ 1000) (p w : Int) : Ev (fun k => rf_Fits.f k st wg p w) (fitB (toWg wg) p w) := by
 have h := Fits_l0 st wg hw hl p w wg.length 0 (by omega); rw [List.drop_zero] at h; exact h
def stpB (st : List Sp) (th : Int) (p w v : Nat) : Bool := if (p : Int) = th then decide ((v : Int) < hiS (rdS st p) w) else inB (loS (rdS st p) w) (hiS (rdS st p) w) [(v : Int)]
theorem Step_f (st : List S41) (wg : List S80) (hok : RdOk (toSt st) (toWg wg)) (th : Int) (p w v : Nat) (hp : p < st.length) (hw : w ≤ 400) : rf_Step.f st wg (p : Int) (w : Int) (v : Int) ((p : Int) == th) = some (stpB (toSt st) th p w v) := by
 have hv := hok.at (p : Int) (by omega) (by rw [toSt_len]; omega); have e1 := Least_f (rdS (toSt st) (p : Int)) hv (w : Int) (by omega); have e2 := Greatest_f (rdS (toSt st) (p : Int)) hv (w : Int) (by omega)
 have er : rdS (toSt st) (p : Int) = ⟨st[p].f0, st[p].f1⟩ := by rw [rdS_nat _ _ (by rw [toSt_len]; exact hp), toSt_get st p hp]
 unfold rf_Step.f stpB
 rw [er] at e1 e2 ⊢; simp only at e1 e2; simp only [if_pos (show (0 : Int) ≤ (p : Int) by omega), if_pos (show (p : Int) < (st.length : Int) by omega), rdA st p hp, e1, e2, In_f, Option.bind_some]
 by_cases h : (p : Int) = th
 ·simp [h]
 ·simp [h]
def fwB (st : List Sp) (wg : List Wg) (th : Int) : Nat → Nat → Bool
 | 0, w => fitB wg 0 w
 | p + 1, v => fitB wg ((p + 1 : Nat) : Int) v && (List.range 401).any fun w => decide (v ≤ w) && fwB st wg th p w && stpB st th p w v
def acB (st : List Sp) (wg : List Wg) (th : Int) (p w v : Nat) : Bool := (List.range w).any fun w' => decide (v ≤ w') && fwB st wg th p w' && stpB st th p w' v
theorem acB_succ (st : List Sp) (wg : List Wg) (th : Int) (p w v : Nat) : acB st wg th p (w + 1) v = (acB st wg th p w v || (decide (v ≤ w) && fwB st wg th p w && stpB st th p w v)) := by
 unfold acB
 rw [List.range_succ, List.any_append]
 simp
def fuB (st : List Sp) (wg : List Wg) (th : Int) : Nat → Nat → Nat → Bool
 | 0, p, w => fwB st wg th p w
 | d + 1, p, w => fwB st wg th p w && (List.range (w + 1)).any fun v => fuB st wg th d (p + 1) v && stpB st th p w v
section
variable (st : List S41) (wg : List S80) (hok : RdOk (toSt st) (toWg wg)) (hl : wg.length ≤ 1000) (th : Int) (r : List (List Bool))
theorem Sets_l1 (p : Nat) (x6 : List (List Bool)) (x5 : Int) (g : Nat → Bool)
  (h : Ev (fun k => rf_Sets.l2 k th x5 x6 (p : Int) (T4 fun w => if p = 0 then fitB (toWg wg) 0 w else false) 0 st wg) r) (hok : RdOk (toSt st) (toWg wg)) (hl : wg.length ≤ 1000) : ∀ (d i : Nat), i + d = 401 → Ev (fun k => rf_Sets.l1 k th x5 x6 (p : Int) (T4 fun w => if w < i then (if p = 0 then fitB (toWg wg) 0 w else false) else g w) (i : Int) st wg) r
 | 0, i, hd => by
  refine Ev.up ?_; simp only [rf_Sets.l1, if_neg (show ¬ (i : Int) ≤ 400 by omega)]; rw [T4_congr (h := fun w => if p = 0 then fitB (toWg wg) 0 w else false) (fun j hj => if_pos (show j < i by omega))]; exact h
 | d + 1, i, hd => by
  have ih := Sets_l1 p x6 x5 g h hok hl d (i + 1) (by omega); refine Ev.up ?_
  have e : ∀ b, b = (if p = 0 then fitB (toWg wg) 0 i else false) → (T4 fun w => if w < i then (if p = 0 then fitB (toWg wg) 0 w else false) else g w).set i b = T4 fun w => if w < i + 1 then (if p = 0 then fitB (toWg wg) 0 w else false) else g w := by
   intro b hb; rw [T4_set, hb]; refine T4_congr (fun j hj => ?_)
   by_cases e1 : j = i
   ·rw [if_pos e1, if_pos (show j < i + 1 by omega), e1]
   ·rw [if_neg e1]
    by_cases e2 : j < i
    ·rw [if_pos e2, if_pos (show j < i + 1 by omega)]
    ·rw [if_neg e2, if_neg (show ¬ j < i + 1 by omega)]
  simp only [rf_Sets.l1, if_pos (show (i : Int) ≤ 400 by omega), if_pos (show (0 : Int) ≤ (i : Int) by omega), T4_len, if_pos (show (i : Int) < ((401 : Nat) : Int) by omega), wi i (by omega), Int.toNat_natCast]
  by_cases hp : p = 0
  ·subst hp
   simp only [Int.natCast_zero, Int.ofNat_eq_natCast, if_true] at *; refine Ev.bind (Fits_f st wg hok.wgs hl 0 (i : Int)) ?_; rw [e _ rfl]; exact ih
  ·simp only [if_neg (show ¬ (p : Int) = 0 by omega)]
   rw [e false (by rw [if_neg hp])]; exact ih
theorem Sets_l3 (n p : Nat) (x5 : Int) (hp : p < st.length) (w : Nat) (hw : w ≤ 400) (hok : RdOk (toSt st) (toWg wg))
  (h : Ev (fun k => rf_Sets.l2 k th x5 (rowsL (p + 1) (fwB (toSt st) (toWg wg) th)) ((p + 1 : Nat) : Int) (T4 (acB (toSt st) (toWg wg) th p (w + 1))) ((w + 1 : Nat) : Int) st wg) r) (hf : fwB (toSt st) (toWg wg) th p w = true) :
  ∀ (d i : Nat), i + d = w + 1 → Ev (fun k => rf_Sets.l3 k th x5 (rowsL (p + 1) (fwB (toSt st) (toWg wg) th)) ((p + 1 : Nat) : Int) (T4 fun v => if v < i then acB (toSt st) (toWg wg) th p (w + 1) v else acB (toSt st) (toWg wg) th p w v) (w : Int) (i : Int) st wg) r
 | 0, i, hd => by
  refine Ev.up ?_; simp only [rf_Sets.l3, if_neg (show ¬ (i : Int) ≤ (w : Int) by omega), wi w (by omega)]
  rw [T4_congr (h := acB (toSt st) (toWg wg) th p (w + 1)) (fun j hj => by
   by_cases e1 : j < i
   ·rw [if_pos e1]
   ·rw [if_neg e1, acB_succ, decide_eq_false (show ¬ j ≤ w by omega)]; simp)]
  exact h
 | d + 1, i, hd => by
  have ih := Sets_l3 n p x5 hp w hw hok h hf d (i + 1) (by omega); refine Ev.up ?_
  have e1 : wrap64 (((p + 1 : Nat) : Int) - 1) = (p : Int) := by
   have := hok.len; rw [toSt_len] at this; rw [wr (by omega)]; omega
  have e : ∀ b, b = acB (toSt st) (toWg wg) th p (w + 1) i → (T4 fun v => if v < i then acB (toSt st) (toWg wg) th p (w + 1) v else acB (toSt st) (toWg wg) th p w v).set i b = T4 fun v => if v < i + 1 then acB (toSt st) (toWg wg) th p (w + 1) v else acB (toSt st) (toWg wg) th p w v := by
   intro b hb; rw [T4_set, hb]; refine T4_congr (fun j hj => ?_)
   by_cases e1 : j = i
   ·rw [if_pos e1, if_pos (show j < i + 1 by omega), e1]
   ·rw [if_neg e1]
    by_cases e2 : j < i
    ·rw [if_pos e2, if_pos (show j < i + 1 by omega)]
    ·rw [if_neg e2, if_neg (show ¬ j < i + 1 by omega)]
  have ea : acB (toSt st) (toWg wg) th p (w + 1) i = (acB (toSt st) (toWg wg) th p w i || stpB (toSt st) th p w i) := by
   rw [acB_succ, hf, decide_eq_true (show i ≤ w by omega)]; simp
  simp only [rf_Sets.l3, if_pos (show (i : Int) ≤ (w : Int) by omega), e1, if_pos (show (0 : Int) ≤ (p : Int) by omega), rowsL_len, if_pos (show (p : Int) < ((p + 1 : Nat) : Int) by omega), if_pos (show (0 : Int) ≤ (w : Int) by omega), rowsL_get (p + 1) _ p (by omega), T4_len, if_pos (show (w : Int) < ((401 : Nat) : Int) by omega), T4_get _ w hw, hf, if_true, if_pos (show (0 : Int) ≤ (i : Int) by omega), if_pos (show (i : Int) < ((401 : Nat) : Int) by omega), T4_get _ i (show i ≤ 400 by omega), if_neg (show ¬ i < i by omega), wi i (by omega), Int.toNat_natCast]
  cases ha : acB (toSt st) (toWg wg) th p w i
  ·simp only [Bool.false_eq_true, if_false]
   simp only [Step_f st wg hok th p w i hp hw, Option.bind_some]; rw [e _ (by rw [ea, ha, Bool.false_or])]; exact ih
  ·simp only [if_true]
   rw [e true (by rw [ea, ha, Bool.true_or])]; exact ih
theorem Sets_l2 (p : Nat) (x5 : Int) (hp : p < st.length) (hok : RdOk (toSt st) (toWg wg))
  (h : Ev (fun k => rf_Sets.l4 k th x5 (rowsL (p + 1) (fwB (toSt st) (toWg wg) th)) ((p + 1 : Nat) : Int) (T4 (acB (toSt st) (toWg wg) th p 401)) 0 st wg) r) :
  ∀ (d w : Nat), w + d = 401 → Ev (fun k => rf_Sets.l2 k th x5 (rowsL (p + 1) (fwB (toSt st) (toWg wg) th)) ((p + 1 : Nat) : Int) (T4 (acB (toSt st) (toWg wg) th p w)) (w : Int) st wg) r
 | 0, w, hd => by
  obtain rfl : w = 401 := by omega
  refine Ev.up ?_; simp only [rf_Sets.l2, if_neg (show ¬ (((401 : Nat)) : Int) ≤ 400 by omega)]; refine Ev.up ?_; simp only [rf_Sets.j3, Bool.false_eq_true, if_false]; exact h
 | d + 1, w, hd => by
  have ih := Sets_l2 p x5 hp hok h d (w + 1) (by omega); refine Ev.up ?_; simp only [rf_Sets.l2, if_pos (show (w : Int) ≤ 400 by omega)]; refine Ev.up ?_; simp only [rf_Sets.j3, decide_eq_true (show ((p + 1 : Nat) : Int) > 0 by omega), if_true]
  cases hf : fwB (toSt st) (toWg wg) th p w
  ·refine Ev.up ?_
   have e1 : wrap64 (((p + 1 : Nat) : Int) - 1) = (p : Int) := by
    have := hok.len; rw [toSt_len] at this; rw [wr (by omega)]; omega
   simp only [rf_Sets.l3, if_pos (show (0 : Int) ≤ (w : Int) by omega), e1, if_pos (show (0 : Int) ≤ (p : Int) by omega), rowsL_len, if_pos (show (p : Int) < ((p + 1 : Nat) : Int) by omega), rowsL_get (p + 1) _ p (by omega), T4_len, if_pos (show (w : Int) < ((401 : Nat) : Int) by omega), T4_get _ w (show w ≤ 400 by omega), hf, Bool.false_eq_true, if_false, wi w (by omega)]; rw [T4_congr (g := acB (toSt st) (toWg wg) th p w) (h := acB (toSt st) (toWg wg) th p (w + 1)) (fun j hj => by rw [acB_succ, hf]; simp)]; exact ih
  ·have h3 := Sets_l3 st wg th r 0 p x5 hp w (by omega) hok ih hf (w + 1) 0 (by omega)
   simp only [show ∀ v, ¬ (v < 0) from fun v => by omega, if_false] at h3; exact h3
theorem Sets_l4 (p : Nat) (x5 : Int) (x6 : List (List Bool)) (hx : x6.length ≤ 1000) (hok : RdOk (toSt st) (toWg wg)) (hl : wg.length ≤ 1000) (g : Nat → Bool) (hp : p ≤ 1000)
  (h : Ev (fun k => rf_Sets.l0 k th x5 (x6 ++ [T4 fun v => g v && fitB (toWg wg) (p : Int) v]) ((p + 1 : Nat) : Int) st wg) r) :
  ∀ (d i : Nat), i + d = 401 → Ev (fun k => rf_Sets.l4 k th x5 x6 (p : Int) (T4 fun v => if v < i then (g v && fitB (toWg wg) (p : Int) v) else g v) (i : Int) st wg) r
 | 0, i, hd => by
  refine Ev.up ?_; simp only [rf_Sets.l4, if_neg (show ¬ (i : Int) ≤ 400 by omega), if_pos (show x6.length < 5864062014805 by omega), wi p (by omega)]; rw [T4_congr (h := fun v => g v && fitB (toWg wg) (p : Int) v) (fun j hj => if_pos (show j < i by omega))]; exact h
 | d + 1, i, hd => by
  have ih := Sets_l4 p x5 x6 hx hok hl g hp h d (i + 1) (by omega); refine Ev.up ?_
  have e : ∀ b, b = (g i && fitB (toWg wg) (p : Int) i) → (T4 fun v => if v < i then (g v && fitB (toWg wg) (p : Int) v) else g v).set i b = T4 fun v => if v < i + 1 then (g v && fitB (toWg wg) (p : Int) v) else g v := by
   intro b hb; rw [T4_set, hb]; refine T4_congr (fun j hj => ?_)
   by_cases e1 : j = i
   ·rw [if_pos e1, if_pos (show j < i + 1 by omega), e1]
   ·rw [if_neg e1]
    by_cases e2 : j < i
    ·rw [if_pos e2, if_pos (show j < i + 1 by omega)]
    ·rw [if_neg e2, if_neg (show ¬ j < i + 1 by omega)]
  simp only [rf_Sets.l4, if_pos (show (i : Int) ≤ 400 by omega), if_pos (show (0 : Int) ≤ (i : Int) by omega), T4_len, if_pos (show (i : Int) < ((401 : Nat) : Int) by omega), T4_get _ i (show i ≤ 400 by omega), if_neg (show ¬ i < i by omega), wi i (by omega), Int.toNat_natCast]
  cases hg : g i
  ·simp only [Bool.false_eq_true, if_false]
   rw [e false (by rw [hg]; rfl)]; exact ih
  ·simp only [if_true]
   refine Ev.bind (Fits_f st wg hok.wgs hl (p : Int) (i : Int)) ?_; rw [e _ (by rw [hg, Bool.true_and])]; exact ih
theorem Sets_l0 (hok : RdOk (toSt st) (toWg wg)) (hl : wg.length ≤ 1000) (hs : st.length ≤ 500)
  (h : Ev (fun k => rf_Sets.l5 k th (rowsL (st.length + 1) (fwB (toSt st) (toWg wg) th)) ((st.length : Int) - 1) st wg) r) :
  ∀ (d p : Nat), p + d = st.length + 1 → Ev (fun k => rf_Sets.l0 k th ((st.length : Int) + 1) (rowsL p (fwB (toSt st) (toWg wg) th)) (p : Int) st wg) r
 | 0, p, hd => by
  obtain rfl : p = st.length + 1 := by omega
  refine Ev.up ?_; simp only [rf_Sets.l0, if_neg (show ¬ ((st.length + 1 : Nat) : Int) < (st.length : Int) + 1 by omega)]; rw [wr (by omega), show (st.length : Int) + 1 - 2 = (st.length : Int) - 1 by omega]; exact h
 | d + 1, p, hd => by
  have ih := Sets_l0 hok hl hs h d (p + 1) (by omega); refine Ev.up ?_; simp only [rf_Sets.l0, if_pos (show (p : Int) < (st.length : Int) + 1 by omega), if_pos (show 401 ≤ 281474976710656 by omega)]
  have e0 : List.replicate 401 false = T4 fun w => if w < 0 then (if p = 0 then fitB (toWg wg) 0 w else false) else false := by
   unfold T4
   rw [List.map_congr_left (g := fun _ => false) (fun j _ => if_neg (show ¬ j < 0 by omega)), List.map_const', List.length_range]
  rw [e0]; refine Sets_l1 st wg th r p (rowsL p (fwB (toSt st) (toWg wg) th)) ((st.length : Int) + 1) (fun _ => false) ?_ hok hl 401 0 (by omega); rw [← rowsL_succ] at ih
  match p, hd, ih with
  | 0, hd, ih =>
   refine Ev.up ?_; simp only [rf_Sets.l2, if_pos (show (0 : Int) ≤ 400 by omega), Int.natCast_zero, Int.ofNat_eq_natCast]; refine Ev.up ?_; simp only [rf_Sets.j3, decide_eq_false (show ¬ ((0 : Int) > 0) by omega), Bool.false_eq_true, if_false, if_true]
   have h4 := Sets_l4 st wg th r 0 ((st.length : Int) + 1) (rowsL 0 (fwB (toSt st) (toWg wg) th)) (by simp [rowsL]) hok hl (fun w => fitB (toWg wg) 0 w) (by omega) (by
    rw [T4_congr (h := fwB (toSt st) (toWg wg) th 0) (fun j hj => by
     show (fitB (toWg wg) 0 j && fitB (toWg wg) ((0 : Nat) : Int) j) = fitB (toWg wg) 0 j
     simp)]
    exact ih) 401 0 (by omega)
   simp only [show ∀ v, ¬ (v < 0) from fun v => by omega, if_false] at h4; exact h4
  | p + 1, hd, ih =>
   have e1 : (T4 fun w => if p + 1 = 0 then fitB (toWg wg) 0 w else false) = T4 (acB (toSt st) (toWg wg) th p 0) := T4_congr (fun j hj => by rw [if_neg (by omega)]; rfl); rw [e1]; refine Sets_l2 st wg th r p ((st.length : Int) + 1) (by omega) hok ?_ 401 0 (by omega)
   have h4 := Sets_l4 st wg th r (p + 1) ((st.length : Int) + 1) (rowsL (p + 1) (fwB (toSt st) (toWg wg) th)) (by rw [rowsL_len]; omega) hok hl (acB (toSt st) (toWg wg) th p 401) (by omega) (by
    rw [T4_congr (h := fwB (toSt st) (toWg wg) th (p + 1)) (fun j hj => by
     rw [Bool.and_comm]
     rfl)]
    exact ih) 401 0 (by omega)
   simp only [show ∀ v, ¬ (v < 0) from fun v => by omega, if_false] at h4; exact h4
end
end Go.Proofs.YtemingmeidmjkaaDoor.Q
namespace Go.Proofs.YtemingmeidmjkaaDoor.Q
open Go.RowKit Go.Proofs.YtemingmeidmjkaaDoorW.PrintWords
set_option linter.unusedVariables false
set_option linter.unusedSimpArgs false
def anF (f : Nat → Bool) : Nat → Nat → Bool
 | 0, _ => false
 | d + 1, i => f i || anF f d (i + 1)
theorem anF_eq (f : Nat → Bool) : ∀ (d i : Nat), anF f d i = (List.range d).any fun t => f (i + t)
 | 0, i => rfl
 | d + 1, i => by
  rw [anF, anF_eq f d (i + 1), List.range_succ_eq_map, List.any_cons, List.any_map]
  congr 1
  congr 1
  funext t
  simp only [Function.comp]; rw [show i + 1 + t = i + (t + 1) by omega]
theorem anF_zero (f : Nat → Bool) (d : Nat) : anF f d 0 = (List.range d).any f := by
 rw [anF_eq]
 congr 1
 funext t
 rw [Nat.zero_add]
def upR (R : Nat → Nat → Bool) (p w : Nat) (b : Bool) : Nat → Nat → Bool := fun q => if q = p then (fun j => if j = w then b else R p j) else R q
section
variable (st : List S41) (wg : List S80) (th : Int) (r : List (List Bool))
theorem Sets_l7 (n p w : Nat) (hn : n = st.length + 1) (hp : p < st.length) (hw : w ≤ 400) (hok : RdOk (toSt st) (toWg wg)) (R : Nat → Nat → Bool) : ∀ (d i : Nat) (c : Bool), i + d = w + 1 → (c = true → R p w = true) →
  Ev (fun k => rf_Sets.l6 k th (rowsL n (upR R p w (R p w && (c || anF (fun v => R (p + 1) v && stpB (toSt st) th p w v) d i)))) (p : Int) ((w + 1 : Nat) : Int) st wg) r →
  Ev (fun k => rf_Sets.l7 k th (rowsL n R) (p : Int) (w : Int) c (i : Int) st wg) r
 | 0, i, c, hd, hc, h => by
  refine Ev.up ?_
  have e : (R p w && (c || anF (fun v => R (p + 1) v && stpB (toSt st) th p w v) 0 i)) = c := by
   cases c
   ·simp [anF]
   ·rw [hc rfl]; rfl
  rw [e] at h; simp only [rf_Sets.l7, if_neg (show ¬ (i : Int) ≤ (w : Int) by omega), if_pos (show (0 : Int) ≤ (p : Int) by omega), rowsL_len, if_pos (show (p : Int) < (n : Int) by omega), if_pos (show (0 : Int) ≤ (w : Int) by omega), rowsL_get n R p (by omega), T4_len, if_pos (show (w : Int) < ((401 : Nat) : Int) by omega), Int.toNat_natCast, T4_set, wi w (by omega)]; rw [rowsL_set n R p _ (by omega)]; exact h
 | d + 1, i, c, hd, hc, h => by
  have hset : ∀ b, (rowsL n R).set p ((T4 (R p)).set w b) = rowsL n (upR R p w b) := by
   intro b; rw [T4_set, rowsL_set n R p _ (by omega)]; rfl
  have hlen := hok.len; rw [toSt_len] at hlen; refine Ev.up ?_; simp only [rf_Sets.l7, if_pos (show (i : Int) ≤ (w : Int) by omega), if_pos (show (0 : Int) ≤ (p : Int) by omega), rowsL_len, if_pos (show (p : Int) < (n : Int) by omega), if_pos (show (0 : Int) ≤ (w : Int) by omega), rowsL_get n R p (by omega), T4_len, if_pos (show (w : Int) < ((401 : Nat) : Int) by omega), Int.toNat_natCast, T4_get _ w hw, wi w (by omega), hset]
  cases hr : R p w
  ·have hcf : c = false := by
    cases c
    ·rfl
    ·rw [hc rfl] at hr; cases hr
   subst hcf; rw [hr] at h; simp only [Bool.false_and] at h; simp only [Bool.false_eq_true, if_false]; exact h
  ·simp only [if_true]
   cases c
   ·simp only [Bool.false_eq_true, if_false, wi p (by omega), if_pos (show (0 : Int) ≤ ((p + 1 : Nat) : Int) by omega), if_pos (show ((p + 1 : Nat) : Int) < (n : Int) by omega), if_pos (show (0 : Int) ≤ (i : Int) by omega), rowsL_get n R (p + 1) (by omega), T4_len, if_pos (show (i : Int) < ((401 : Nat) : Int) by omega), T4_get _ i (show i ≤ 400 by omega), wi i (by omega)]
    rw [hr] at h; simp only [anF, Bool.true_and, Bool.false_or] at h
    cases h2 : R (p + 1) i
    ·simp only [Bool.false_eq_true, if_false]
     refine Sets_l7 n p w hn hp hw hok R d (i + 1) false (by omega) (fun e => by cases e) ?_; rw [hr]; rw [h2] at h
     simpa using h
    ·simp only [if_true, Step_f st wg hok th p w i hp hw, Option.bind_some]
     refine Sets_l7 n p w hn hp hw hok R d (i + 1) _ (by omega) (fun _ => hr) ?_; rw [hr]; rw [h2] at h
     simpa using h
   ·simp only [if_true]
    rw [hr] at h; simp only [Bool.true_or, Bool.and_self] at h; exact h
def bkR (R : Nat → Nat → Bool) (th : Int) (sts : List Sp) (p : Nat) : Nat → Bool := fun w => R p w && (List.range (w + 1)).any fun v => R (p + 1) v && stpB sts th p w v
def atR (R : Nat → Nat → Bool) (th : Int) (sts : List Sp) (p i : Nat) : Nat → Nat → Bool := fun q => if q = p then (fun w => if w < i then bkR R th sts p w else R p w) else R q
theorem Sets_l6 (n p : Nat) (hn : n = st.length + 1) (hp : p < st.length) (hok : RdOk (toSt st) (toWg wg)) (R : Nat → Nat → Bool)
  (h : Ev (fun k => rf_Sets.l5 k th (rowsL n (atR R th (toSt st) p 401)) ((p : Int) - 1) st wg) r) : ∀ (d i : Nat), i + d = 401 → Ev (fun k => rf_Sets.l6 k th (rowsL n (atR R th (toSt st) p i)) (p : Int) (i : Int) st wg) r
 | 0, i, hd => by
  obtain rfl : i = 401 := by omega
  refine Ev.up ?_; have hlen := hok.len; rw [toSt_len] at hlen; simp only [rf_Sets.l6, if_neg (show ¬ ((401 : Nat) : Int) ≤ 400 by omega)]; rw [wr (by omega)]; exact h
 | d + 1, i, hd => by
  have ih := Sets_l6 n p hn hp hok R h d (i + 1) (by omega); refine Ev.up ?_; simp only [rf_Sets.l6, if_pos (show (i : Int) ≤ 400 by omega)]; refine Sets_l7 st wg th r n p i hn hp (by omega) hok (atR R th (toSt st) p i) (i + 1) 0 false (by omega) (fun e => by cases e) ?_
  have e : rowsL n (upR (atR R th (toSt st) p i) p i (atR R th (toSt st) p i p i && (false || anF (fun v => atR R th (toSt st) p i (p + 1) v && stpB (toSt st) th p i v) (i + 1) 0))) = rowsL n (atR R th (toSt st) p (i + 1)) := by
   refine rowsL_congr (fun q hq j hj => ?_)
   have a1 : atR R th (toSt st) p i p i = R p i := by simp [atR]
   have a2 : ∀ v, atR R th (toSt st) p i (p + 1) v = R (p + 1) v := fun v => by simp [atR]
   have a3 : (atR R th (toSt st) p i p i && (false || anF (fun v => atR R th (toSt st) p i (p + 1) v && stpB (toSt st) th p i v) (i + 1) 0)) = bkR R th (toSt st) p i := by
    rw [a1, Bool.false_or, anF_zero]; simp only [a2]; rfl
   rw [a3]
   by_cases e1 : q = p
   ·subst e1
    simp only [upR, if_true, atR]
    by_cases e2 : j = i
    ·subst e2
     simp
    ·rw [if_neg e2]
     by_cases e3 : j < i
     ·rw [if_pos e3, if_pos (show j < i + 1 by omega)]
     ·rw [if_neg e3, if_neg (show ¬ j < i + 1 by omega)]
   ·simp only [upR, if_neg e1, atR]
  rw [e]; exact ih
def gR (sts : List Sp) (wgs : List Wg) (th : Int) (p : Nat) : Nat → Nat → Bool := fun q => if q < p then fwB sts wgs th q else fuB sts wgs th (sts.length - q) q
theorem Sets_l5 (hok : RdOk (toSt st) (toWg wg)) : ∀ (p : Nat), p ≤ st.length → Ev (fun k => rf_Sets.l5 k th (rowsL (st.length + 1) (gR (toSt st) (toWg wg) th p)) ((p : Int) - 1) st wg) (rowsL (st.length + 1) fun q => fuB (toSt st) (toWg wg) th (st.length - q) q)
 | 0, _ => by
  refine Ev.up ?_; simp only [rf_Sets.l5, if_neg (show ¬ (((0 : Nat) : Int) - 1 ≥ 0) by omega)]; rw [rowsL_congr (S := fun q => fuB (toSt st) (toWg wg) th (st.length - q) q) (fun q _ j _ => by simp [gR, toSt_len])]; exact Ev.now _
 | p + 1, hp => by
  have ih := Sets_l5 hok p (by omega); refine Ev.up ?_; rw [show ((p + 1 : Nat) : Int) - 1 = (p : Int) by omega]; simp only [rf_Sets.l5, if_pos (show (p : Int) ≥ 0 by omega)]
  have e : rowsL (st.length + 1) (gR (toSt st) (toWg wg) th (p + 1)) = rowsL (st.length + 1) (atR (gR (toSt st) (toWg wg) th (p + 1)) th (toSt st) p 0) := by
   refine rowsL_congr (fun q _ j _ => ?_)
   unfold atR
   by_cases e1 : q = p
   ·rw [if_pos e1, e1]; simp
   ·rw [if_neg e1]
  rw [e]; refine Sets_l6 st wg th _ (st.length + 1) p rfl (by omega) hok (gR (toSt st) (toWg wg) th (p + 1)) ?_ 401 0 (by omega)
  have e2 : rowsL (st.length + 1) (atR (gR (toSt st) (toWg wg) th (p + 1)) th (toSt st) p 401) = rowsL (st.length + 1) (gR (toSt st) (toWg wg) th p) := by
   refine rowsL_congr (fun q _ j hj => ?_)
   unfold atR
   by_cases e1 : q = p
   ·subst e1
    rw [if_pos rfl]; simp only [if_pos (show j < 401 by omega)]
    unfold bkR gR
    simp only [if_pos (show q < q + 1 by omega), if_neg (show ¬ q + 1 < q + 1 by omega), if_neg (show ¬ q < q by omega), toSt_len]; rw [show st.length - q = (st.length - (q + 1)) + 1 by omega]; rfl
   ·rw [if_neg e1]
    unfold gR
    by_cases e3 : q < p
    ·rw [if_pos e3, if_pos (show q < p + 1 by omega)]
    ·rw [if_neg e3, if_neg (show ¬ q < p + 1 by omega)]
  rw [e2]; exact ih
theorem Sets_f (hok : RdOk (toSt st) (toWg wg)) (hl : wg.length ≤ 1000) (hs : st.length ≤ 500) : Ev (fun k => rf_Sets.f k st wg th) (rowsL (st.length + 1) fun q => fuB (toSt st) (toWg wg) th (st.length - q) q) := by
 unfold rf_Sets.f
 rw [wr (by omega)]; have h5 := Sets_l5 st wg th hok st.length (Nat.le_refl _)
 have e : rowsL (st.length + 1) (gR (toSt st) (toWg wg) th st.length) = rowsL (st.length + 1) (fwB (toSt st) (toWg wg) th) := by
  refine rowsL_congr (fun q hq j _ => ?_)
  unfold gR
  by_cases e1 : q < st.length
  ·rw [if_pos e1]
  ·rw [if_neg e1, toSt_len, show st.length - q = 0 by omega]
   rfl
 rw [e] at h5; exact Sets_l0 st wg th _ hok hl hs h5 (st.length + 1) 0 (by omega)
end
end Go.Proofs.YtemingmeidmjkaaDoor.Q
namespace Go.Proofs.YtemingmeidmjkaaDoor.Q
open Go.RowKit Go.Proofs.YtemingmeidmjkaaDoorW.PrintWords
set_option linter.unusedVariables false
set_option linter.unusedSimpArgs false
theorem trimLo_in {st after : Sp} (h : stB st) (w : Int) : ∀ (n : Nat) (s : Sp), s.hi - s.lo + 1 ≤ n → (inS (trimLo st after n s) w ↔ inS s w ∧ after.lo ≤ hiS st w)
 | 0, s, hn => by
  unfold trimLo inS
  omega
 | n + 1, s, hn => by
  unfold trimLo
  by_cases h1 : s.lo > s.hi
  ·rw [if_pos h1]
   unfold inS
   omega
  ·rw [if_neg h1]
   by_cases h2 : hiS st s.lo < after.lo
   ·rw [if_pos h2, trimLo_in h w n _ (by simp only; omega)]
    unfold inS
    simp only
    constructor
    ·rintro ⟨h3, h4⟩; exact ⟨by omega, h4⟩
    ·rintro ⟨h3, h4⟩
     refine ⟨⟨?_, h3.2⟩, h4⟩
     by_cases e : w = s.lo
     ·rw [e] at h4; omega
     ·omega
   ·rw [if_neg h2]
    constructor
    ·intro h3
     have := hiS_mono h (w := s.lo) (w' := w) h3.1; exact ⟨h3, by omega⟩
    ·exact fun h3 => h3.1
theorem trimHi_in {st after : Sp} (h : stB st) (w : Int) : ∀ (n : Nat) (s : Sp), s.hi - s.lo + 1 ≤ n → (inS (trimHi st after n s) w ↔ inS s w ∧ loS st w ≤ after.hi)
 | 0, s, hn => by
  unfold trimHi inS
  omega
 | n + 1, s, hn => by
  unfold trimHi
  by_cases h1 : s.lo > s.hi
  ·rw [if_pos h1]
   unfold inS
   omega
  ·rw [if_neg h1]
   by_cases h2 : loS st s.hi > after.hi
   ·rw [if_pos h2, trimHi_in h w n _ (by simp only; omega)]
    unfold inS
    simp only
    constructor
    ·rintro ⟨h3, h4⟩; exact ⟨by omega, h4⟩
    ·rintro ⟨h3, h4⟩
     refine ⟨⟨h3.1, ?_⟩, h4⟩
     by_cases e : w = s.hi
     ·rw [e] at h4; omega
     ·omega
   ·rw [if_neg h2]
    constructor
    ·intro h3
     have := loS_mono h (w := w) (w' := s.hi) h3.2; exact ⟨h3, by omega⟩
    ·exact fun h3 => h3.1
theorem ok_len {s : Sp} (h : okS s) : s.hi - s.lo + 1 ≤ ((402 : Nat) : Int) := by
 unfold okS at h
 omega
theorem back_in {st s after : Sp} (h : stB st) (hs : okS s) (w : Int) : inS (backS st s after) w ↔ inS s w ∧ ∃ v, inS after v ∧ loS st w ≤ v ∧ v ≤ hiS st w := by
 unfold backS
 by_cases ha : after.lo > after.hi
 ·rw [if_pos ha]
  constructor
  ·intro h1; unfold inS at h1; omega
  ·rintro ⟨_, v, h1, _⟩; unfold inS at h1; omega
 ·rw [if_neg ha, trimHi_in h w 402 _ (ok_len (trimLo_ok _ _ _ _ hs)), trimLo_in h w 402 _ (ok_len hs)]
  constructor
  ·rintro ⟨⟨h1, h2⟩, h3⟩
   have h0 : 0 ≤ w := by unfold okS inS at *; omega
   exact ⟨h1, (meets st after w h h0).2 ⟨by omega, h2, h3⟩⟩
  ·rintro ⟨h1, h2⟩
   have h0 : 0 ≤ w := by unfold okS inS at *; omega
   obtain ⟨_, h3, h4⟩ := (meets st after w h h0).1 h2; exact ⟨⟨h1, h3⟩, h4⟩
theorem on_in {st s : Sp} (h : stB st) (hs : okS s) (v : Int) : inS (onS st s) v ↔ ∃ w, inS s w ∧ loS st w ≤ v ∧ v ≤ hiS st w := by
 by_cases hn : s.lo > s.hi
 ·constructor
  ·intro h1
   unfold onS at h1
   rw [if_pos hn] at h1
   unfold inS at h1
   omega
  ·rintro ⟨w, h1, _⟩
   unfold inS at h1
   omega
 ·exact onS_mem h s (by unfold okS at hs; omega) v
theorem goL_rd : ∀ (ts l : List Sp), l.length = ts.length + 1 → (∀ i : Nat, i < ts.length → rdS (goL ts l) (i : Int) = backS (rdS ts (i : Int)) (rdS l (i : Int)) (rdS (goL ts l) ((i + 1 : Nat) : Int))) ∧ rdS (goL ts l) (ts.length : Int) = rdS l (ts.length : Int)
 | [], l, h => ⟨fun i hi => by simp at hi, by cases l <;> rfl⟩
 | t :: ts, [], h => by simp at h
 | t :: ts, s :: l, h => by
  have hl : l.length = ts.length + 1 := by simpa using h
  obtain ⟨h1, h2⟩ := goL_rd ts l hl
  have sh : ∀ (x : Sp) (m : List Sp) (j : Nat), rdS (x :: m) ((j + 1 : Nat) : Int) = rdS m (j : Int) := fun x m j => by
   unfold rdS
   rw [Int.toNat_natCast, Int.toNat_natCast, List.getD_cons_succ]
  refine ⟨fun i hi => ?_, ?_⟩
  ·match i with
   | 0 =>
    rw [goL, sh]
    have e : (goL ts l).headD z_Sp = rdS (goL ts l) ((0 : Nat) : Int) := by
     cases goL ts l <;> rfl
    rw [e]; rfl
   | i + 1 =>
    rw [goL, sh, sh, sh, sh]; exact h1 i (by simpa using hi)
  ·rw [goL, List.length_cons, sh, sh]
   exact h2
section
variable {st : List Sp} {wg : List Wg}
theorem stp_hon {p w v : Nat} : stpB st (-1) p w v = true ↔ loS (rdS st p) w ≤ v ∧ (v : Int) ≤ hiS (rdS st p) w := by
 unfold stpB
 rw [if_neg (by omega), inB_one]
theorem fw_come (hok : RdOk st wg) : ∀ (p : Nat), p ≤ st.length → ∀ w : Nat, w ≤ 400 → (fwB st wg (-1) p w = true ↔ inS (comeAt st wg p) (w : Int))
 | 0, _, w, hw => fit_seen wg 0 (w : Int) (by omega)
 | p + 1, hp, v, hv => by
  have ih := fw_come hok p (by omega); have ho := comeAt_ok hok p (by omega); have hst := hok.at (p : Int) (by omega) (by omega); rw [comeAt, inS_and, on_in hst ho, fwB, Bool.and_eq_true, fit_seen wg _ (v : Int) (by omega), List.any_eq_true]
  constructor
  ·rintro ⟨h1, w, hw, h2⟩
   have hw4 := List.mem_range.1 hw; simp only [Bool.and_eq_true, decide_eq_true_eq] at h2; exact ⟨⟨(w : Int), (ih w (by omega)).1 h2.1.2, stp_hon.1 h2.2⟩, h1⟩
  ·rintro ⟨⟨w, h1, h2, h3⟩, h4⟩
   have hb : 0 ≤ w ∧ w ≤ 400 := by unfold okS inS at *; omega
   have h5 := hiS_le hst (w := w) hb.1; obtain ⟨m, rfl⟩ : ∃ m : Nat, w = (m : Int) := ⟨w.toNat, by omega⟩; refine ⟨h4, m, List.mem_range.2 (by omega), ?_⟩; simp only [Bool.and_eq_true, decide_eq_true_eq]; exact ⟨⟨by omega, (ih m (by omega)).2 h1⟩, stp_hon.2 ⟨h2, h3⟩⟩
theorem comeL_rd' (st : List Sp) (wg : List Wg) (j : Nat) (h : j ≤ st.length) : rdS (comeL st wg) (j : Int) = comeAt st wg j := by
 rw [rdS_nat _ _ (by rw [comeL_len]; omega)]
 simp [comeL]
theorem honL_okS (hok : RdOk st wg) (p : Nat) (hp : p ≤ st.length) : okS (rdS (honL st wg) (p : Int)) := by
 rw [rdS_nat _ _ (by rw [honL_len]; omega)]; exact goL_ok st (comeL st wg) (comeL_ok hok) _ (List.getElem_mem _)
theorem fu_hon (hok : RdOk st wg) : ∀ (d p : Nat), p + d = st.length → ∀ w : Nat, w ≤ 400 → (fuB st wg (-1) d p w = true ↔ inS (rdS (honL st wg) (p : Int)) (w : Int))
 | 0, p, hp, w, hw => by
  obtain rfl : p = st.length := by omega
  have h := (goL_rd st (comeL st wg) (comeL_len st wg)).2; rw [honL, h, comeL_rd' st wg _ (Nat.le_refl _)]; exact fw_come hok _ (Nat.le_refl _) w hw
 | d + 1, p, hp, w, hw => by
  have ih := fu_hon hok d (p + 1) (by omega); have h := (goL_rd st (comeL st wg) (comeL_len st wg)).1 p (by omega); have hst := hok.at (p : Int) (by omega) (by omega); have ho := comeAt_ok hok p (by omega); have ho2 := honL_okS hok (p + 1) (by omega); rw [honL, h, comeL_rd' st wg p (by omega), back_in hst ho, fuB, Bool.and_eq_true, fw_come hok p (by omega) w hw, List.any_eq_true]
  constructor
  ·rintro ⟨h1, v, hv, h2⟩
   have hv4 := List.mem_range.1 hv; simp only [Bool.and_eq_true] at h2; exact ⟨h1, (v : Int), (ih v (by omega)).1 h2.1, stp_hon.1 h2.2⟩
  ·rintro ⟨h1, v, h2, h3, h4⟩
   have h5 := hiS_le hst (w := (w : Int)) (by omega)
   have hv0 : 0 ≤ v := by
    have : inS (rdS (honL st wg) ((p + 1 : Nat) : Int)) v := h2
    unfold okS inS at *
    omega
   obtain ⟨m, rfl⟩ : ∃ m : Nat, v = (m : Int) := ⟨v.toNat, by omega⟩; refine ⟨h1, m, List.mem_range.2 (by omega), ?_⟩; rw [Bool.and_eq_true]; exact ⟨(ih m (by omega)).2 h2, stp_hon.2 ⟨h3, h4⟩⟩
theorem hon_is (hok : RdOk st wg) : honB st wg = true ↔ ∃ w : Nat, w ≤ 400 ∧ fuB st wg (-1) st.length 0 w = true := by
 have hn : honB st wg = true ↔ ∀ p : Nat, p ≤ st.length → ¬ (rdS (honL st wg) (p : Int)).lo > (rdS (honL st wg) (p : Int)).hi := by
  unfold honB
  rw [Bool.not_eq_true', List.any_eq_false]
  constructor
  ·intro h p hp
   have h1 := h (rdS (honL st wg) (p : Int)) (by rw [rdS_nat _ _ (by rw [honL_len]; omega)]; exact List.getElem_mem _)
   simpa [noneB] using h1
  ·intro h s hs
   obtain ⟨i, hi, rfl⟩ := List.getElem_of_mem hs; have h1 := h i (by rw [honL_len] at hi; omega); rw [rdS_nat _ _ hi] at h1
   simpa [noneB] using h1
 rw [hn]
 constructor
 ·intro h
  have h0 := h 0 (by omega); have ho := honL_okS hok 0 (by omega)
  generalize hs : rdS (honL st wg) ((0 : Nat) : Int) = s at *
  have hb : 0 ≤ s.lo ∧ s.lo ≤ s.hi ∧ s.hi ≤ 400 := by unfold okS at ho; omega
  refine ⟨s.lo.toNat, by omega, (fu_hon hok st.length 0 (by omega) _ (by omega)).2 ?_⟩; rw [hs]
  unfold inS
  omega
 ·rintro ⟨w, hw, h⟩
  have key : ∀ (d p : Nat), p + d = st.length → (∃ w : Nat, w ≤ 400 ∧ fuB st wg (-1) d p w = true) → ∀ q : Nat, p ≤ q → q ≤ st.length → ¬ (rdS (honL st wg) (q : Int)).lo > (rdS (honL st wg) (q : Int)).hi := by
   intro d
   induction d with
   | zero =>
    rintro p hp ⟨w, hw, h⟩ q h1 h2
    obtain rfl : q = p := by omega
    have := (fu_hon hok 0 q (by omega) w hw).1 h
    unfold inS at this
    omega
   | succ d ih =>
    rintro p hp ⟨w, hw, h⟩ q h1 h2
    by_cases e : q = p
    ·subst e
     have := (fu_hon hok (d + 1) q (by omega) w hw).1 h
     unfold inS at this
     omega
    ·rw [fuB, Bool.and_eq_true, List.any_eq_true] at h
     obtain ⟨_, v, hv, h3⟩ := h; have hv4 := List.mem_range.1 hv; rw [Bool.and_eq_true] at h3; exact ih (p + 1) (by omega) ⟨v, by omega, h3.1⟩ q (by omega) h2
  exact fun p hp => key st.length 0 (by omega) ⟨w, hw, h⟩ p (by omega) hp
end
end Go.Proofs.YtemingmeidmjkaaDoor.Q
namespace Go.Proofs.YtemingmeidmjkaaDoor.Q
open Go.RowKit Go.Proofs.YtemingmeidmjkaaDoorW.PrintWords Go.Proofs.YtemingmeidmjkaaDoorW.PrintLast Go.Proofs.YtemingmeidmjkaaDoorW.PrintMore
attribute [local go_sem] max2_int min2_int max_two min_two max_three min_three max_four min_four   -- for this text's walks alone
set_option linter.unusedVariables false
set_option linter.unusedSimpArgs false
mutual
def rf_Ends.l0 : Nat → List Bool → Int → Int → Int → Option (Int × Int)
 | 0, _, _, _, _ => none
 | k + 1, x0, x4, x242000, x242001 => if x4 < (x0.length : Int) then (if 0 ≤ x4 then (if rdOf false x0 x4 = true then (rf_Ends.j1 k x0 x4 (decide (x242000 < 0)) x242000 x242001) else (rf_Ends.j1 k x0 x4 false x242000 x242001)) else (none)) else (some (x242000, x242001))
def rf_Ends.j1 : Nat → List Bool → Int → Bool → Int → Int → Option (Int × Int)
 | 0, _, _, _, _, _ => none
 | k + 1, x0, x4, x20, x242000, x242001 => if x20 = true then (if 0 ≤ x4 then (if x4 < (x0.length : Int) then (if rdOf false x0 x4 = true then (rf_Ends.l0 k x0 (wrap64 (x4 + 1)) x4 x4) else (rf_Ends.l0 k x0 (wrap64 (x4 + 1)) x4 x242001)) else (none)) else (none)) else (if 0 ≤ x4 then (if x4 < (x0.length : Int) then (if rdOf false x0 x4 = true then (rf_Ends.l0 k x0 (wrap64 (x4 + 1)) x242000 x4) else (rf_Ends.l0 k x0 (wrap64 (x4 + 1)) x242000 x242001)) else (none)) else (none))
end
def rf_Ends.f (k : Nat) (l0 : List Bool) : Option (Int × Int) := rf_Ends.l0 k l0 0 (-1) (-1)
set_option maxHeartbeats 8000000 in
set_option maxRecDepth 100000 in
theorem rf_Ends.calls (k : Nat) (A0 : Option Addr) (c0 : Nat) (l0 : List Bool) (r1 : Int) (r2 : Int) (w : World) (hr0 : Kd.C Kd.bool w A0 l0.length l0) (hc0 : l0.length ≤ c0) (h : rf_Ends.f k l0 = some (r1, r2)) :
  Calls Tryd.prog 66 #[.slice A0 l0.length c0] w fun e w' => e = .returned (.agg #[.int .i64 r1, .int .i64 r2]) ∧ Below w.heap.size w w' := by
 have hu41 := Tryd.underlying41; have HR0 := Aside0.mk hr0; have HC0 := Aside0.mk hc0; clear hr0 hc0; have HB := Aside0.mk (Below.refl w.heap.size w); have H : (rf_Ends.l0 k l0 0 (-1) (-1)) = some (r1, r2) := h; clear h; have H' := Aside0.mk H; clear H; go_enter Tryd.func66, Tryd.ntmps66
 go_wp2_with (first | ((with_reducible refine gate_dst (N := 2) rfl ?_); refine box_event ?hg (N := 2) ?hd (cs := #[.int .i64 0, .int .i64 0]) (t := 41) ?hr ?_; (case hd => rfl); (case hg => rfl); (case hr => first | (go_simp; done) | (go_simp; rfl)); intro gb240 hg w2 hbox hb; have BK240 := Aside0.mk (hbox); have GW240 := Aside0.mk (sqZ hg HB); have GE240 := Aside0.mk (sqZ hg HB); replace HB := sqb hb HB; clear hb hbox hg) | ((with_reducible refine gate_dst (N := 3) rfl ?_); refine box_event ?hg (N := 3) ?hd (cs := #[.int .i64 0, .int .i64 0]) (t := 41) ?hr ?_; (case hd => rfl); (case hg => rfl); (case hr => first | (go_simp; done) | (go_simp; rfl)); intro gb241 hg w3 hbox hb; have BK241 := Aside0.mk (hbox); have GW241 := Aside0.mk (sqZ hg HB); have GE241 := Aside0.mk (sqZ hg HB); replace HB := sqb hb HB; have NB240_241 := Aside0.mk (sqL hg BK240); have NB241_240 := Aside0.mk (sqG hg BK240); replace BK240 := sqk BK240 hb; clear hb hbox hg; have hnb4 := NB241_240.out; have hnc4 := NB240_241.out; have hcz5_0 := sqc0 BK241; have hcz5_1 := sqc1 BK241; have hfz5_0 := blk_frozen BK241.out 0; have hfz5_1 := blk_frozen BK241.out 1))
 go_loopg [4] k (fun kq v4 w' => ∃ (x4_1 : Int) (x242000_1 : Int) (x242001_1 : Int), v4 = .int .i64 x4_1 ∧ Aside0 (rf_Ends.l0 kq l0 x4_1 x242000_1 x242001_1 = some (r1, r2)) ∧ Aside0 (kq ≤ k) ∧ Aside0 (w'.heap[gb240]? = some (.cells #[.int .i64 0, .int .i64 0] 41 (0, 0))) ∧ Aside0 (w'.heap[gb241]? = some (.cells #[.int .i64 x242000_1, .int .i64 x242001_1] 41 (0, 0))) ∧ Aside0 (Below w.heap.size w w'))
 case atStart => exact ⟨(0), ((-1)), ((-1)), sqE, H', ⟨Nat.le_refl _⟩, ⟨sqX⟩, ⟨by (with_reducible repeat (first | refine blk_drewN ?_ _ | refine blk_drew ?_ | refine blk_alloc ?_ _)); refine blk_put (cs := #[.int .i64 (-1), .int .i64 0]) ?_ 1 _ rfl; (with_reducible repeat (first | refine blk_drewN ?_ _ | refine blk_drew ?_ | refine blk_alloc ?_ _)); refine blk_put (cs := #[.int .i64 0, .int .i64 0]) ?_ 0 _ rfl; (with_reducible repeat (first | refine blk_drewN ?_ _ | refine blk_drew ?_ | refine blk_alloc ?_ _)); exact BK241.out⟩, ⟨sqB HB⟩⟩
 case round =>
  clear H'; try clear hcz5_0
  (try clear hcz5_1); (try clear hfz5_0); (try clear hfz5_1); obtain ⟨x4_1, x242000_1, x242001_1, rfl, HA, HK1, BK240, BK241, HB⟩ := hrel
  cases gk with
  | zero => exact absurd HA.out (by simp [rf_Ends.l0])
  | succ k1 =>
   have H := HA.out; clear HA; simp only [rf_Ends.l0] at H
   by_cases c6 : x4_1 < (l0.length : Int)
   ·rw [if_pos c6] at H
    have c6b0 : decide (x4_1 < (l0.length : Int)) = true := decide_eq_true c6; clear c6; have HC7 := Aside0.mk H
    clear H; go_upto_region 5 with (fail)
    go_cut [20] (fun v20 wc => ∃ (kq : Nat) (x20_6 : Bool), v20 = .bool x20_6 ∧ Aside0 (rf_Ends.j1 kq l0 x4_1 x20_6 x242000_1 x242001_1 = some (r1, r2)) ∧ Aside0 (kq ≤ k1) ∧ Aside0 (wc.heap[gb240]? = some (.cells #[.int .i64 0, .int .i64 0] 41 (0, 0))) ∧ Aside0 (wc.heap[gb241]? = some (.cells #[.int .i64 x242000_1, .int .i64 x242001_1] 41 (0, 0))) ∧ Aside0 (Below w.heap.size w wc))
    case first =>
     have H := HC7.out; clear HC7
     by_cases c8 : 0 ≤ x4_1
     ·rw [if_pos c8] at H
      have c8b0 : decide (0 ≤ x4_1) = true := decide_eq_true c8; clear c8
      (first | rw [c8b0] | (simp only [i64_w, i32_w]; rw [c8b0]) | skip)
      obtain ⟨bq9, hbq9⟩ : ∃ b_ : Bool, b_ = (rdOf false l0 x4_1) := ⟨_, rfl⟩
      replace H : (if bq9 = true then (rf_Ends.j1 k1 l0 x4_1 (decide (x242000_1 < 0)) x242000_1 x242001_1) else (rf_Ends.j1 k1 l0 x4_1 false x242000_1 x242001_1)) = some (r1, r2) := by rw [← hbq9] at H; exact H
      have Nbq9 := Aside0.mk hbq9; clear hbq9
      by_cases c10 : bq9 = true
      ·subst c10
       rw [if_pos rfl] at H; have H' := Aside0.mk H; clear H; have p242 : 0 ≤ (x4_1 : Int) := sqD; have q242 : x4_1 < (l0.length : Int) := sqD; obtain ⟨ad242, e242, hx242_0⟩ := Kd.at_bool HR0.out x4_1 p242 q242
       (try rw [← Nbq9.out] at hx242_0)
       cases e242
       replace hx242_0 := (HB.out.cell (World.block_lt_of_cell? w _ hx242_0)).trans hx242_0; replace p242 := eq_true p242; replace q242 := eq_true q242; have hnb11 := NB241_240.out; have hnc11 := NB240_241.out; have hcz12_0 := sqc0 BK241; have hcz12_1 := sqc1 BK241; have hfz12_0 := blk_frozen BK241.out 0; have hfz12_1 := blk_frozen BK241.out 1
       go_wp2
       go_meet
       case rel => exact ⟨_, (decide (x242000_1 < 0)), sqE, H', ⟨by have := HK1.out; first | omega | exact Nat.le_refl _⟩, ⟨sqK BK240⟩, ⟨sqK BK241⟩, ⟨sqB HB⟩⟩
      ·replace c10 := Bool.eq_false_iff.mpr c10
       subst c10; rw [if_neg Bool.false_ne_true] at H; have H' := Aside0.mk H; clear H; have p242 : 0 ≤ (x4_1 : Int) := sqD; have q242 : x4_1 < (l0.length : Int) := sqD; obtain ⟨ad242, e242, hx242_0⟩ := Kd.at_bool HR0.out x4_1 p242 q242
       (try rw [← Nbq9.out] at hx242_0)
       cases e242
       replace hx242_0 := (HB.out.cell (World.block_lt_of_cell? w _ hx242_0)).trans hx242_0; replace p242 := eq_true p242; replace q242 := eq_true q242
       go_wp2
       go_meet
       case rel => exact ⟨_, (false), sqE, H', ⟨by have := HK1.out; first | omega | exact Nat.le_refl _⟩, ⟨sqK BK240⟩, ⟨sqK BK241⟩, ⟨sqB HB⟩⟩
     ·rw [if_neg c8] at H
      exact absurd H (by simp)
    case rest =>
     clear HC7; try clear c6b0
     obtain ⟨kq, x20_6, rfl, HA, HJ6, BK240, BK241, HB⟩ := hcut
     cases kq with
     | zero => exact absurd HA.out (by simp [rf_Ends.j1])
     | succ kj6 =>
      have H := HA.out; clear HA; simp only [rf_Ends.j1] at H
      by_cases c13 : x20_6 = true
      ·subst c13
       rw [if_pos rfl] at H
       by_cases c14 : 0 ≤ x4_1
       ·rw [if_pos c14] at H
        have c14b0 : decide (0 ≤ x4_1) = true := decide_eq_true c14; clear c14
        by_cases c15 : x4_1 < (l0.length : Int)
        ·rw [if_pos c15] at H
         have c15b0 : decide (x4_1 < (l0.length : Int)) = true := decide_eq_true c15; clear c15; obtain ⟨bq16, hbq16⟩ : ∃ b_ : Bool, b_ = (rdOf false l0 x4_1) := ⟨_, rfl⟩
         replace H : (if bq16 = true then (rf_Ends.l0 kj6 l0 (wrap64 (x4_1 + 1)) x4_1 x4_1) else (rf_Ends.l0 kj6 l0 (wrap64 (x4_1 + 1)) x4_1 x242001_1)) = some (r1, r2) := by rw [← hbq16] at H; exact H
         have Nbq16 := Aside0.mk hbq16; clear hbq16
         by_cases c17 : bq16 = true
         ·subst c17
          rw [if_pos rfl] at H; have H' := Aside0.mk H; clear H; have hnb18 := NB241_240.out; have hnc18 := NB240_241.out; have hcz19_0 := sqc0 BK241; have hcz19_1 := sqc1 BK241; have hfz19_0 := blk_frozen BK241.out 0; have hfz19_1 := blk_frozen BK241.out 1; have p243 : 0 ≤ (x4_1 : Int) := sqD; have q243 : x4_1 < (l0.length : Int) := sqD; obtain ⟨ad243, e243, hx243_0⟩ := Kd.at_bool HR0.out x4_1 p243 q243
          (try rw [← Nbq16.out] at hx243_0)
          cases e243
          have hn243_0 : ad243.block ≠ gb241 := Nat.ne_of_lt (Nat.lt_of_lt_of_le (by have := World.block_lt_of_cell? _ _ hx243_0; first | rwa [add_block] at this | exact this) GW241.out); replace hx243_0 := (HB.out.cell (World.block_lt_of_cell? w _ hx243_0)).trans hx243_0; replace hx243_0 := (cell_far (p := ⟨gb241, 0, none⟩) (by first | (rw [add_block]; exact hn243_0) | (show (Addr.add _ _).block ≠ _; rw [add_block]; exact hn243_0) | exact hn243_0) (.int .i64 x4_1)).trans hx243_0; clear hn243_0; replace p243 := eq_true p243; replace q243 := eq_true q243
          go_wp2
          go_roundg kj6
          case measure => have := HK1.out; have := HJ6.out; omega
          case rel => exact ⟨(wrap64 (x4_1 + 1)), (x4_1), (x4_1), sqE, H', ⟨by have := HK1.out; have := HJ6.out; omega⟩, ⟨sqX⟩, ⟨by (with_reducible repeat (first | refine blk_drewN ?_ _ | refine blk_drew ?_ | refine blk_alloc ?_ _)); refine blk_put (cs := #[.int .i64 x4_1, .int .i64 x242001_1]) ?_ 1 _ rfl; (with_reducible repeat (first | refine blk_drewN ?_ _ | refine blk_drew ?_ | refine blk_alloc ?_ _)); refine blk_put (cs := #[.int .i64 x242000_1, .int .i64 x242001_1]) ?_ 0 _ rfl; (with_reducible repeat (first | refine blk_drewN ?_ _ | refine blk_drew ?_ | refine blk_alloc ?_ _)); exact BK241.out⟩, ⟨sqB HB⟩⟩
         ·replace c17 := Bool.eq_false_iff.mpr c17
          subst c17; rw [if_neg Bool.false_ne_true] at H; have H' := Aside0.mk H; clear H; have hnb20 := NB241_240.out; have hnc20 := NB240_241.out; have hcz21_0 := sqc0 BK241; have hcz21_1 := sqc1 BK241; have hfz21_0 := blk_frozen BK241.out 0; have hfz21_1 := blk_frozen BK241.out 1; have p243 : 0 ≤ (x4_1 : Int) := sqD; have q243 : x4_1 < (l0.length : Int) := sqD; obtain ⟨ad243, e243, hx243_0⟩ := Kd.at_bool HR0.out x4_1 p243 q243
          (try rw [← Nbq16.out] at hx243_0)
          cases e243
          have hn243_0 : ad243.block ≠ gb241 := Nat.ne_of_lt (Nat.lt_of_lt_of_le (by have := World.block_lt_of_cell? _ _ hx243_0; first | rwa [add_block] at this | exact this) GW241.out); replace hx243_0 := (HB.out.cell (World.block_lt_of_cell? w _ hx243_0)).trans hx243_0; replace hx243_0 := (cell_far (p := ⟨gb241, 0, none⟩) (by first | (rw [add_block]; exact hn243_0) | (show (Addr.add _ _).block ≠ _; rw [add_block]; exact hn243_0) | exact hn243_0) (.int .i64 x4_1)).trans hx243_0; clear hn243_0; replace p243 := eq_true p243; replace q243 := eq_true q243
          go_wp2
          go_roundg kj6
          case measure => have := HK1.out; have := HJ6.out; omega
          case rel => exact ⟨(wrap64 (x4_1 + 1)), (x4_1), (x242001_1), sqE, H', ⟨by have := HK1.out; have := HJ6.out; omega⟩, ⟨sqX⟩, ⟨by (with_reducible repeat (first | refine blk_drewN ?_ _ | refine blk_drew ?_ | refine blk_alloc ?_ _)); refine blk_put (cs := #[.int .i64 x242000_1, .int .i64 x242001_1]) ?_ 0 _ rfl; (with_reducible repeat (first | refine blk_drewN ?_ _ | refine blk_drew ?_ | refine blk_alloc ?_ _)); exact BK241.out⟩, ⟨sqB HB⟩⟩
        ·rw [if_neg c15] at H
         exact absurd H (by simp)
       ·rw [if_neg c14] at H
        exact absurd H (by simp)
      ·replace c13 := Bool.eq_false_iff.mpr c13
       subst c13; rw [if_neg Bool.false_ne_true] at H
       by_cases c22 : 0 ≤ x4_1
       ·rw [if_pos c22] at H
        have c22b0 : decide (0 ≤ x4_1) = true := decide_eq_true c22; clear c22
        by_cases c23 : x4_1 < (l0.length : Int)
        ·rw [if_pos c23] at H
         have c23b0 : decide (x4_1 < (l0.length : Int)) = true := decide_eq_true c23; clear c23; obtain ⟨bq24, hbq24⟩ : ∃ b_ : Bool, b_ = (rdOf false l0 x4_1) := ⟨_, rfl⟩
         replace H : (if bq24 = true then (rf_Ends.l0 kj6 l0 (wrap64 (x4_1 + 1)) x242000_1 x4_1) else (rf_Ends.l0 kj6 l0 (wrap64 (x4_1 + 1)) x242000_1 x242001_1)) = some (r1, r2) := by rw [← hbq24] at H; exact H
         have Nbq24 := Aside0.mk hbq24; clear hbq24
         by_cases c25 : bq24 = true
         ·subst c25
          rw [if_pos rfl] at H; have H' := Aside0.mk H; clear H; have p244 : 0 ≤ (x4_1 : Int) := sqD; have q244 : x4_1 < (l0.length : Int) := sqD; obtain ⟨ad244, e244, hx244_0⟩ := Kd.at_bool HR0.out x4_1 p244 q244
          (try rw [← Nbq24.out] at hx244_0)
          cases e244
          replace hx244_0 := (HB.out.cell (World.block_lt_of_cell? w _ hx244_0)).trans hx244_0; replace p244 := eq_true p244; replace q244 := eq_true q244; have hnb26 := NB241_240.out; have hnc26 := NB240_241.out; have hcz27_0 := sqc0 BK241; have hcz27_1 := sqc1 BK241; have hfz27_0 := blk_frozen BK241.out 0; have hfz27_1 := blk_frozen BK241.out 1
          go_wp2
          go_roundg kj6
          case measure => have := HK1.out; have := HJ6.out; omega
          case rel => exact ⟨(wrap64 (x4_1 + 1)), (x242000_1), (x4_1), sqE, H', ⟨by have := HK1.out; have := HJ6.out; omega⟩, ⟨sqX⟩, ⟨by (with_reducible repeat (first | refine blk_drewN ?_ _ | refine blk_drew ?_ | refine blk_alloc ?_ _)); refine blk_put (cs := #[.int .i64 x242000_1, .int .i64 x242001_1]) ?_ 1 _ rfl; (with_reducible repeat (first | refine blk_drewN ?_ _ | refine blk_drew ?_ | refine blk_alloc ?_ _)); exact BK241.out⟩, ⟨sqB HB⟩⟩
         ·replace c25 := Bool.eq_false_iff.mpr c25
          subst c25; rw [if_neg Bool.false_ne_true] at H; have H' := Aside0.mk H; clear H; have p244 : 0 ≤ (x4_1 : Int) := sqD; have q244 : x4_1 < (l0.length : Int) := sqD; obtain ⟨ad244, e244, hx244_0⟩ := Kd.at_bool HR0.out x4_1 p244 q244
          (try rw [← Nbq24.out] at hx244_0)
          cases e244
          replace hx244_0 := (HB.out.cell (World.block_lt_of_cell? w _ hx244_0)).trans hx244_0; replace p244 := eq_true p244; replace q244 := eq_true q244
          go_wp2
          go_roundg kj6
          case measure => have := HK1.out; have := HJ6.out; omega
          case rel => exact ⟨(wrap64 (x4_1 + 1)), (x242000_1), (x242001_1), sqE, H', ⟨by have := HK1.out; have := HJ6.out; omega⟩, ⟨sqK BK240⟩, ⟨sqK BK241⟩, ⟨sqB HB⟩⟩
        ·rw [if_neg c23] at H
         exact absurd H (by simp)
       ·rw [if_neg c22] at H
        exact absurd H (by simp)
   ·rw [if_neg c6] at H
    have c6b0 : decide (x4_1 < (l0.length : Int)) = false := decide_eq_false c6; clear c6; simp only [Option.some.injEq, Prod.mk.injEq] at H; obtain ⟨rfl, rfl⟩ := H; have hnb28 := NB241_240.out; have hnc28 := NB240_241.out; have hcz29_0 := sqc0 BK241; have hcz29_1 := sqc1 BK241; have hfz29_0 := blk_frozen BK241.out 0; have hfz29_1 := blk_frozen BK241.out 1; have hcz30_0 := sqc0 BK240; have hcz30_1 := sqc1 BK240; have hfz30_0 := blk_frozen BK240.out 0; have hfz30_1 := blk_frozen BK240.out 1
    go_wp2
    refine bodyPost_ret (results_cell_row rfl _ _ gb240 41 #[.int .i64 x242000_1, .int .i64 x242001_1] (0, 0) _ rfl (by (with_reducible repeat (first | refine blk_drewN ?_ _ | refine blk_drew ?_ | refine blk_alloc ?_ _)); refine blk_put (cs := #[.int .i64 x242000_1, .int .i64 0]) ?_ 1 _ rfl; (with_reducible repeat (first | refine blk_drewN ?_ _ | refine blk_drew ?_ | refine blk_alloc ?_ _)); refine blk_put (cs := #[.int .i64 0, .int .i64 0]) ?_ 0 _ rfl; (with_reducible repeat (first | refine blk_drewN ?_ _ | refine blk_drew ?_ | refine blk_alloc ?_ _)); exact BK240.out) Tryd.underlying41 rfl sqF) rfl ?_; exact ⟨by first | rfl | (simp [errW_none, errW_some] <;> rfl) | (simp [*, errW_none, errW_some] <;> rfl), sqB HB⟩
end Go.Proofs.YtemingmeidmjkaaDoor.Q
namespace Go.Proofs.YtemingmeidmjkaaDoor.Q
open Go.RowKit Go.Proofs.YtemingmeidmjkaaDoorW.PrintWords Go.Proofs.YtemingmeidmjkaaDoorW.PrintLast Go.Proofs.YtemingmeidmjkaaDoorW.PrintMore
attribute [local go_sem] max2_int min2_int max_two min_two max_three min_three max_four min_four   -- for this text's walks alone
set_option linter.unusedVariables false
set_option linter.unusedSimpArgs false
def rf_Is.f (k : Nat) (l0 : List (List Bool)) : Option (Bool) := if 0 < (l0.length : Int) then ((rf_Ends.f k (rd_L9 l0 0)).bind fun bt246 => (some (decide (bt246.1 ≥ 0)))) else (none)
set_option maxHeartbeats 8000000 in
set_option maxRecDepth 100000 in
theorem rf_Is.calls (k : Nat) (A0 : Option Addr) (c0 : Nat) (l0 : List (List Bool)) (r : Bool) (w : World) (hr0 : Kd.C (Kd.slice 4 Kd.bool) w A0 l0.length l0) (hc0 : l0.length ≤ c0) (h : rf_Is.f k l0 = some r) :
  Calls Tryd.prog 25 #[.slice A0 l0.length c0] w fun e w' => e = .returned (.bool r) ∧ Below w.heap.size w w' := by
 have HR0 := Aside0.mk hr0; have HC0 := Aside0.mk hc0
 have hfd0_ : ∀ (w_ : World) (a0_ a1_ : Int), (Instr.field 41 (.agg #[.int .i64 a0_, .int .i64 a1_]) 0).run Tryd.prog w_ = .ok (.int .i64 a0_) w_ := by intros; kernel_rfl
 have hfd1_ : ∀ (w_ : World) (a0_ a1_ : Int), (Instr.field 41 (.agg #[.int .i64 a0_, .int .i64 a1_]) 1).run Tryd.prog w_ = .ok (.int .i64 a1_) w_ := by intros; kernel_rfl
 clear hr0 hc0; have HB := Aside0.mk (Below.refl w.heap.size w); have H : (if 0 < (l0.length : Int) then ((rf_Ends.f k (rd_L9 l0 0)).bind fun bt246 => (some (decide (bt246.1 ≥ 0)))) else (none)) = some r := h; clear h
 by_cases c2 : 0 < (l0.length : Int)
 ·rw [if_pos c2] at H
  have c2b0 : decide (0 < (l0.length : Int)) = true := decide_eq_true c2; have c2b1 : decide (0 < l0.length) = true := decide_eq_true (by omega); clear c2; obtain ⟨⟨t246, t247⟩, A30, H⟩ := Option.bind_eq_some_iff.mp H; replace H : (some (decide (t246 ≥ 0))) = some r := H; have A3 := Aside0.mk A30; clear A30; obtain rfl := Option.some.inj H; have p245 : 0 ≤ (0 : Int) := (by omega); have q245 : 0 < (l0.length : Int) := sqD; obtain ⟨ad245, A245_0, c245_0, e245, hx245_0, hl245_0, hi245_0⟩ := at_L9 HR0.out 0 p245 q245
  cases e245
  have qi245 : (0 < l0.length) = True := eq_true (by omega)
  (try rw [show ((0 : Int)).toNat = 0 from rfl] at hx245_0)
  (try rw [Addr.add_zero'] at hx245_0)
  have HR245_0 := Aside0.mk hi245_0; have HC245_0 := Aside0.mk hl245_0; clear hi245_0 hl245_0; replace p245 := eq_true p245; replace q245 := eq_true q245
  go_enter Tryd.func25, Tryd.ntmps25
  go_wp2_with (first | ((with_reducible refine gate_callee (f := 66) rfl ?_); refine goesL_ (some 6) rfl rfl Tryd.func66 sqF rfl #[.slice A245_0 (rd_L9 l0 0).length c245_0] rfl sqM ?_; (with_reducible refine (rf_Ends.calls k _ _ (rd_L9 l0 0) t246 t247 _ ?side1 ?side2 A3.out).mono ?_); (case side1 => repeat (first | exact HR245_0.out | (with_reducible refine Kd.C_alloc ?_ _) | (with_reducible refine Kd.C_drewN ?_ _) | (with_reducible refine Kd.C_drew ?_))); (case side2 => exact HC245_0.out); rintro e w4 ⟨rfl, hb⟩; refine ⟨_, rfl, ?_⟩; replace HB := sqb hb HB; (try clear hb); (try clear hb2); (try clear hk); (try clear hi)))
  go_ret
  exact ⟨by first | rfl | (simp [errW_none, errW_some] <;> rfl) | (simp [*, errW_none, errW_some] <;> rfl), sqB HB⟩
 ·rw [if_neg c2] at H
  exact absurd H (by simp)
end Go.Proofs.YtemingmeidmjkaaDoor.Q
namespace Go.Proofs.YtemingmeidmjkaaDoor.Q
open Go.RowKit Go.Proofs.YtemingmeidmjkaaDoorW.PrintWords Go.Proofs.YtemingmeidmjkaaDoorW.PrintLast Go.Proofs.YtemingmeidmjkaaDoorW.PrintMore
attribute [local go_sem] max2_int min2_int max_two min_two max_three min_three max_four min_four   -- for this text's walks alone
set_option linter.unusedVariables false
set_option linter.unusedSimpArgs false
end Go.Proofs.YtemingmeidmjkaaDoor.Q
namespace Go.Proofs.YtemingmeidmjkaaDoor.Q
open Go.RowKit Go.Proofs.YtemingmeidmjkaaDoorW.PrintWords Go.Proofs.YtemingmeidmjkaaDoorW.PrintLast Go.Proofs.YtemingmeidmjkaaDoorW.PrintMore
attribute [local go_sem] max2_int min2_int max_two min_two max_three min_three max_four min_four   -- for this text's walks alone
set_option linter.unusedVariables false
set_option linter.unusedSimpArgs false
def wool_Check.f (l0_0 : List (S41)) (l0_1 : List (S80)) : Option (Int) := some (roadE (toSt l0_0) (toWg l0_1))
theorem wool_Check.calls (A0_0 : Option Addr) (c0_0 : Nat) (l0_0 : List (S41)) (A0_1 : Option Addr) (c0_1 : Nat) (l0_1 : List (S80)) (r : Int) (w : World) (hr0_0 : Kd.C k41 w A0_0 l0_0.length l0_0) (hc0_0 : l0_0.length ≤ c0_0) (hr0_1 : Kd.C k80 w A0_1 l0_1.length l0_1) (hc0_1 : l0_1.length ≤ c0_1) (h : wool_Check.f l0_0 l0_1 = some r) :
  Calls Tryd.prog 19 #[.agg #[.slice A0_0 l0_0.length c0_0, .slice A0_1 l0_1.length c0_1]] w fun e w' => e = .returned (.int .i64 r) ∧ Below w.heap.size w w' := by
 simp only [wool_Check.f, Option.some.injEq, Prod.mk.injEq] at h; obtain rfl := h; have H := check_ A0_0 c0_0 (toSt l0_0) A0_1 c0_1 (toWg l0_1) w (toSt_C hr0_0) (toSt_c hc0_0) (toWg_C hr0_1) (toWg_c hc0_1); rw [toSt_len, toWg_len] at H; exact H
end Go.Proofs.YtemingmeidmjkaaDoor.Q
namespace Go.Proofs.YtemingmeidmjkaaDoor.Q
open Go.RowKit Go.Proofs.YtemingmeidmjkaaDoorW.PrintWords Go.Proofs.YtemingmeidmjkaaDoorW.PrintLast Go.Proofs.YtemingmeidmjkaaDoorW.PrintMore
attribute [local go_sem] max2_int min2_int max_two min_two max_three min_three max_four min_four   -- for this text's walks alone
set_option linter.unusedVariables false
set_option linter.unusedSimpArgs false
def wool_Weights.f (l0_0 : List (S41)) (l0_1 : List (S80)) : Option ((List (S41)) × Int) := some (ofSp (ohL (toSt l0_0) (toWg l0_1)), ohE (toSt l0_0) (toWg l0_1))
theorem wool_Weights.calls (A0_0 : Option Addr) (c0_0 : Nat) (l0_0 : List (S41)) (A0_1 : Option Addr) (c0_1 : Nat) (l0_1 : List (S80)) (r1 : List (S41)) (r2 : Int) (w : World) (hG : GL w) (hr0_0 : Kd.C k41 w A0_0 l0_0.length l0_0) (hc0_0 : l0_0.length ≤ c0_0) (hr0_1 : Kd.C k80 w A0_1 l0_1.length l0_1) (hc0_1 : l0_1.length ≤ c0_1) (h : wool_Weights.f l0_0 l0_1 = some (r1, r2)) :
  Calls Tryd.prog 20 #[.agg #[.slice A0_0 l0_0.length c0_0, .slice A0_1 l0_1.length c0_1]] w fun e w' => ∃ v0_ : Value, e = .returned (.tuple #[v0_, .int .i64 r2]) ∧ Kd.R k41 41 w' w.heap.size (fun _ => True) v0_ r1 ∧ Below w.heap.size w w' := by
 simp only [wool_Weights.f, Option.some.injEq, Prod.mk.injEq] at h; obtain ⟨rfl, rfl⟩ := h; have H := weights_ A0_0 c0_0 (toSt l0_0) A0_1 c0_1 (toWg l0_1) w hG (toSt_C hr0_0) (toSt_c hc0_0) (toWg_C hr0_1) (toWg_c hc0_1); rw [toSt_len, toWg_len] at H; refine H.mono ?_; rintro e w' ⟨v, he, h1, h2⟩; exact ⟨v, he, ofSp_R h1, h2⟩
def wool_Flocks.f (l0_0 : List (S41)) (l0_1 : List (S80)) : Option ((List (S41)) × Int) := some (ofSp (flocksL (toSt l0_0) (toWg l0_1)), ohE (toSt l0_0) (toWg l0_1))
theorem wool_Flocks.calls (A0_0 : Option Addr) (c0_0 : Nat) (l0_0 : List (S41)) (A0_1 : Option Addr) (c0_1 : Nat) (l0_1 : List (S80)) (r1 : List (S41)) (r2 : Int) (w : World) (hG : GL w) (hr0_0 : Kd.C k41 w A0_0 l0_0.length l0_0) (hc0_0 : l0_0.length ≤ c0_0) (hr0_1 : Kd.C k80 w A0_1 l0_1.length l0_1) (hc0_1 : l0_1.length ≤ c0_1) (h : wool_Flocks.f l0_0 l0_1 = some (r1, r2)) :
  Calls Tryd.prog 21 #[.agg #[.slice A0_0 l0_0.length c0_0, .slice A0_1 l0_1.length c0_1]] w fun e w' => ∃ v0_ : Value, e = .returned (.tuple #[v0_, .int .i64 r2]) ∧ Kd.R k41 41 w' w.heap.size (fun _ => True) v0_ r1 ∧ Below w.heap.size w w' := by
 simp only [wool_Flocks.f, Option.some.injEq, Prod.mk.injEq] at h; obtain ⟨rfl, rfl⟩ := h; have H := flocks_ A0_0 c0_0 (toSt l0_0) A0_1 c0_1 (toWg l0_1) w hG (toSt_C hr0_0) (toSt_c hc0_0) (toWg_C hr0_1) (toWg_c hc0_1); rw [toSt_len, toWg_len] at H; refine H.mono ?_; rintro e w' ⟨v, he, h1, h2⟩; exact ⟨v, he, ofSp_R h1, h2⟩
end Go.Proofs.YtemingmeidmjkaaDoor.Q
namespace Go.Proofs.YtemingmeidmjkaaDoor.Q
open Go.RowKit Go.Proofs.YtemingmeidmjkaaDoorW.PrintWords Go.Proofs.YtemingmeidmjkaaDoorW.PrintLast Go.Proofs.YtemingmeidmjkaaDoorW.PrintMore
attribute [local go_sem] max2_int min2_int max_two min_two max_three min_three max_four min_four   -- for this text's walks alone
set_option linter.unusedVariables false
set_option linter.unusedSimpArgs false
end Go.Proofs.YtemingmeidmjkaaDoor.Q
namespace Go.Proofs.YtemingmeidmjkaaDoor.Q
open Go.RowKit Go.Proofs.YtemingmeidmjkaaDoorW.PrintWords
set_option linter.unusedVariables false
set_option linter.unusedSimpArgs false
def enF (g : Nat → Bool) : Nat → Nat → Int × Int → Int × Int
 | 0, _, x => x
 | d + 1, i, x => enF g d (i + 1) (if g i then (if x.1 < 0 then ((i : Int), (i : Int)) else (x.1, (i : Int))) else x)
theorem enF_fst (g : Nat → Bool) : ∀ (d i : Nat) (x : Int × Int), ((enF g d i x).1 ≥ 0 ↔ x.1 ≥ 0 ∨ ∃ j, i ≤ j ∧ j < i + d ∧ g j = true)
 | 0, i, x => by
  unfold enF
  exact ⟨fun h => .inl h, fun h => h.elim id (fun ⟨j, h1, h2, _⟩ => by omega)⟩
 | d + 1, i, x => by
  rw [enF, enF_fst g d (i + 1)]
  cases hg : g i
  ·simp only [Bool.false_eq_true, if_false]
   constructor
   ·rintro (h | ⟨j, h1, h2, h3⟩)
    ·exact .inl h
    ·exact .inr ⟨j, by omega, by omega, h3⟩
   ·rintro (h | ⟨j, h1, h2, h3⟩)
    ·exact .inl h
    ·refine .inr ⟨j, ?_, by omega, h3⟩
     by_cases e : j = i
     ·rw [e, hg] at h3; cases h3
     ·omega
  ·simp only [if_true]
   constructor
   ·intro _
    exact .inr ⟨i, by omega, by omega, hg⟩
   ·intro _
    left
    by_cases hx : x.1 < 0
    ·rw [if_pos hx]; simp only; omega
    ·rw [if_neg hx]; simp only; omega
theorem Ends_l0 (g : Nat → Bool) : ∀ (d i : Nat) (a b : Int), i + d = 401 → Ev (fun k => rf_Ends.l0 k (T4 g) (i : Int) a b) (enF g d i (a, b))
 | 0, i, a, b, hd => by
  refine Ev.up ?_; simp only [rf_Ends.l0, T4_len, if_neg (show ¬ (i : Int) < ((401 : Nat) : Int) by omega)]; exact Ev.now _
 | d + 1, i, a, b, hd => by
  refine Ev.up ?_; simp only [rf_Ends.l0, T4_len, if_pos (show (i : Int) < ((401 : Nat) : Int) by omega), if_pos (show (0 : Int) ≤ (i : Int) by omega), T4_get g i (by omega)]; rw [enF]
  cases hg : g i
  ·simp only [Bool.false_eq_true, if_false]
   refine Ev.up ?_; simp only [rf_Ends.j1, Bool.false_eq_true, if_false, T4_len, if_pos (show (i : Int) < ((401 : Nat) : Int) by omega), if_pos (show (0 : Int) ≤ (i : Int) by omega), T4_get g i (show i ≤ 400 by omega), hg, wi i (by omega)]; exact Ends_l0 g d (i + 1) a b (by omega)
  ·simp only [if_true]
   refine Ev.up ?_
   by_cases ha : a < 0
   ·simp only [rf_Ends.j1, decide_eq_true ha, if_true, T4_len, if_pos (show (i : Int) < ((401 : Nat) : Int) by omega), if_pos (show (0 : Int) ≤ (i : Int) by omega), T4_get g i (show i ≤ 400 by omega), hg, wi i (by omega), if_pos ha]
    exact Ends_l0 g d (i + 1) _ _ (by omega)
   ·simp only [rf_Ends.j1, decide_eq_false ha, Bool.false_eq_true, if_false, if_true, T4_len, if_pos (show (i : Int) < ((401 : Nat) : Int) by omega), if_pos (show (0 : Int) ≤ (i : Int) by omega), T4_get g i (show i ≤ 400 by omega), hg, wi i (by omega), if_neg ha]
    exact Ends_l0 g d (i + 1) _ _ (by omega)
theorem Ends_f (g : Nat → Bool) : Ev (fun k => rf_Ends.f k (T4 g)) (enF g 401 0 (-1, -1)) := Ends_l0 g 401 0 (-1) (-1) (by omega)
theorem Is_f (n : Nat) (R : Nat → Nat → Bool) (hn : 0 < n) : Ev (fun k => rf_Is.f k (rowsL n R)) (decide (∃ w : Nat, w ≤ 400 ∧ R 0 w = true)) := by
 unfold rf_Is.f
 simp only [rowsL_len, if_pos (show (0 : Int) < (n : Int) by omega)]; have h0 := rowsL_get n R 0 hn; rw [show ((0 : Nat) : Int) = 0 from rfl] at h0; rw [h0]; refine Ev.bind (Ends_f (R 0)) ?_
 have e : decide ((enF (R 0) 401 0 (-1, -1)).1 ≥ 0) = decide (∃ w : Nat, w ≤ 400 ∧ R 0 w = true) := by
  rw [decide_eq_decide, enF_fst]
  constructor
  ·rintro (h | ⟨j, h1, h2, h3⟩)
   ·simp at h
   ·exact ⟨j, by omega, h3⟩
  ·rintro ⟨j, h1, h2⟩
   exact .inr ⟨j, by omega, by omega, h2⟩
 rw [← e]; exact Ev.now _
section
variable (st : List S41) (wg : List S80)
end
section
variable (st : List S41) (wg : List S80)
end
end Go.Proofs.YtemingmeidmjkaaDoor.Q
namespace Go.Proofs.YtemingmeidmjkaaDoor.Q
open Go.RowKit Go.Proofs.YtemingmeidmjkaaDoorW.PrintWords Go.Proofs.YtemingmeidmjkaaDoorW.PrintLast Go.Proofs.YtemingmeidmjkaaDoorW.PrintMore
attribute [local go_sem] max2_int min2_int max_two min_two max_three min_three max_four min_four   -- for this text's walks alone
set_option linter.unusedVariables false
set_option linter.unusedSimpArgs false
end Go.Proofs.YtemingmeidmjkaaDoor.Q
namespace Go.Proofs.YtemingmeidmjkaaDoor.Q
open Go.RowKit Go.Proofs.YtemingmeidmjkaaDoorW.PrintWords Go.Proofs.YtemingmeidmjkaaDoorW.PrintLast Go.Proofs.YtemingmeidmjkaaDoorW.PrintMore
attribute [local go_sem] max2_int min2_int max_two min_two max_three min_three max_four min_four   -- for this text's walks alone
set_option linter.unusedVariables false
set_option linter.unusedSimpArgs false
end Go.Proofs.YtemingmeidmjkaaDoor.Q
namespace Go.Proofs.YtemingmeidmjkaaDoor.Q
open Go.RowKit Go.Proofs.YtemingmeidmjkaaDoorW.PrintWords
set_option linter.unusedVariables false
set_option linter.unusedSimpArgs false
section
variable {st : List S41} {wg : List S80}
theorem dec_hon (hok : RdOk (toSt st) (toWg wg)) : decide (∃ w : Nat, w ≤ 400 ∧ fuB (toSt st) (toWg wg) (-1) (st.length - 0) 0 w = true) = honB (toSt st) (toWg wg) := by
 rw [Bool.eq_iff_iff, decide_eq_true_eq, hon_is hok, toSt_len, Nat.sub_zero]
end
end Go.Proofs.YtemingmeidmjkaaDoor.Q
namespace Go.Proofs.YtemingmeidmjkaaDoor.Y
open Go.RowKit Go.Proofs.YtemingmeidmjkaaDoorW.PrintWords Go.Proofs.YtemingmeidmjkaaDoorW.PrintLast Go.Proofs.YtemingmeidmjkaaDoorW.PrintMore
attribute [local go_sem] max2_int min2_int max_two min_two max_three min_three max_four min_four   -- for this text's walks alone
set_option linter.unusedVariables false
set_option linter.unusedSimpArgs false
def errW : Option Int → Value
 | none => .nilIface
 | some c => .iface 0 (.int .i64 c)
theorem errW_none : errW none = .nilIface := rfl
theorem errW_some (c : Int) : errW (some c) = .iface 0 (.int .i64 c) := rfl
theorem info3 : (Tryd.prog.info? 3).map (fun i => (i.zero, i.size, i.bytes)) = some (some (.int .i64 0), 1, 8) := by kernel_rfl
end Go.Proofs.YtemingmeidmjkaaDoor.Y
namespace Go.Proofs.YtemingmeidmjkaaDoor.Y
open Go.RowKit Go.Proofs.YtemingmeidmjkaaDoorW.PrintWords Go.Proofs.YtemingmeidmjkaaDoorW.PrintLast Go.Proofs.YtemingmeidmjkaaDoorW.PrintMore
attribute [local go_sem] max2_int min2_int max_two min_two max_three min_three max_four min_four   -- for this text's walks alone
set_option linter.unusedVariables false
set_option linter.unusedSimpArgs false
def rf_Numbers.l0 : Nat → Int → List Int → Int → Option (List Int)
 | 0, _, _, _ => none
 | k + 1, x0, x3, x4 => if 0 ≤ (IntKind.u64.wrap (x4)) then (if (shr .i64 x0 (IntKind.u64.wrap (x4))) > 0 then (if (Go.bits .and .i64 (shr .i64 x0 (IntKind.u64.wrap (x4))) 1) = 1 then (if x3.length < 17592186044416 then (rf_Numbers.l0 k x0 (x3 ++ [x4]) (wrap64 (x4 + 1))) else (none)) else (rf_Numbers.l0 k x0 x3 (wrap64 (x4 + 1)))) else (some x3)) else (none)
def rf_Numbers.f (k : Nat) (a0 : Int) : Option (List Int) := rf_Numbers.l0 k a0 (([] : List Int)) 0
set_option maxHeartbeats 8000000 in
set_option maxRecDepth 100000 in
theorem rf_Numbers.calls (k : Nat) (a0 : Int) (r : List Int) (w : World) (h : rf_Numbers.f k a0 = some r) :
  Calls Tryd.prog 79 #[.int .i64 a0] w fun e w' => ∃ v0_ : Value, e = .returned (v0_) ∧ Kd.R (Kd.int .i64) 3 w' w.heap.size (fun _ => True) v0_ r ∧ Below w.heap.size w w' := by
 have HB := Aside0.mk (Below.refl w.heap.size w); have H : (rf_Numbers.l0 k a0 (([] : List Int)) 0) = some r := h; clear h; replace H : ∃ y_ : List Int, y_ = (([] : List Int)) ∧ (rf_Numbers.l0 k a0 y_ 0) = some r := ⟨_, rfl, sqJ H⟩; obtain ⟨y101, hy101, H⟩ := H; have Ny101 := Aside0.mk hy101; clear hy101; have H' := Aside0.mk H; clear H; go_enter Tryd.func79, Tryd.ntmps79
 go_wp2_with (first | ((with_reducible refine gate_dst (N := 5) rfl ?_); refine Kd.R_lit (Kd.int .i64) _ 3 ?hg (N := 5) ?hd (xs := ([] : List Int)) (inner := []) (ok := fun _ => True) (okp := fun _ => True) ?hr ?hp (fun _ hk => hk) trivial (Below.refl _ _) (Nat.le_refl _) (by simp) ?_; (case hd => rfl); (case hg => rfl); (case hr => first | (go_simp; done) | (go_simp; rfl)); (case hp => exact (Reps.none _ _)); intro v102 w2 ho3 hb hg_ hnew_; clear hg_ hnew_; (first | rw [← Ny101.out] at ho3 | (simp only [Int.reduceToNat] at ho3; rw [← Ny101.out] at ho3)); have HO103 := Aside0.mk (Kd.R_lower ho3 (below_size (sqB HB))); replace HB := sqb hb HB; clear hb ho3))
 go_loopg [3, 4] k (fun kq v3 v4 w' => ∃ (x3_1 : List Int) (x4_1 : Int), v4 = .int .i64 x4_1 ∧ Aside0 (rf_Numbers.l0 kq a0 x3_1 x4_1 = some r) ∧ Aside0 (kq ≤ k) ∧ Aside0 (Kd.R (Kd.int .i64) 3 w' w.heap.size (fun _ => True) v3 x3_1) ∧ Aside0 (Below w.heap.size w w'))
 case atStart => exact ⟨(y101), (0), sqE, H', ⟨Nat.le_refl _⟩, ⟨sqR HO103⟩, ⟨sqB HB⟩⟩
 case round =>
  clear H'; obtain ⟨x3_1, x4_1, rfl, HA, HK1, HO_3, HB⟩ := hrel
  cases gk with
  | zero => exact absurd HA.out (by simp [rf_Numbers.l0])
  | succ k1 =>
   have H := HA.out; clear HA; simp only [rf_Numbers.l0] at H; obtain ⟨ji4, hji4⟩ : ∃ j_ : Int, (IntKind.u64.wrap (x4_1)) = j_ := ⟨_, rfl⟩
   replace H : (if 0 ≤ (ji4) then (if (shr .i64 a0 (ji4)) > 0 then (if (Go.bits .and .i64 (shr .i64 a0 (ji4)) 1) = 1 then (if x3_1.length < 17592186044416 then (rf_Numbers.l0 k1 a0 (x3_1 ++ [x4_1]) (wrap64 (x4_1 + 1))) else (none)) else (rf_Numbers.l0 k1 a0 x3_1 (wrap64 (x4_1 + 1)))) else (some x3_1)) else (none)) = some r := by first | (rw [hji4] at H; exact H) | (simp only [hji4] at H ⊢; exact H)
   by_cases c5 : 0 ≤ (ji4)
   ·rw [if_pos c5] at H
    have c5b0 := eq_true c5; have c5b1 : decide (0 ≤ (ji4)) = true := decide_eq_true c5; clear c5; obtain ⟨ji6, hji6⟩ : ∃ j_ : Int, (shr .i64 a0 (ji4)) = j_ := ⟨_, rfl⟩
    replace H : (if (ji6) > 0 then (if (Go.bits .and .i64 (ji6) 1) = 1 then (if x3_1.length < 17592186044416 then (rf_Numbers.l0 k1 a0 (x3_1 ++ [x4_1]) (wrap64 (x4_1 + 1))) else (none)) else (rf_Numbers.l0 k1 a0 x3_1 (wrap64 (x4_1 + 1)))) else (some x3_1)) = some r := by first | (rw [hji6] at H; exact H) | (simp only [hji6] at H ⊢; exact H)
    have hji6_ : (a0 / 2 ^ min (ji4).toNat 64) = ji6 := hji6; have hji6z : (ji4) ≤ 64 → (a0 / 2 ^ (ji4).toNat) = ji6 := shr_small hji6
    by_cases c7 : (ji6) > 0
    ·rw [if_pos c7] at H
     have c7b0 : decide (0 < (ji6)) = true := decide_eq_true c7; clear c7; have c8b0 := eq_true (sqD : 0 ≤ (ji4))
     by_cases c10 : (Go.bits .and .i64 (ji6) 1) = 1
     ·rw [if_pos c10] at H
      have c10b0 : ((Go.bits .and .i64 (ji6) 1) == 1) = true := beq_iff_eq.mpr c10; have c10b1 : ((Go.bits .and .i64 (ji6) 1) != 1) = false := bne_eq_false_iff_eq.mpr c10; clear c10
      by_cases c11 : x3_1.length < 17592186044416
      ·rw [if_pos c11] at H
       have LMc11 := Aside0.mk c11; clear c11; replace H : ∃ y_ : List Int, y_ = (x3_1 ++ [x4_1]) ∧ (rf_Numbers.l0 k1 a0 y_ (wrap64 (x4_1 + 1))) = some r := ⟨_, rfl, sqJ H⟩; obtain ⟨y104, hy104, H⟩ := H; have Ny104 := Aside0.mk hy104; clear hy104; have H' := Aside0.mk H; clear H; go_wp2_with (first | ((with_reducible refine gate_builtin (b := .append) (xs := #[.tmp 19, .tmp 21]) rfl ?_); at_builtin; refine Kd.R_append (Kd.int .i64) (w0 := w) w.heap.size rfl (.tmp 19) (.tmp 21) 45 3 (.int .i64 0) 8 rfl Tryd.underlying45 info3 rfl (by decide) (by omega) u3 x3_1 x4_1 [.int .i64 x4_1] (fun _ => True) (fun _ => False) rfl rfl ?aP (fun _ hk => hk.elim) ?aF ?aO ?aB ?aS ?aL ?_; (case aP => exact rfl); (case aB => exact (sqB HB)); (case aF => exact (fun _ _ => trivial)); (case aO => exact (sqR HO_3)); (case aS => exact (below_size (sqB HB))); (case aL => have := LMc11.out; omega); intro v105 w12 ho hb hg hat; rw [← Ny104.out] at ho; replace HB := Aside0.mk (hb); have HO106 := Aside0.mk (ho); clear HO_3; clear ho hb hg hat))
       go_roundg k1
       case measure => have := HK1.out; omega
       case rel => exact ⟨(y104), (wrap64 (x4_1 + 1)), sqE, H', ⟨by have := HK1.out; omega⟩, ⟨sqR HO106⟩, ⟨sqB HB⟩⟩
      ·rw [if_neg c11] at H
       exact absurd H (by simp)
     ·rw [if_neg c10] at H
      have c10b0 : ((Go.bits .and .i64 (ji6) 1) == 1) = false := beq_eq_false_iff_ne.mpr c10; have c10b1 : ((Go.bits .and .i64 (ji6) 1) != 1) = true := bne_iff_ne.mpr c10; have H' := Aside0.mk H; clear H; go_wp2
      go_roundg k1
      case measure => have := HK1.out; omega
      case rel => exact ⟨(x3_1), (wrap64 (x4_1 + 1)), sqE, H', ⟨by have := HK1.out; omega⟩, ⟨sqR HO_3⟩, ⟨sqB HB⟩⟩
    ·rw [if_neg c7] at H
     have c7b0 : decide (0 < (ji6)) = false := decide_eq_false c7; clear c7; obtain rfl := Option.some.inj H
     go_wp2
     go_ret
     exact ⟨_, by first | rfl | (simp [errW_none, errW_some] <;> rfl) | (simp only [← hji4, ← hji6]; first | rfl | (simp [errW_none, errW_some] <;> rfl)) | (simp [*, errW_none, errW_some] <;> rfl), by (with_reducible repeat (first | apply Kd.R_alloc | apply Kd.R_drewN | apply Kd.R_drew)); exact HO_3.out, sqB HB⟩
   ·rw [if_neg c5] at H
    exact absurd H (by simp)
def rf_Less.l0 : Nat → List Int → List Int → Int → Option (Bool)
 | 0, _, _, _ => none
 | k + 1, x0, x1, x5 => if x5 < (x0.length : Int) then (if 0 ≤ x5 then (if x5 < (x1.length : Int) then (if (rd x0 x5) = (rd x1 x5) then (rf_Less.l0 k x0 x1 (wrap64 (x5 + 1))) else (some (decide ((rd x0 x5) < (rd x1 x5))))) else (none)) else (none)) else (some false)
def rf_Less.f (k : Nat) (l0 : List Int) (l1 : List Int) : Option (Bool) := if (l0.length : Int) = (l1.length : Int) then (rf_Less.l0 k l0 l1 0) else (some (decide ((l0.length : Int) < (l1.length : Int))))
set_option maxHeartbeats 8000000 in
set_option maxRecDepth 100000 in
theorem rf_Less.calls (k : Nat) (A0 : Option Addr) (c0 : Nat) (l0 : List Int) (A1 : Option Addr) (c1 : Nat) (l1 : List Int) (r : Bool) (w : World) (hr0 : Kd.C (Kd.int .i64) w A0 l0.length l0) (hc0 : l0.length ≤ c0) (hr1 : Kd.C (Kd.int .i64) w A1 l1.length l1) (hc1 : l1.length ≤ c1) (h : rf_Less.f k l0 l1 = some r) :
  Calls Tryd.prog 80 #[.slice A0 l0.length c0, .slice A1 l1.length c1] w fun e w' => e = .returned (.bool r) ∧ Drawn0 w w' := by
 have HR0 := Aside0.mk hr0; have HC0 := Aside0.mk hc0; clear hr0 hc0; have HR1 := Aside0.mk hr1; have HC1 := Aside0.mk hc1; clear hr1 hc1; have H : (if (l0.length : Int) = (l1.length : Int) then (rf_Less.l0 k l0 l1 0) else (some (decide ((l0.length : Int) < (l1.length : Int))))) = some r := h; clear h
 by_cases c3 : (l0.length : Int) = (l1.length : Int)
 ·rw [if_pos c3] at H
  have c3b0 : ((l0.length : Int) == (l1.length : Int)) = true := beq_iff_eq.mpr c3; have c3b1 : ((l0.length : Int) != (l1.length : Int)) = false := bne_eq_false_iff_eq.mpr c3
  have c3b2 : (l0.length == l1.length) = true := by first | simpa using c3 | (simp at c3 ⊢; omega)
  clear c3; have H' := Aside0.mk H; clear H; go_enter Tryd.func80, Tryd.ntmps80
  go_wp2
  repeat (go_quiet (fail); try go_wp2)
  go_loopg [5] k (fun kq v5 w' => ∃ (x5_1 : Int), v5 = .int .i64 x5_1 ∧ Aside0 (rf_Less.l0 kq l0 l1 x5_1 = some r) ∧ Aside0 (kq ≤ k) ∧ Drawn0 w w')
  case atStart => exact ⟨(0), sqE, H', ⟨Nat.le_refl _⟩, by repeat (first | exact Drawn0.refl _ | apply Drawn0.step)⟩
  case round =>
   clear H'; try clear c1
   (try clear c3b0); (try clear c3b1); (try clear c3b2); obtain ⟨x5_1, rfl, HA, HK1, ⟨m1, rfl⟩⟩ := hrel
   cases gk with
   | zero => exact absurd HA.out (by simp [rf_Less.l0])
   | succ k1 =>
    have H := HA.out; clear HA; simp only [rf_Less.l0] at H
    by_cases c4 : x5_1 < (l0.length : Int)
    ·rw [if_pos c4] at H
     have c4b0 : decide (x5_1 < (l0.length : Int)) = true := decide_eq_true c4; clear c4
     by_cases c5 : 0 ≤ x5_1
     ·rw [if_pos c5] at H
      have c5b0 : decide (0 ≤ x5_1) = true := decide_eq_true c5; clear c5
      by_cases c6 : x5_1 < (l1.length : Int)
      ·rw [if_pos c6] at H
       have c6b0 : decide (x5_1 < (l1.length : Int)) = true := decide_eq_true c6; clear c6
       by_cases c7 : (rd l0 x5_1) = (rd l1 x5_1)
       ·rw [if_pos c7] at H
        have c7b0 : ((rd l0 x5_1) == (rd l1 x5_1)) = true := beq_iff_eq.mpr c7; have c7b1 : ((rd l0 x5_1) != (rd l1 x5_1)) = false := bne_eq_false_iff_eq.mpr c7; clear c7; have H' := Aside0.mk H; clear H; have p107 : 0 ≤ (x5_1 : Int) := sqD; have q107 : x5_1 < (l0.length : Int) := sqD; obtain ⟨ad107, e107, hx107_0⟩ := Kd.at_int HR0.out x5_1 p107 q107
        cases e107
        replace p107 := eq_true p107; replace q107 := eq_true q107; have p108 : 0 ≤ (x5_1 : Int) := sqD; have q108 : x5_1 < (l1.length : Int) := sqD; obtain ⟨ad108, e108, hx108_0⟩ := Kd.at_int HR1.out x5_1 p108 q108
        cases e108
        replace p108 := eq_true p108; replace q108 := eq_true q108
        go_wp2
        repeat (go_quiet (fail); try go_wp2)
        go_roundg k1
        case measure => have := HK1.out; omega
        case rel => exact ⟨(wrap64 (x5_1 + 1)), sqE, H', ⟨by have := HK1.out; omega⟩, by repeat (first | exact Drawn0.refl _ | apply Drawn0.step)⟩
       ·rw [if_neg c7] at H
        have c7b0 : ((rd l0 x5_1) == (rd l1 x5_1)) = false := beq_eq_false_iff_ne.mpr c7; have c7b1 : ((rd l0 x5_1) != (rd l1 x5_1)) = true := bne_iff_ne.mpr c7; obtain rfl := Option.some.inj H; have p107 : 0 ≤ (x5_1 : Int) := sqD; have q107 : x5_1 < (l0.length : Int) := sqD; obtain ⟨ad107, e107, hx107_0⟩ := Kd.at_int HR0.out x5_1 p107 q107
        cases e107
        replace p107 := eq_true p107; replace q107 := eq_true q107; have p108 : 0 ≤ (x5_1 : Int) := sqD; have q108 : x5_1 < (l1.length : Int) := sqD; obtain ⟨ad108, e108, hx108_0⟩ := Kd.at_int HR1.out x5_1 p108 q108
        cases e108
        replace p108 := eq_true p108; replace q108 := eq_true q108; have p109 : 0 ≤ (x5_1 : Int) := sqD; have q109 : x5_1 < (l0.length : Int) := sqD; obtain ⟨ad109, e109, hx109_0⟩ := Kd.at_int HR0.out x5_1 p109 q109; obtain rfl : ad107 = ad109 := (by injection e109); replace p109 := eq_true p109; replace q109 := eq_true q109; have p110 : 0 ≤ (x5_1 : Int) := sqD; have q110 : x5_1 < (l1.length : Int) := sqD; obtain ⟨ad110, e110, hx110_0⟩ := Kd.at_int HR1.out x5_1 p110 q110; obtain rfl : ad108 = ad110 := (by injection e110); replace p110 := eq_true p110; replace q110 := eq_true q110
        go_wp2
        repeat (go_quiet (fail); try go_wp2)
        go_ret
        exact ⟨by first | rfl | (simp; done) | (simp [*]; done), by repeat (first | exact Drawn0.refl _ | apply Drawn0.step)⟩
      ·rw [if_neg c6] at H
       exact absurd H (by simp)
     ·rw [if_neg c5] at H
      exact absurd H (by simp)
    ·rw [if_neg c4] at H
     have c4b0 : decide (x5_1 < (l0.length : Int)) = false := decide_eq_false c4; clear c4; obtain rfl := Option.some.inj H
     go_wp2
     repeat (go_quiet (fail); try go_wp2)
     go_ret
     exact ⟨by first | rfl | (simp; done) | (simp [*]; done), by repeat (first | exact Drawn0.refl _ | apply Drawn0.step)⟩
 ·rw [if_neg c3] at H
  have c3b0 : ((l0.length : Int) == (l1.length : Int)) = false := beq_eq_false_iff_ne.mpr c3; have c3b1 : ((l0.length : Int) != (l1.length : Int)) = true := bne_iff_ne.mpr c3
  have c3b2 : (l0.length == l1.length) = false := by first | simpa using c3 | (simp at c3 ⊢; omega)
  obtain rfl := Option.some.inj H
  go_enter Tryd.func80, Tryd.ntmps80
  go_wp2
  repeat (go_quiet (fail); try go_wp2)
  go_ret
  exact ⟨by first | rfl | (simp; done) | (simp [*]; done), by repeat (first | exact Drawn0.refl _ | apply Drawn0.step)⟩
end Go.Proofs.YtemingmeidmjkaaDoor.Y
namespace Go.Proofs.YtemingmeidmjkaaDoor.Y
open Go.RowKit Go.Proofs.YtemingmeidmjkaaDoorW.PrintWords Go.Proofs.YtemingmeidmjkaaDoorW.PrintLast Go.Proofs.YtemingmeidmjkaaDoorW.PrintMore
attribute [local go_sem] max2_int min2_int max_two min_two max_three min_three max_four min_four   -- for this text's walks alone
set_option linter.unusedVariables false
set_option linter.unusedSimpArgs false
end Go.Proofs.YtemingmeidmjkaaDoor.Y
namespace Go.Proofs.YtemingmeidmjkaaDoor.Q
open Go.RowKit Go.Shelf Go.Proofs.YtemingmeidmjkaaDoorW.PrintWords Go.Proofs.YtemingmeidmjkaaDoorW.PrintLast Go.Proofs.YtemingmeidmjkaaDoorW.PrintMore
set_option linter.unusedVariables false
set_option linter.unusedSimpArgs false
theorem kept_C {w W : World} {A : Option Addr} {n : Nat} {xs : List S80} (hk : Kept w W (fun _ => False)) (h : Kd.C k80 w A n xs) : Kd.C k80 W A n xs :=
 Kd.C_foot_neS (fun h => h) h (fun _ _ _ h => h) W hk
section
attribute [local go_sem] max2_int min2_int max_two min_two max_three min_three max_four min_four
def rf_Without.l0 : Nat → Int → Int → List (S41) → List (S80) → List (S41) → List (S80) → Option ((List (S41)) × (List (S80)))
 | 0, _, _, _, _, _, _ => none
 | k + 1, x1, x6, x177000, x177001, x179000, x179001 => if x6 < (x177001.length : Int) then (if 0 ≤ (IntKind.u64.wrap (x6)) then (if (Go.bits .and .i64 (shr .i64 x1 (IntKind.u64.wrap (x6))) 1) = 0 then (if 0 ≤ x6 then (if x179001.length < 5864062014805 then (rf_Without.l0 k x1 (wrap64 (x6 + 1)) x177000 x177001 x179000 (x179001 ++ [(⟨(rd_T80 x177001 x6).f0, (rd_T80 x177001 x6).f1, (rd_T80 x177001 x6).f2⟩ : S80)])) else (none)) else (none)) else (rf_Without.l0 k x1 (wrap64 (x6 + 1)) x177000 x177001 x179000 x179001)) else (none)) else (some (x179000, x179001))
def rf_Without.f (k : Nat) (l0_0 : List (S41)) (l0_1 : List (S80)) (a1 : Int) : Option ((List (S41)) × (List (S80))) := rf_Without.l0 k a1 0 l0_0 l0_1 l0_0 ([] : List (S80))
def rf_Without.T6 : Bool × List (List Nat × List Nat) := (true, [([], []), ([0], [0]), ([], []), ([2], [2]), ([], []), ([3, 4], [3, 4]), ([5], [5]), ([6], [6]), ([1, 7], [1, 7]), ([0, 1, 2, 3, 4, 5, 6, 7, 8], []), ([9, 8, 8, 0, 1, 2, 3, 4, 5, 6, 7, 8], [8, 9])])
def rf_Without.B6 : List Nat := [0, 1, 0, 4, 0, 28, 60, 124, 255, 511, 1023]
theorem rf_Without.tab6 : rtab .any (opsOf Tryd.f81 6) = rf_Without.T6 := by kernel_rfl
theorem rf_Without.bits6 : waitsOk rf_Without.T6.2 rf_Without.B6 = true := by kernel_rfl
set_option maxHeartbeats 8000000 in
set_option maxRecDepth 100000 in
theorem without2_ (k : Nat) (Ao3 : Option Addr) (n0 co3 : Nat) (l0_0 : List (S41)) (A0_1 : Option Addr) (c0_1 : Nat) (l0_1 : List (S80)) (a1 : Int) (r1 : List (S41)) (r2 : List (S80)) (w : World) (hr0_1 : Kd.C k80 w A0_1 l0_1.length l0_1) (hc0_1 : l0_1.length ≤ c0_1) (h : rf_Without.f k l0_0 l0_1 a1 = some (r1, r2)) :
  Calls Tryd.prog 81 #[.agg #[.slice Ao3 n0 co3, .slice A0_1 l0_1.length c0_1], .int .i64 a1] w fun e w' => ∃ v1_ : Value, e = .returned (.agg #[.slice Ao3 n0 co3, v1_]) ∧ Kd.R k80 80 w' w.heap.size (fun _ => True) v1_ r2 ∧ Below w.heap.size w w' := by
 have hu25 := Tryd.underlying25; have hu80 := Tryd.underlying80; have HR0_1 : Aside0 (∀ W_, Kept w W_ (fun _ => False) → Kd.C k80 W_ A0_1 l0_1.length l0_1) := ⟨fun W_ hk => kept_C hk hr0_1⟩; have HC0_1 := Aside0.mk hc0_1; clear hr0_1 hc0_1; have HK := Aside0.mk (Kept.refl w (fun k_ => False)); have HW0 := Aside0.mk (Nat.le_refl w.heap.size); have HB := Aside0.mk (Below.refl w.heap.size w); have H : (rf_Without.l0 k a1 0 l0_0 l0_1 l0_0 ([] : List (S80))) = some (r1, r2) := h; clear h; have H' := Aside0.mk H; clear H; go_enter Tryd.func81, Tryd.ntmps81
 go_wp2_with (first | ((with_reducible refine gate_dst (N := 2) rfl ?_); refine box_event ?hg (N := 2) ?hd (cs := #[.slice Ao3 n0 co3, .slice A0_1 l0_1.length c0_1]) (t := 25) ?hr ?_; (case hd => rfl); (case hg => rfl); (case hr => first | (go_simp; done) | (go_simp; rfl)); intro gb176 hg w4 hbox hb; have BK176 := Aside0.mk (hbox); have GW176 := Aside0.mk (by rw [hg]; exact (by first | exact HK.out.1 | exact (show Kept w _ (fun k_ => False) from by repeat (first | (with_reducible first | exact HK.out | apply Kept.alloc | apply Kept.drewN | apply Kept.drew) | exact HK.out)).1) : w.heap.size ≤ gb176); replace HK := Aside0.mk (Kept.below (S := (fun k_ => False)) (by repeat (first | (with_reducible first | exact HK.out | apply Kept.alloc | apply Kept.drewN | apply Kept.drew) | exact HK.out)) hb); have GE176 := Aside0.mk (sqZ hg HB); replace HB := sqb hb HB; clear hb hbox hg) | ((with_reducible refine gate_dst (N := 4) rfl ?_); refine box_event ?hg (N := 4) ?hd (cs := #[.slice none 0 0, .slice none 0 0]) (t := 25) ?hr ?_; (case hd => rfl); (case hg => rfl); (case hr => first | (go_simp; done) | (go_simp; rfl)); intro gb177 hg w5 hbox hb; have BK177 := Aside0.mk (hbox); have GW177 := Aside0.mk (by rw [hg]; exact (by first | exact HK.out.1 | exact (show Kept w _ (fun k_ => False) from by repeat (first | (with_reducible first | exact HK.out | apply Kept.alloc | apply Kept.drewN | apply Kept.drew | refine Kept.setCell ?_ (.inr GW176.out) _) | exact HK.out)).1) : w.heap.size ≤ gb177); replace HK := Aside0.mk (Kept.below (S := (fun k_ => False)) (by repeat (first | (with_reducible first | exact HK.out | apply Kept.alloc | apply Kept.drewN | apply Kept.drew | refine Kept.setCell ?_ (.inr GW176.out) _) | exact HK.out)) hb); have GE177 := Aside0.mk (sqZ hg HB); replace HB := sqb hb HB; have NB176_177 := Aside0.mk (sqL hg BK176); have NB177_176 := Aside0.mk (sqG hg BK176); replace BK176 := sqk BK176 hb; clear hb hbox hg; have hnb6 := NB176_177.out; have hnc6 := NB177_176.out; have hcz7_0 := sqc0 BK176; have hcz7_1 := sqc1 BK176; have hfz7_0 := blk_frozen BK176.out 0; have hfz7_1 := blk_frozen BK176.out 1) | ((with_reducible refine gate_dst (N := 5) rfl ?_); refine box_event ?hg (N := 5) ?hd (cs := #[.slice none 0 0, .slice none 0 0]) (t := 25) ?hr ?_; (case hd => rfl); (case hg => rfl); (case hr => first | (go_simp; done) | (go_simp; rfl)); intro gb178 hg w8 hbox hb; have BK178 := Aside0.mk (hbox); have GW178 := Aside0.mk (by rw [hg]; exact (by first | exact HK.out.1 | exact (show Kept w _ (fun k_ => False) from by repeat (first | (with_reducible first | exact HK.out | apply Kept.alloc | apply Kept.drewN | apply Kept.drew | refine Kept.setCell ?_ (.inr GW176.out) _ | refine Kept.setCell ?_ (.inr GW177.out) _) | exact HK.out)).1) : w.heap.size ≤ gb178); replace HK := Aside0.mk (Kept.below (S := (fun k_ => False)) (by repeat (first | (with_reducible first | exact HK.out | apply Kept.alloc | apply Kept.drewN | apply Kept.drew | refine Kept.setCell ?_ (.inr GW176.out) _ | refine Kept.setCell ?_ (.inr GW177.out) _) | exact HK.out)) hb); have GE178 := Aside0.mk (sqZ hg HB); replace HB := sqb hb HB; have NB176_178 := Aside0.mk (sqL hg BK176); have NB178_176 := Aside0.mk (sqG hg BK176); replace BK176 := sqk BK176 hb; have NB177_178 := Aside0.mk (sqL hg BK177); have NB178_177 := Aside0.mk (sqG hg BK177); replace BK177 := sqk BK177 hb; clear hb hbox hg; have hnb9 := NB178_176.out; have hnc9 := NB176_178.out; have hnb10 := NB178_177.out; have hnc10 := NB177_178.out; have hcz11_0 := sqc0 BK178; have hcz11_1 := sqc1 BK178; have hfz11_0 := blk_frozen BK178.out 0; have hfz11_1 := blk_frozen BK178.out 1))
 go_loopg [6] k (fun kq v6 w' => ∃ (x6_1 : Int) (x179001_1 : List (S80)) (u179001 : Value), v6 = .int .i64 x6_1 ∧ Aside0 (rf_Without.l0 kq a1 x6_1 l0_0 l0_1 l0_0 x179001_1 = some (r1, r2)) ∧ Aside0 (kq ≤ k) ∧ Aside0 (Kd.R k80 80 w' w.heap.size (fun k_ => (False ∨ w.heap.size ≤ k_)) u179001 x179001_1) ∧ Aside0 (w'.heap[gb176]? = some (.cells #[(.slice Ao3 n0 co3), (.slice A0_1 l0_1.length c0_1)] 25 (0, 0))) ∧ Aside0 (w'.heap[gb177]? = some (.cells #[(.slice none 0 0), (.slice none 0 0)] 25 (0, 0))) ∧ Aside0 (w'.heap[gb178]? = some (.cells #[(.slice Ao3 n0 co3), u179001] 25 (0, 0))) ∧ Aside0 (Kept w w' (fun k_ => False)) ∧ Aside0 (Below w.heap.size w w'))
 case atStart => exact ⟨(0), (([] : List (S80))), (.slice none 0 0), sqE, H', ⟨Nat.le_refl _⟩, ⟨by first | exact Kd.R_nil _ _ _ _ _ | exact Kd.N_nil _ _ _ _ _ | exact Kd.V_nil _ _ _ _ _ | exact Kd.Q_nil _ _ _ _ _ | exact Kd.S_nil _ _ _ _ _⟩, ⟨sqX⟩, ⟨sqX⟩, ⟨by (with_reducible repeat (first | refine blk_drewN ?_ _ | refine blk_drew ?_ | refine blk_alloc ?_ _)); refine blk_put (cs := #[.slice Ao3 n0 co3, .slice none 0 0]) ?_ 1 _ rfl; (with_reducible repeat (first | refine blk_drewN ?_ _ | refine blk_drew ?_ | refine blk_alloc ?_ _)); refine blk_put (cs := #[.slice none 0 0, .slice none 0 0]) ?_ 0 _ rfl; (with_reducible repeat (first | refine blk_drewN ?_ _ | refine blk_drew ?_ | refine blk_alloc ?_ _)); exact BK178.out⟩, ⟨by repeat (first | (with_reducible first | exact HK.out | apply Kept.alloc | apply Kept.drewN | apply Kept.drew | refine Kept.setCell ?_ (.inr GW176.out) _ | refine Kept.setCell ?_ (.inr GW177.out) _ | refine Kept.setCell ?_ (.inr GW178.out) _) | exact HK.out)⟩, ⟨(sqB HB)⟩⟩
 case round =>
  clear H'; try clear hcz11_0
  (try clear hcz11_1); (try clear hcz7_0); (try clear hcz7_1); (try clear hfz11_0); (try clear hfz11_1); (try clear hfz7_0); (try clear hfz7_1); obtain ⟨x6_1, x179001_1, u179001, rfl, HA, HK1, HO_179001, BK176, BK177, BK178, HK, HB⟩ := hrel
  cases gk with
  | zero => exact absurd HA.out (by simp [rf_Without.l0])
  | succ k1 =>
   have H := HA.out; clear HA; simp only [rf_Without.l0] at H
   by_cases c12 : x6_1 < (l0_1.length : Int)
   ·rw [if_pos c12] at H
    have c12b0 : decide (x6_1 < (l0_1.length : Int)) = true := decide_eq_true c12; clear c12; obtain ⟨ji13, hji13⟩ : ∃ j_ : Int, (IntKind.u64.wrap (x6_1)) = j_ := ⟨_, rfl⟩
    replace H : (if 0 ≤ (ji13) then (if (Go.bits .and .i64 (shr .i64 a1 (ji13)) 1) = 0 then (if 0 ≤ x6_1 then (if x179001_1.length < 5864062014805 then (rf_Without.l0 k1 a1 (wrap64 (x6_1 + 1)) l0_0 l0_1 l0_0 (x179001_1 ++ [(⟨(rd_T80 l0_1 x6_1).f0, (rd_T80 l0_1 x6_1).f1, (rd_T80 l0_1 x6_1).f2⟩ : S80)])) else (none)) else (none)) else (rf_Without.l0 k1 a1 (wrap64 (x6_1 + 1)) l0_0 l0_1 l0_0 x179001_1)) else (none)) = some (r1, r2) := by first | (rw [hji13] at H; exact H) | (simp only [hji13] at H ⊢; exact H)
    by_cases c14 : 0 ≤ (ji13)
    ·rw [if_pos c14] at H
     have c14b0 := eq_true c14; have c14b1 : decide (0 ≤ (ji13)) = true := decide_eq_true c14; clear c14; obtain ⟨ji15, hji15⟩ : ∃ j_ : Int, (shr .i64 a1 (ji13)) = j_ := ⟨_, rfl⟩
     replace H : (if (Go.bits .and .i64 (ji15) 1) = 0 then (if 0 ≤ x6_1 then (if x179001_1.length < 5864062014805 then (rf_Without.l0 k1 a1 (wrap64 (x6_1 + 1)) l0_0 l0_1 l0_0 (x179001_1 ++ [(⟨(rd_T80 l0_1 x6_1).f0, (rd_T80 l0_1 x6_1).f1, (rd_T80 l0_1 x6_1).f2⟩ : S80)])) else (none)) else (none)) else (rf_Without.l0 k1 a1 (wrap64 (x6_1 + 1)) l0_0 l0_1 l0_0 x179001_1)) = some (r1, r2) := by first | (rw [hji15] at H; exact H) | (simp only [hji15] at H ⊢; exact H)
     have hji15_ : (a1 / 2 ^ min (ji13).toNat 64) = ji15 := hji15; have hji15z : (ji13) ≤ 64 → (a1 / 2 ^ (ji13).toNat) = ji15 := shr_small hji15
     by_cases c16 : (Go.bits .and .i64 (ji15) 1) = 0
     ·rw [if_pos c16] at H
      have c16b0 : ((Go.bits .and .i64 (ji15) 1) == 0) = true := beq_iff_eq.mpr c16; have c16b1 : ((Go.bits .and .i64 (ji15) 1) != 0) = false := bne_eq_false_iff_eq.mpr c16; clear c16
      by_cases c17 : 0 ≤ x6_1
      ·rw [if_pos c17] at H
       have c17b0 : decide (0 ≤ x6_1) = true := decide_eq_true c17; clear c17
       by_cases c18 : x179001_1.length < 5864062014805
       ·rw [if_pos c18] at H
        have LMc18 := Aside0.mk c18; clear c18; replace H : ∃ y_ : List (S80), y_ = (x179001_1 ++ [(⟨(rd_T80 l0_1 x6_1).f0, (rd_T80 l0_1 x6_1).f1, (rd_T80 l0_1 x6_1).f2⟩ : S80)]) ∧ (rf_Without.l0 k1 a1 (wrap64 (x6_1 + 1)) l0_0 l0_1 l0_0 y_) = some (r1, r2) := ⟨_, rfl, sqJ H⟩; obtain ⟨y180, hy180, H⟩ := H; have Ny180 := Aside0.mk hy180; clear hy180; have H' := Aside0.mk H; clear H; have hnb19 := NB176_177.out; have hnc19 := NB177_176.out; have hnb20 := NB176_178.out; have hnc20 := NB178_176.out; have hcz21_0 := sqc0 BK176; have hcz21_1 := sqc1 BK176; have hfz21_0 := blk_frozen BK176.out 0; have hfz21_1 := blk_frozen BK176.out 1
        try go_wp2
        have n2_ := Aside0.mk (Kd.R_drew HO_179001.out); have n3_ := Aside0.mk (blk_drew BK176.out); have n4_ := Aside0.mk (blk_drew BK177.out); have n5_ := Aside0.mk (blk_drew BK178.out); have n6_ := Aside0.mk (Kept.drew HK.out); have n7_ := Aside0.mk (below_drew1 HB.out); clear HO_179001 BK176 BK177 BK178 HK HB; have HO_179001 := n2_; have BK176 := n3_; have BK177 := n4_; have BK178 := n5_; have HK := n6_; have HB := n7_; clear n2_ n3_ n4_ n5_ n6_ n7_; have p179 : 0 ≤ (x6_1 : Int) := sqD; have q179 : x6_1 < (l0_1.length : Int) := sqD; obtain ⟨ad179, e179, hx179_0, hx179_1, hx179_2⟩ := at_T80 (Kd.C_kept_now HR0_1.out HK.out) x6_1 p179 q179; have hw179_2 := hx179_2; have hw179_1 := hx179_1; have hw179_0 := hx179_0
        cases e179
        replace p179 := eq_true p179; replace q179 := eq_true q179; refine start_ (n := 11) (S := fun w' => w'.cell? ⟨gb178, 0, none⟩ = some (.slice Ao3 n0 co3) ∧ w'.cell? ⟨gb178, 1, none⟩ = some (u179001) ∧ w'.cell? ⟨gb176, 0, none⟩ = some (.slice Ao3 n0 co3) ∧ w'.cell? ⟨gb176, 1, none⟩ = some (.slice (some ad179) l0_1.length c0_1) ∧ w'.cell? (ad179.add ((x6_1).toNat * 3)) = some (.int .i64 ((rd_T80 l0_1 x6_1).f0)) ∧ w'.cell? ⟨(ad179.add ((x6_1).toNat * 3)).block, (ad179.add ((x6_1).toNat * 3)).off + 1, none⟩ = some (.int .i64 ((rd_T80 l0_1 x6_1).f1)) ∧ w'.cell? ⟨(ad179.add ((x6_1).toNat * 3)).block, (ad179.add ((x6_1).toNat * 3)).off + 2, none⟩ = some (.int .i64 ((rd_T80 l0_1 x6_1).f2))) (ds := [8, 10]) (bm 11 0) sqF rfl rfl ⟨(blk_cell BK178.out 0).trans rfl, (blk_cell BK178.out 1).trans rfl, (blk_cell BK176.out 0).trans rfl, (blk_cell BK176.out 1).trans rfl, hx179_0, hx179_1, hx179_2⟩ (fun hHeld => ?_); refine with_tabW rf_Without.tab6 rf_Without.bits6 (fun HT_ HW_ => ?_)
        generalize wr.drew = w22 at HO_179001 BK176 BK177 BK178 HK HB hx179_0 hx179_1 hx179_2 hHeld ⊢
        refine pure_ (i := 0) (N := some 23) (v := ?_) (a' := ?_) (bm 11 1) rfl rfl (any_of HT_.out sqF) (fun _ _ _ h => h) (Or.inl ⟨by rfl, ?_⟩) ?_ ?_; rotate_left; intro w'; go_simp; (with_reducible rfl); rotate_left; simp only [Act.put, sqA, i64_w, i32_w]; rfl; refine pure_ (i := 2) (N := some 25) (v := ?_) (a' := ?_) (bm 11 5) rfl rfl (any_of HT_.out sqF) (fun _ _ _ h => h) (Or.inl ⟨by rfl, ?_⟩) ?_ ?_; rotate_left; intro w'; go_simp; (with_reducible rfl); rotate_left; simp only [Act.put, sqA, i64_w, i32_w]; rfl; refine pure_ (i := 4) (N := some 27) (v := ?_) (a' := ?_) (bm 11 21) rfl rfl (any_of HT_.out sqF) (fun _ _ _ h => h) (Or.inl ⟨by rfl, ?_⟩) ?_ ?_; rotate_left; intro w'; go_simp; (with_reducible rfl); rotate_left; simp only [Act.put, sqA, i64_w, i32_w]; rfl; refine take_ (i := 1) (N := some 24) (v := ?_) (a' := ?_) (bm 11 23) rfl rfl (take_ofW HT_.out HW_.out sqF) (fun _ _ _ h => h) (Or.inl ⟨by rfl, ?_⟩) hHeld ?_ ?_; rotate_left; rintro w' ⟨s0, s1, s2, s3, s4, s5, s6⟩; go_simp; (with_reducible rfl); rotate_left; simp only [Act.put, sqA, i64_w, i32_w]; rfl; refine take_ (i := 3) (N := some 26) (v := ?_) (a' := ?_) (bm 11 31) rfl rfl (take_ofW HT_.out HW_.out sqF) (fun _ _ _ h => h) (Or.inl ⟨by rfl, ?_⟩) hHeld ?_ ?_; rotate_left; rintro w' ⟨s0, s1, s2, s3, s4, s5, s6⟩; go_simp; (with_reducible rfl); rotate_left; simp only [Act.put, sqA, i64_w, i32_w]; rfl; refine pure_ (i := 5) (N := some 28) (v := ?_) (a' := ?_) (bm 11 63) rfl rfl (any_of HT_.out sqF) (fun _ _ _ h => h) (Or.inl ⟨by rfl, ?_⟩) ?_ ?_; rotate_left; intro w'; go_simp; (with_reducible rfl); rotate_left; simp only [Act.put, sqA, i64_w, i32_w]; rfl; refine take_ (i := 6) (N := some 29) (v := ?_) (a' := ?_) (bm 11 127) rfl rfl (take_ofW HT_.out HW_.out sqF) (fun _ _ _ h => h) (Or.inl ⟨by rfl, ?_⟩) hHeld ?_ ?_; rotate_left; rintro w' ⟨s0, s1, s2, s3, s4, s5, s6⟩; go_simp; (with_reducible rfl); rotate_left; simp only [Act.put, sqA, i64_w, i32_w]; rfl
        refine one_ (i := 7) (N := some 30) (bm 11 255) rfl rfl (one_of HT_.out sqF) (by decide) (fun K hK => ?_); refine value_ (w1 := ?_) (v := ?_) (by rfl) rfl ?_ ?_
        rotate_left 2
        ·go_simp
         constructor
         ·rfl
         ·rfl
        refine hK.out _ _ ⟨(blk_cell (blk_alloc BK178.out _) 0).trans rfl, (blk_cell (blk_alloc BK178.out _) 1).trans rfl, (blk_cell (blk_alloc BK176.out _) 0).trans rfl, (blk_cell (blk_alloc BK176.out _) 1).trans rfl, (World.cell?_alloc_lt _ _ _ (World.block_lt_of_cell? _ _ (hHeld.2.2.2.2.1))).trans (hHeld.2.2.2.2.1), (World.cell?_alloc_lt _ _ _ (World.block_lt_of_cell? _ _ (hHeld.2.2.2.2.2.1))).trans (hHeld.2.2.2.2.2.1), (World.cell?_alloc_lt _ _ _ (World.block_lt_of_cell? _ _ (hHeld.2.2.2.2.2.2))).trans (hHeld.2.2.2.2.2.2)⟩ (fun hHeld => ?_); clear hK K; refine norm_ (a' := ?_) ?_ ?_
        rotate_left
        ·show Act.put _ (some 30) _ = _
         simp only [Act.put, sqA, i64_w, i32_w]; rfl
        refine last_ (i := 8) (N := some 31) (bm 11 511) rfl rfl (one_of HT_.out sqF) (by decide) (fun K hK => ?_); refine Kd.R_append_step k80 (w0 := w) w.heap.size (by rfl) (.tmp 24) (.tmp 30) 23 80 (.agg #[(.int .i64 0), (.int .i64 0), (.int .i64 0)]) 24 rfl Tryd.underlying23 info80 rfl (by decide) (by omega) u179001 x179001_1 (⟨(rd_T80 l0_1 x6_1).f0, (rd_T80 l0_1 x6_1).f1, (rd_T80 l0_1 x6_1).f2⟩ : S80) [.int .i64 ((rd_T80 l0_1 x6_1).f0), .int .i64 ((rd_T80 l0_1 x6_1).f1), .int .i64 ((rd_T80 l0_1 x6_1).f2)] (fun k_ => (False ∨ w.heap.size ≤ k_)) (fun _ => False) rfl rfl ?aP (fun _ hk => hk.elim) ?aF ?aO ?aB ?aS ?aL ?_
        (case aP => exact k80_mkM _ _ _ (⟨(rd_T80 l0_1 x6_1).f0, (rd_T80 l0_1 x6_1).f1, (rd_T80 l0_1 x6_1).f2⟩ : S80))
        (case aB => exact (sqB HB))
        (case aF => exact (fun k_ hk => (.inr (Nat.le_trans (by first | exact HK.out.1 | exact (show Kept w _ (fun k_ => False) from by repeat (first | (with_reducible first | exact HK.out | apply Kept.alloc | apply Kept.drewN | apply Kept.drew | refine Kept.setCell ?_ (.inr GW176.out) _ | refine Kept.setCell ?_ (.inr GW177.out) _ | refine Kept.setCell ?_ (.inr GW178.out) _) | exact HK.out)).1) hk))))
        (case aO => exact (sqR HO_179001))
        (case aS => exact (below_size (sqB HB)))
        (case aL => have := LMc18.out; omega)
        intro v181 w23 ho hb hg hat; rw [← Ny180.out] at ho; have n2_ := Aside0.mk (blk_grown (g := gb176) (o := .cells #[.slice Ao3 n0 co3, .slice (some ad179) l0_1.length c0_1] 25 (0, 0)) (sqK BK176) hg (Kd.R_ne HO_179001.out BK176.out (by decide))); have n3_ := Aside0.mk (blk_grown (g := gb177) (o := .cells #[.slice none 0 0, .slice none 0 0] 25 (0, 0)) (sqK BK177) hg (Kd.R_ne HO_179001.out BK177.out (by decide))); have n4_ := Aside0.mk (blk_grown (g := gb178) (o := .cells #[.slice Ao3 n0 co3, u179001] 25 (0, 0)) (sqK BK178) hg (Kd.R_ne HO_179001.out BK178.out (by decide))); have n5_ := Aside0.mk (hb); have n6_ := Aside0.mk (Kept.of_grown (S := (fun k_ => False)) hg (by repeat (first | (with_reducible first | exact HK.out | apply Kept.alloc | apply Kept.drewN | apply Kept.drew | refine Kept.setCell ?_ (.inr GW176.out) _ | refine Kept.setCell ?_ (.inr GW177.out) _ | refine Kept.setCell ?_ (.inr GW178.out) _) | exact HK.out)) (fun k_ e_ => (HO_179001.out.1 k_ e_))); have n7_ := Aside0.mk (ho); clear BK176 BK177 BK178 HB HK HO_179001; have BK176 := n2_; have BK177 := n3_; have BK178 := n4_; have HB := n5_; have HK := n6_; have HO182 := n7_; clear n2_ n3_ n4_ n5_ n6_ n7_ ho hb hg hat; obtain ⟨Ao24, co24, eo24⟩ := Kd.R_slice HO182.out
        (first | subst eo24 | (injection eo24 with f1_ f2_ f3_; have f4_ := f1_.symm; have f5_ := f3_.symm; clear f1_ f2_ f3_; subst f4_; subst f5_))
        refine hK.out _ _ ?_; clear hK K; refine norm_ (a' := ?_) ?_ ?_
        rotate_left
        ·show Act.put _ (some 31) _ = _
         simp only [Act.put, sqA, i64_w, i32_w]; rfl
        refine pure_ (i := 9) (N := some 32) (v := ?_) (a' := ?_) (bm 11 1023) rfl rfl (any_of HT_.out sqF) (fun _ _ _ h => h) (Or.inl ⟨by rfl, ?_⟩) ?_ ?_; rotate_left; intro w'; go_simp; (with_reducible rfl); rotate_left; simp only [Act.put, sqA, i64_w, i32_w]; rfl
        refine last_ (i := 10) (N := none) (bm 11 2047) rfl rfl (one_of HT_.out sqF) (by decide) (fun K hK => ?_); have hs25 : w23.cell? ⟨gb178, 1, none⟩ = some (u179001) := (blk_cell BK178.out 1).trans rfl; have hfs25 := blk_frozen BK178.out 1; have hns25_0 := NB176_178.out; have hns25_1 := NB177_178.out; have hms25_0 := NB178_176.out; have hms25_1 := NB178_177.out; refine skip_ (w1 := ?_) (by rfl) rfl ?_ ?_
        rotate_left
        ·go_simp
         rfl
        refine hK.out _ _ ?_; clear hK K; refine done_ (done_of HT_.out sqF) ?_
        try go_wp2
        go_roundg k1
        case measure => have := HK1.out; omega
        case rel => exact ⟨(wrap64 (x6_1 + 1)), (y180), (.slice Ao24 y180.length co24), sqE, H', ⟨by have := HK1.out; omega⟩, ⟨by (with_reducible repeat (first | apply Kd.R_alloc | apply Kd.R_drewN | apply Kd.R_drew)); exact Kd.R_mono (Kd.R_far (p := ⟨gb178, 1, none⟩) (Kd.R_types HO182.out BK178.out (by decide)) (fun _ hk => hk.2) (.slice Ao24 y180.length co24)) (fun _ hk => hk.1)⟩, ⟨sqX⟩, ⟨sqX⟩, ⟨by (with_reducible repeat (first | refine blk_drewN ?_ _ | refine blk_drew ?_ | refine blk_alloc ?_ _)); refine blk_put (cs := #[.slice Ao3 n0 co3, u179001]) ?_ 1 _ rfl; (with_reducible repeat (first | refine blk_drewN ?_ _ | refine blk_drew ?_ | refine blk_alloc ?_ _)); exact BK178.out⟩, ⟨by repeat (first | (with_reducible first | exact HK.out | apply Kept.alloc | apply Kept.drewN | apply Kept.drew | refine Kept.setCell ?_ (.inr GW176.out) _ | refine Kept.setCell ?_ (.inr GW177.out) _ | refine Kept.setCell ?_ (.inr GW178.out) _) | exact HK.out)⟩, ⟨(sqB HB)⟩⟩
       ·rw [if_neg c18] at H
        exact absurd H (by simp)
      ·rw [if_neg c17] at H
       exact absurd H (by simp)
     ·rw [if_neg c16] at H
      have c16b0 : ((Go.bits .and .i64 (ji15) 1) == 0) = false := beq_eq_false_iff_ne.mpr c16; have c16b1 : ((Go.bits .and .i64 (ji15) 1) != 0) = true := bne_iff_ne.mpr c16; have H' := Aside0.mk H; clear H; have hnb26 := NB176_177.out; have hnc26 := NB177_176.out; have hnb27 := NB176_178.out; have hnc27 := NB178_176.out; have hcz28_0 := sqc0 BK176; have hcz28_1 := sqc1 BK176; have hfz28_0 := blk_frozen BK176.out 0; have hfz28_1 := blk_frozen BK176.out 1
      go_wp2
      go_roundg k1
      case measure => have := HK1.out; omega
      case rel => exact ⟨(wrap64 (x6_1 + 1)), (x179001_1), (u179001), sqE, H', ⟨by have := HK1.out; omega⟩, ⟨sqR HO_179001⟩, ⟨sqK BK176⟩, ⟨sqK BK177⟩, ⟨sqK BK178⟩, ⟨by repeat (first | (with_reducible first | exact HK.out | apply Kept.alloc | apply Kept.drewN | apply Kept.drew | refine Kept.setCell ?_ (.inr GW176.out) _ | refine Kept.setCell ?_ (.inr GW177.out) _ | refine Kept.setCell ?_ (.inr GW178.out) _) | exact HK.out)⟩, ⟨(sqB HB)⟩⟩
    ·rw [if_neg c14] at H
     exact absurd H (by simp)
   ·rw [if_neg c12] at H
    have c12b0 : decide (x6_1 < (l0_1.length : Int)) = false := decide_eq_false c12; clear c12; simp only [Option.some.injEq, Prod.mk.injEq] at H; obtain ⟨rfl, rfl⟩ := H; have hnb29 := NB176_177.out; have hnc29 := NB177_176.out; have hnb30 := NB176_178.out; have hnc30 := NB178_176.out; have hcz31_0 := sqc0 BK176; have hcz31_1 := sqc1 BK176; have hfz31_0 := blk_frozen BK176.out 0; have hfz31_1 := blk_frozen BK176.out 1; have hnb32 := NB178_177.out; have hnc32 := NB177_178.out; have hcz33_0 := sqc0 BK178; have hcz33_1 := sqc1 BK178; have hfz33_0 := blk_frozen BK178.out 0; have hfz33_1 := blk_frozen BK178.out 1; have hcz34_0 := sqc0 BK177; have hcz34_1 := sqc1 BK177; have hfz34_0 := blk_frozen BK177.out 0; have hfz34_1 := blk_frozen BK177.out 1; obtain ⟨Ao35, co35, eo35⟩ := Kd.R_slice HO_179001.out; subst eo35
    go_wp2
    refine bodyPost_ret (results_cell_row rfl _ _ gb177 25 #[.slice Ao3 n0 co3, .slice Ao35 x179001_1.length co35] (0, 0) _ rfl (by (with_reducible repeat (first | refine blk_drewN ?_ _ | refine blk_drew ?_ | refine blk_alloc ?_ _)); refine blk_put (cs := #[.slice Ao3 n0 co3, .slice none 0 0]) ?_ 1 _ rfl; (with_reducible repeat (first | refine blk_drewN ?_ _ | refine blk_drew ?_ | refine blk_alloc ?_ _)); refine blk_put (cs := #[.slice none 0 0, .slice none 0 0]) ?_ 0 _ rfl; (with_reducible repeat (first | refine blk_drewN ?_ _ | refine blk_drew ?_ | refine blk_alloc ?_ _)); exact BK177.out) Tryd.underlying25 rfl sqF) rfl ?_; exact ⟨_, by first | rfl | (simp; done), by (with_reducible repeat (first | apply Kd.R_alloc | apply Kd.R_drewN | apply Kd.R_drew)); exact Kd.R_mono (Kd.R_far (p := ⟨gb177, 1, none⟩) (Kd.R_far (p := ⟨gb177, 0, none⟩) (Kd.R_types HO_179001.out BK177.out (by decide)) (fun _ hk => hk.2) (.slice Ao3 n0 co3)) (fun _ hk => hk.2) (.slice Ao35 x179001_1.length co35)) (fun _ hk => trivial), sqB HB⟩
end
end Go.Proofs.YtemingmeidmjkaaDoor.Q
namespace Go.Proofs.YtemingmeidmjkaaDoor.Q
open Go.RowKit Go.Shelf Go.Proofs.YtemingmeidmjkaaDoorW.PrintWords Go.Proofs.YtemingmeidmjkaaDoorW.PrintLast
set_option linter.unusedVariables false
set_option linter.unusedSimpArgs false
theorem and_one (n : Int) : Go.bits .and .i64 n 1 = n % 2 := by
 have h1 : (BitVec.ofInt 64 1).toNat = 2 ^ 1 - 1 := by decide
 have key : (BitVec.ofInt 64 n &&& BitVec.ofInt 64 1).toNat = (n % ((2 ^ 64 : Nat) : Int)).toNat % 2 ^ 1 := by
  rw [BitVec.toNat_and, BitVec.toNat_ofInt, h1, Nat.and_two_pow_sub_one_eq_mod]
 show IntKind.i64.wrap ((BitVec.ofInt 64 n &&& BitVec.ofInt 64 1).toNat : Nat) = n % 2
 rw [key, IntKind.wrap_i64]; omega
theorem shr_nat (set : Int) (i : Nat) (h : i ≤ 64) : shr .i64 set (i : Int) = set / 2 ^ i := by
 unfold shr
 rw [Int.toNat_natCast, Nat.min_eq_left (show i ≤ IntKind.i64.bits from h)]
theorem u64_nat (i : Nat) (h : i ≤ 100000) : IntKind.u64.wrap (i : Int) = (i : Int) := by
 rw [IntKind.wrap_u64]; omega
theorem bitB_div (set : Int) (i : Nat) (h : i ≤ 64) : bitB set (i : Int) = decide (set / 2 ^ i % 2 = 1) := by
 unfold bitB
 rw [and_one, shr_nat set i h]
theorem div_zero_bit {set : Int} {i : Nat} (h0 : 0 ≤ set) (h : ¬ set / 2 ^ i > 0) (j : Nat) (hj : i ≤ j) : set / 2 ^ j = 0 := by
 obtain ⟨s, rfl⟩ : ∃ s : Nat, set = (s : Int) := ⟨set.toNat, by omega⟩
 have e : ∀ k : Nat, ((s : Int) / 2 ^ k) = ((s / 2 ^ k : Nat) : Int) := fun k => by
  rw [show ((2 : Int) ^ k) = ((2 ^ k : Nat) : Int) by rw [Int.natCast_pow]; rfl]; rfl
 rw [e] at h ⊢
 have h1 : s / 2 ^ i = 0 := by
  generalize s / 2 ^ i = q at h
  omega
 have h2 : s < 2 ^ i := by
  rcases Nat.div_eq_zero_iff.1 h1 with h2 | h2
  ·exact absurd h2 (by have := Nat.two_pow_pos i; omega)
  ·exact h2
 have h3 : s / 2 ^ j = 0 := Nat.div_eq_of_lt (Nat.lt_of_lt_of_le h2 (Nat.pow_le_pow_right (by omega) hj)); rw [h3]; rfl
theorem dropN_stop {set : Int} {i : Nat} (h0 : 0 ≤ set) (h : ¬ set / 2 ^ i > 0) : ∀ (d : Nat), i + d ≤ 64 → dropN set (i + d) = dropN set i
 | 0, _ => rfl
 | d + 1, hd => by
  have ih := dropN_stop h0 h d (by omega); rw [show i + (d + 1) = i + d + 1 by omega, dropN_succ, ih, bitB_div set (i + d) (by omega), div_zero_bit h0 h (i + d) (by omega)]
  simp
theorem Numbers_l0 (set : Int) (n : Nat) (hn : n ≤ 60) (h0 : 0 ≤ set) (hs : set < 2 ^ n) : ∀ (d i : Nat), i + d = n → Ev (fun k => Y.rf_Numbers.l0 k set (dropN set i) (i : Int)) (dropN set n)
 | 0, i, hd => by
  obtain rfl : i = n := by omega
  have hz : ¬ set / 2 ^ i > 0 := by
   rw [Int.ediv_eq_zero_of_lt h0 hs]; omega
  refine Ev.up ?_; simp only [Y.rf_Numbers.l0, u64_nat i (by omega), if_pos (show (0 : Int) ≤ (i : Int) by omega), shr_nat set i (by omega), if_neg hz]; exact Ev.now _
 | d + 1, i, hd => by
  have ih := Numbers_l0 set n hn h0 hs d (i + 1) (by omega); rw [dropN_succ] at ih; have hl := dropN_len set i; refine Ev.up ?_; simp only [Y.rf_Numbers.l0, u64_nat i (by omega), if_pos (show (0 : Int) ≤ (i : Int) by omega), shr_nat set i (by omega), and_one, if_pos (show (dropN set i).length < 17592186044416 by omega), wi i (by omega)]
  by_cases hz : set / 2 ^ i > 0
  ·simp only [if_pos hz]
   by_cases hb : set / 2 ^ i % 2 = 1
   ·rw [bitB_div set i (by omega), decide_eq_true hb] at ih
    simp only [if_pos hb]; exact ih
   ·rw [bitB_div set i (by omega), decide_eq_false hb] at ih
    simp only [Bool.false_eq_true, if_false, List.append_nil] at ih; simp only [if_neg hb]; exact ih
  ·simp only [if_neg hz]
   have := dropN_stop h0 hz (d + 1) (by omega); rw [show i + (d + 1) = n by omega] at this; rw [this]; exact Ev.now _
theorem Numbers_f (set : Int) (n : Nat) (hn : n ≤ 60) (h0 : 0 ≤ set) (hs : set < 2 ^ n) : Ev (fun k => Y.rf_Numbers.f k set) (dropN set n) := Numbers_l0 set n hn h0 hs n 0 (by omega)
def lessB (a b : List Int) : Bool := if a.length = b.length then decide (cmpL a b < 0) else decide (a.length < b.length)
theorem Less_l0 (a b : List Int) (ha : a.length ≤ 1000) (hab : a.length = b.length) : ∀ (d i : Nat), i + d = a.length → Ev (fun k => Y.rf_Less.l0 k a b (i : Int)) (decide (cmpL (a.drop i) (b.drop i) < 0))
 | 0, i, hd => by
  refine Ev.up ?_; simp only [Y.rf_Less.l0, if_neg (show ¬ (i : Int) < (a.length : Int) by omega)]; rw [List.drop_eq_nil_of_le (by omega), List.drop_eq_nil_of_le (by omega)]; exact Ev.now _
 | d + 1, i, hd => by
  have hi : i < a.length := by omega
  have hi2 : i < b.length := by omega
  have ih := Less_l0 a b ha hab d (i + 1) (by omega)
  have e1 : rd a (i : Int) = a[i] := by simp [rd, hi]
  have e2 : rd b (i : Int) = b[i] := by simp [rd, hi2]
  refine Ev.up ?_; simp only [Y.rf_Less.l0, if_pos (show (i : Int) < (a.length : Int) by omega), if_pos (show (i : Int) < (b.length : Int) by omega), if_pos (show (0 : Int) ≤ (i : Int) by omega), e1, e2, wi i (by omega)]; rw [List.drop_eq_getElem_cons hi, List.drop_eq_getElem_cons hi2, cmpL]
  by_cases e : a[i] = b[i]
  ·simp only [if_pos e, if_neg (show ¬ a[i] < b[i] by omega), if_neg (show ¬ a[i] > b[i] by omega)]
   exact ih
  ·simp only [if_neg e]
   by_cases h1 : a[i] < b[i]
   ·simp only [if_pos h1, decide_eq_true h1]
    exact Ev.now _
   ·simp only [if_neg h1, if_pos (show a[i] > b[i] by omega), decide_eq_false h1]
    exact Ev.now _
theorem Less_f (a b : List Int) (ha : a.length ≤ 1000) : Ev (fun k => Y.rf_Less.f k a b) (lessB a b) := by
 unfold Y.rf_Less.f lessB
 by_cases h : a.length = b.length
 ·simp only [if_pos h, if_pos (show (a.length : Int) = (b.length : Int) by omega)]
  exact Less_l0 a b ha h a.length 0 (by omega)
 ·simp only [if_neg h, if_neg (show ¬ (a.length : Int) = (b.length : Int) by omega)]
  have e : decide (a.length < b.length) = decide ((a.length : Int) < (b.length : Int)) := by rw [decide_eq_decide]; omega
  rw [e]; exact Ev.now _
def keepS (wg : List S80) (set : Int) (k : Nat) : List S80 := ((List.range k).filter fun (i : Nat) => !bitB set i).map fun (i : Nat) => rd_T80 wg i
theorem keepS_succ (wg : List S80) (set : Int) (k : Nat) : keepS wg set (k + 1) = keepS wg set k ++ (if bitB set k then [] else [rd_T80 wg k]) := by
 unfold keepS
 rw [List.range_succ, List.filter_append, List.map_append]
 congr 1
 by_cases h : bitB set k = true <;> simp [h]
theorem keepS_len (wg : List S80) (set : Int) (k : Nat) : (keepS wg set k).length ≤ k := by
 unfold keepS
 rw [List.length_map]; exact Nat.le_trans (List.length_filter_le _ _) (by simp)
theorem keepS_wg (wg : List S80) (set : Int) : toWg (keepS wg set wg.length) = keepN (toWg wg) set (toWg wg).length := by
 unfold keepS keepN
 rw [toWg_len]
 unfold toWg
 rw [List.map_map]
 refine List.map_congr_left fun i hi => ?_
 have hi2 := List.mem_range.1 (List.mem_filter.1 hi).1
 simp [rd_T80, rdWg, hi2]
theorem Without_l0 (st : List S41) (wg : List S80) (set : Int) (hl : wg.length ≤ 60) : ∀ (d i : Nat), i + d = wg.length → Ev (fun k => rf_Without.l0 k set (i : Int) st wg st (keepS wg set i)) (st, keepS wg set wg.length)
 | 0, i, hd => by
  obtain rfl : i = wg.length := by omega
  refine Ev.up ?_; simp only [rf_Without.l0, if_neg (Int.lt_irrefl _)]; exact Ev.now _
 | d + 1, i, hd => by
  have ih := Without_l0 st wg set hl d (i + 1) (by omega); rw [keepS_succ, bitB_div set i (by omega)] at ih; have hk := keepS_len wg set i; have h2 := Int.emod_two_eq (set / 2 ^ i); refine Ev.up ?_; simp only [rf_Without.l0, if_pos (show (i : Int) < (wg.length : Int) by omega), u64_nat i (by omega), if_pos (show (0 : Int) ≤ (i : Int) by omega), shr_nat set i (by omega), and_one, if_pos (show (keepS wg set i).length < 5864062014805 by omega), wi i (by omega)]
  by_cases hb : set / 2 ^ i % 2 = 0
  ·rw [decide_eq_false (show ¬ set / 2 ^ i % 2 = 1 by omega)] at ih
   simp only [Bool.false_eq_true, if_false] at ih; simp only [if_pos hb]; exact ih
  ·rw [decide_eq_true (show set / 2 ^ i % 2 = 1 by omega)] at ih
   simp only [if_true, List.append_nil] at ih; simp only [if_neg hb]; exact ih
theorem Without_f (st : List S41) (wg : List S80) (set : Int) (hl : wg.length ≤ 60) : Ev (fun k => rf_Without.f k st wg set) (st, keepS wg set wg.length) := Without_l0 st wg set hl wg.length 0 (by omega)
def wqStep (st : List Sp) (wg : List Wg) (x : List Int × Bool) (s : Nat) : List Int × Bool :=
 if (!x.2 || lessB (dropN s wg.length) x.1) && honB st (keepN wg s wg.length) then (dropN s wg.length, true) else x
def wqN (st : List Sp) (wg : List Wg) (k : Nat) : List Int × Bool := (List.range k).foldl (wqStep st wg) ([], false)
theorem wqN_succ (st : List Sp) (wg : List Wg) (k : Nat) : wqN st wg (k + 1) = wqStep st wg (wqN st wg k) k := by
 simp only [wqN, List.range_succ, List.foldl_append, List.foldl_cons, List.foldl_nil]
theorem wqN_len (st : List Sp) (wg : List Wg) : ∀ k, (wqN st wg k).1.length ≤ wg.length
 | 0 => by simp [wqN]
 | k + 1 => by
  rw [wqN_succ, wqStep]; have h1 := wqN_len st wg k; have h2 := dropN_len (k : Int) wg.length
  split
  ·exact h2
  ·exact h1
def wqL (st : List Sp) (wg : List Wg) : List Int := (wqN st wg (2 ^ wg.length)).1
end Go.Proofs.YtemingmeidmjkaaDoor.Q
namespace Go.Proofs.YtemingmeidmjkaaDoor.Q
open Go.RowKit Go.Shelf Go.Proofs.YtemingmeidmjkaaDoorW.PrintWords Go.Proofs.YtemingmeidmjkaaDoorW.PrintLast
set_option linter.unusedVariables false
set_option linter.unusedSimpArgs false
set_option maxRecDepth 100000 in
set_option maxHeartbeats 1000000 in
theorem wrongRef_ (A : Option Addr) (c : Nat) (st : List S41) (A2 : Option Addr) (c2 : Nat) (wg : List S80) (w : World) (hr : Kd.C k41 w A st.length st) (hc : st.length ≤ c) (hr2 : Kd.C k80 w A2 wg.length wg) (hc2 : wg.length ≤ c2) (hok : RdOk (toSt st) (toWg wg)) (h8 : wg.length ≤ 8) (h5 : st.length ≤ 5) :
  Calls Tryd.prog 38 #[.agg #[.slice A st.length c, .slice A2 wg.length c2]] w fun e w' => ∃ v, e = .returned v ∧ Kd.R (Kd.int .i64) 3 w' w.heap.size (fun _ => True) v (wqL (toSt st) (toWg wg)) ∧ Up w w' := by
 have HR := Aside0.mk hr; have HR2 := Aside0.mk hr2; have HOK := Aside0.mk hok; have HL : Aside0 (wqL (toSt st) (toWg wg) = (wqN (toSt st) (toWg wg) (2 ^ wg.length)).1) := ⟨by rw [wqL, toWg_len]⟩; have hp2 : 2 ^ wg.length ≤ 256 := Nat.pow_le_pow_right (n := 2) (by omega) h8; have hp1 : 1 ≤ 2 ^ wg.length := Nat.one_le_two_pow
 have hwe : ((2 : Int) ^ wg.length) = ((2 ^ wg.length : Nat) : Int) := by rw [Int.natCast_pow]; rfl
 have hwN : wrap64 ((2 : Int) ^ wg.length) = ((2 ^ wg.length : Nat) : Int) := by rw [hwe]; exact wr (by omega)
 have HWE := Aside0.mk hwe; have HB1 : Aside0 (Bx (w.alloc (.cells #[.slice A st.length c, .slice A2 wg.length c2] 25)) w.heap.size #[.slice A st.length c, .slice A2 wg.length c2] 25) := ⟨Bx.new w _ _⟩; clear hwe hr hr2 hok; obtain ⟨N, hN⟩ : ∃ N, N = 2 ^ wg.length := ⟨_, rfl⟩; rw [← hN] at HL hp2 hp1 hwN HWE; have HN := Aside0.mk hN; clear hN; go_enter Tryd.func38, Tryd.ntmps38
 go_wp2_with fail
 have HU0 : Aside0 (Up w ((w.alloc (.cells #[.slice A st.length c, .slice A2 wg.length c2] 25)).alloc (.cells #[] 3))) := ⟨upA⟩; have HB2 : Aside0 (Bx ((w.alloc (.cells #[.slice A st.length c, .slice A2 wg.length c2] 25)).alloc (.cells #[] 3)) w.heap.size #[.slice A st.length c, .slice A2 wg.length c2] 25) := ⟨HB1.out.up upA⟩
 have HE : Aside0 (Kd.R (Kd.int .i64) 3 ((w.alloc (.cells #[.slice A st.length c, .slice A2 wg.length c2] 25)).alloc (.cells #[] 3)) w.heap.size (fun _ => True) (.slice (some ⟨w.heap.size + 1, 0, none⟩) 0 0) []) := ⟨ints_R ⟨by simp [nums], .inr ⟨w.heap.size + 1, 0, #[], rfl, by omega, by
  have h9 := heap_alloc_new (w.alloc (.cells #[.slice A st.length c, .slice A2 wg.length c2] 25)) (.cells #[] 3)
  simpa using h9, by simp, by decide, rfl, by simp [nums]⟩⟩⟩
 go_loopw [3, 4, 5] (fun v3 v4 i wr => ∃ (j : Nat), j ≤ N ∧ i = .int .i64 (j : Int) ∧ v4 = .bool (wqN (toSt st) (toWg wg) j).2 ∧ Aside0 (Kd.R (Kd.int .i64) 3 wr w.heap.size (fun _ => True) v3 (wqN (toSt st) (toWg wg) j).1) ∧ Aside0 (Bx wr w.heap.size #[.slice A st.length c, .slice A2 wg.length c2] 25) ∧ Aside0 (Up w wr)) (fun _ _ i _ => N - (intOf i).toNat)
 case atStart => exact ⟨0, by omega, rfl, rfl, HE, HB2, HU0⟩
 case round =>
  clear HB1 HB2 HU0 HE; obtain ⟨j, hj, rfl, rfl, hO, hB, hU⟩ := hrel; have hqb := hB.out.cell
  by_cases hlt : j < N
  ·have hlt2 : (j : Int) < (N : Int) := by omega
   have hwk : IntKind.i64.wrap ((j : Int) + 1) = (j : Int) + 1 := IntWalk.i64_in _ (by omega); have hdl := dropN_len (j : Int) wg.length; have hkl := keepS_len wg (j : Int) wg.length
   have hok3 : RdOk (toSt st) (toWg (keepS wg (j : Int) wg.length)) := by rw [keepS_wg]; exact keep_ok HOK.out (j : Int)
   have hbl := wqN_len (toSt st) (toWg wg) j; rw [toWg_len] at hbl; have hst := wqN_succ (toSt st) (toWg wg) j; rw [wqStep, toWg_len, show keepN (toWg wg) (j : Int) wg.length = toWg (keepS wg (j : Int) wg.length) by rw [keepS_wg, toWg_len]] at hst; obtain ⟨k1, hk1⟩ := Numbers_f (j : Int) wg.length (by omega) (by omega) (by rw [HWE.out]; exact hlt2); obtain ⟨k3, hk3⟩ := Without_f st wg (j : Int) (by omega); obtain ⟨D, hD⟩ : ∃ D, D = dropN (j : Int) wg.length := ⟨_, rfl⟩; obtain ⟨K, hK⟩ : ∃ K, K = keepS wg (j : Int) wg.length := ⟨_, rfl⟩; rw [← hD] at hdl hst hk1; rw [← hK] at hkl hok3 hst hk3; clear hD hK; obtain ⟨k4, hk4⟩ := Sets_f st K (-1) hok3 (by omega) (by omega); obtain ⟨k5, hk5⟩ := Is_f (st.length + 1) (fun q => fuB (toSt st) (toWg K) (-1) (st.length - q) q) (by omega); have hdh := dec_hon hok3; simp only [hdh] at hk5; clear hdh; obtain ⟨⟨b, f⟩, hbf⟩ : ∃ x, x = wqN (toSt st) (toWg wg) j := ⟨_, rfl⟩; rw [← hbf] at hbl hst hO; rw [← hbf]; simp only at hbl hst hO; have HST := Aside0.mk hst; have HCN : Aside0 (∀ W, Calls Tryd.prog 79 #[.int .i64 (j : Int)] W fun e w' => ∃ v, e = .returned v ∧ Kd.R (Kd.int .i64) 3 w' W.heap.size (fun _ => True) v D ∧ Up W w') := ⟨fun W => Y.rf_Numbers.calls k1 (j : Int) D W (hk1 k1 (Nat.le_refl _))⟩
   have HCL : Aside0 (∀ W A5 c5 A6 c6, Kd.C (Kd.int .i64) W A5 D.length D → D.length ≤ c5 → Kd.C (Kd.int .i64) W A6 b.length b → b.length ≤ c6 → Calls Tryd.prog 80 #[.slice A5 D.length c5, .slice A6 b.length c6] W fun e w' => e = .returned (.bool (lessB D b)) ∧ Up W w') := ⟨fun W A5 c5 A6 c6 h1 h2 h3 h4 => by
    obtain ⟨k2, hk2⟩ := Less_f D b (by omega); refine (Y.rf_Less.calls k2 A5 c5 D A6 c6 b (lessB D b) W h1 h2 h3 h4 (hk2 k2 (Nat.le_refl _))).mono ?_; rintro e w' ⟨rfl, hd⟩
    exact ⟨rfl, Up.ofDrawn hd⟩⟩
   have HCW : Aside0 (∀ W, Up w W → Calls Tryd.prog 81 #[.agg #[.slice A st.length c, .slice A2 wg.length c2], .int .i64 (j : Int)] W fun e w' => ∃ v, e = .returned (.agg #[.slice A st.length c, v]) ∧ Kd.R k80 80 w' W.heap.size (fun _ => True) v K ∧ Up W w') := ⟨fun W hu => without2_ k3 A st.length c st A2 c2 wg (j : Int) st K W (C_up HR2.out hu) hc2 (hk3 k3 (Nat.le_refl _))⟩; have HCS : Aside0 (∀ W A5 c5, Up w W → Kd.C k80 W A5 K.length K → K.length ≤ c5 → Calls Tryd.prog 24 #[.agg #[.slice A st.length c, .slice A5 K.length c5], .int .i64 (-1)] W fun e w' => ∃ v, e = .returned v ∧ Kd.S (Kd.slice 4 Kd.bool) 104 w' W.heap.size (fun _ => True) v (rowsL (st.length + 1) (fun q => fuB (toSt st) (toWg K) (-1) (st.length - q) q)) ∧ Up W w') := ⟨fun W A5 c5 hu h1 h2 => rf_Sets.calls k4 A c st A5 c5 K (-1) _ W (C_up HR.out hu) hc h1 h2 (hk4 k4 (Nat.le_refl _))⟩
   have HCI : Aside0 (∀ W A5 c5 n, n = (rowsL (st.length + 1) (fun q => fuB (toSt st) (toWg K) (-1) (st.length - q) q)).length → Kd.C (Kd.slice 4 Kd.bool) W A5 n (rowsL (st.length + 1) (fun q => fuB (toSt st) (toWg K) (-1) (st.length - q) q)) → n ≤ c5 → Calls Tryd.prog 25 #[.slice A5 n c5] W fun e w' => e = .returned (.bool (honB (toSt st) (toWg K))) ∧ Up W w') := ⟨fun W A5 c5 n hn h1 h2 => by
    subst hn
    exact rf_Is.calls k5 A5 c5 _ _ W h1 h2 (hk5 k5 (Nat.le_refl _))⟩
   clear hk1 hk3 hk4 hk5 hst hbf hok3; generalize rowsL (st.length + 1) (fun q => fuB (toSt st) (toWg K) (-1) (st.length - q) q) = RW at *
   go_wp2_with fail
   refine (HCN.out _).mono ?_; rintro e w2 ⟨vD, rfl, hD, hb2⟩; have HU2 := Aside0.mk (hU.out.then hb2); have HO2 := Aside0.mk (Kd.R_below hO.out hb2); have HB2 := Aside0.mk (hB.out.up hb2); have HD2 : Aside0 (Kd.R (Kd.int .i64) 3 w2 w.heap.size (fun _ => True) vD D) := ⟨Kd.R_lower hD hU.out.le⟩; clear hD hb2 hqb hO hB hU HCN; have hqb := HB2.out.cell
   cases f
   ·go_wp2_with fail
    refine (HCW.out _ HU2.out).mono ?_; rintro e w3 ⟨vK, rfl, hK3, hb3⟩; obtain ⟨A5, c5, rfl⟩ := Kd.R_slice hK3; obtain ⟨_, hc5, hK3C⟩ := Kd.R_reads' hK3; have HU3 := Aside0.mk (HU2.out.then hb3); have HO3 := Aside0.mk (Kd.R_below HO2.out hb3); have HD3 := Aside0.mk (Kd.R_below HD2.out hb3); have HB3 := Aside0.mk (HB2.out.up hb3); clear hK3 hb3 hqb HO2 HD2 HB2; go_wp2_with fail; refine (HCS.out _ _ _ HU3.out hK3C hc5).mono ?_; rintro e w4 ⟨vS, rfl, hS4, hb4⟩; obtain ⟨A6, c6, rfl⟩ := Kd.S_slice hS4; obtain ⟨_, hc6, hS4C⟩ := Kd.S_reads' hS4; have HU4 := Aside0.mk (HU3.out.then hb4); have HO4 := Aside0.mk (Kd.R_below HO3.out hb4); have HD4 := Aside0.mk (Kd.R_below HD3.out hb4); have HB4 := Aside0.mk (HB3.out.up hb4); clear hS4 hb4 hK3C hc5 HO3 HD3 HB3 HU3; go_wp2_with fail; refine (HCI.out _ _ _ _ rfl hS4C hc6).mono ?_; rintro e w5 ⟨rfl, hb5⟩; have HU5 := Aside0.mk (HU4.out.then hb5); have HO5 := Aside0.mk (Kd.R_below HO4.out hb5); have HD5 := Aside0.mk (Kd.R_below HD4.out hb5); have HB5 := Aside0.mk (HB4.out.up hb5); clear hb5 hS4C hc6 HO4 HD4 HB4 HU4
    cases hh : honB (toSt st) (toWg K)
    ·have HS2 : Aside0 (wqN (toSt st) (toWg wg) (j + 1) = (b, false)) := ⟨by rw [HST.out, hh, Bool.and_false]; rfl⟩
     clear hh; go_wp2_with fail
     go_roundw
     case rel => exact ⟨j + 1, by omega, by go_num, by rw [HS2.out], ⟨by rw [HS2.out]; exact HO5.out⟩, HB5, HU5⟩
     case measure => simp [intOf]; omega
    ·have HS2 : Aside0 (wqN (toSt st) (toWg wg) (j + 1) = (D, true)) := ⟨by rw [HST.out, hh]; rfl⟩
     clear hh; go_wp2_with fail
     go_roundw
     case rel => exact ⟨j + 1, by omega, by go_num, by rw [HS2.out], ⟨by rw [HS2.out]; exact HD5.out⟩, HB5, HU5⟩
     case measure => simp [intOf]; omega
   ·obtain ⟨A7, c7, rfl⟩ := Kd.R_slice HD2.out
    obtain ⟨_, hc7, hD7⟩ := Kd.R_reads' HD2.out; obtain ⟨A8, c8, rfl⟩ := Kd.R_slice HO2.out; obtain ⟨_, hc8, hO8⟩ := Kd.R_reads' HO2.out
    go_wp2_with fail
    refine (HCL.out _ _ _ _ _ hD7 hc7 hO8 hc8).mono ?_; rintro e w6 ⟨rfl, hb6⟩; have HU6 := Aside0.mk (HU2.out.then hb6); have HO6 := Aside0.mk (Kd.R_below HO2.out hb6); have HD6 := Aside0.mk (Kd.R_below HD2.out hb6); have HB6 := Aside0.mk (HB2.out.up hb6); clear hb6 hc7 hD7 hc8 hO8 HU2 HO2 HD2 HB2 hqb; have hqb := HB6.out.cell
    cases hle : lessB D b
    ·have HS2 : Aside0 (wqN (toSt st) (toWg wg) (j + 1) = (b, true)) := ⟨by rw [HST.out, hle]; rfl⟩
     clear hle; go_wp2_with fail
     go_roundw
     case rel => exact ⟨j + 1, by omega, by go_num, by rw [HS2.out], ⟨by rw [HS2.out]; exact HO6.out⟩, HB6, HU6⟩
     case measure => simp [intOf]; omega
    ·have HLE := Aside0.mk hle
     clear hle; go_wp2_with fail; refine (HCW.out _ HU6.out).mono ?_; rintro e w3 ⟨vK, rfl, hK3, hb3⟩; obtain ⟨A5, c5, rfl⟩ := Kd.R_slice hK3; obtain ⟨_, hc5, hK3C⟩ := Kd.R_reads' hK3; have HU3 := Aside0.mk (HU6.out.then hb3); have HO3 := Aside0.mk (Kd.R_below HO6.out hb3); have HD3 := Aside0.mk (Kd.R_below HD6.out hb3); have HB3 := Aside0.mk (HB6.out.up hb3); clear hK3 hb3 hqb HO6 HD6 HB6; go_wp2_with fail; refine (HCS.out _ _ _ HU3.out hK3C hc5).mono ?_; rintro e w4 ⟨vS, rfl, hS4, hb4⟩; obtain ⟨A6, c6, rfl⟩ := Kd.S_slice hS4; obtain ⟨_, hc6, hS4C⟩ := Kd.S_reads' hS4; have HU4 := Aside0.mk (HU3.out.then hb4); have HO4 := Aside0.mk (Kd.R_below HO3.out hb4); have HD4 := Aside0.mk (Kd.R_below HD3.out hb4); have HB4 := Aside0.mk (HB3.out.up hb4); clear hS4 hb4 hK3C hc5 HO3 HD3 HB3 HU3; go_wp2_with fail; refine (HCI.out _ _ _ _ rfl hS4C hc6).mono ?_; rintro e w5 ⟨rfl, hb5⟩; have HU5 := Aside0.mk (HU4.out.then hb5); have HO5 := Aside0.mk (Kd.R_below HO4.out hb5); have HD5 := Aside0.mk (Kd.R_below HD4.out hb5); have HB5 := Aside0.mk (HB4.out.up hb5); clear hb5 hS4C hc6 HO4 HD4 HB4 HU4
     cases hh : honB (toSt st) (toWg K)
     ·have HS2 : Aside0 (wqN (toSt st) (toWg wg) (j + 1) = (b, true)) := ⟨by rw [HST.out, hh, Bool.and_false]; rfl⟩
      clear hh; go_wp2_with fail
      go_roundw
      case rel => exact ⟨j + 1, by omega, by go_num, by rw [HS2.out], ⟨by rw [HS2.out]; exact HO5.out⟩, HB5, HU5⟩
      case measure => simp [intOf]; omega
     ·have HS2 : Aside0 (wqN (toSt st) (toWg wg) (j + 1) = (D, true)) := ⟨by rw [HST.out, hh, HLE.out]; rfl⟩
      clear hh; go_wp2_with fail
      go_roundw
      case rel => exact ⟨j + 1, by omega, by go_num, by rw [HS2.out], ⟨by rw [HS2.out]; exact HD5.out⟩, HB5, HU5⟩
      case measure => simp [intOf]; omega
  ·obtain rfl : j = N := by omega
   go_wp2_with fail
   go_ret
   exact ⟨_, rfl, by rw [HL.out]; exact hO.out, hU.out⟩
end Go.Proofs.YtemingmeidmjkaaDoor.Q
namespace Go.Proofs.YtemingmeidmjkaaDoor.Q
open Go.RowKit Go.Proofs.YtemingmeidmjkaaDoorW.PrintWords Go.Proofs.YtemingmeidmjkaaDoorW.PrintLast Go.Proofs.YtemingmeidmjkaaDoorW.PrintMore
attribute [local go_sem] max2_int min2_int max_two min_two max_three min_three max_four min_four   -- for this text's walks alone
set_option linter.unusedVariables false
set_option linter.unusedSimpArgs false
def rf_Wrong.f (l0_0 : List (S41)) (l0_1 : List (S80)) : Option (List Int) := if roadE (toSt l0_0) (toWg l0_1) = 0 then some (wqL (toSt l0_0) (toWg l0_1)) else none
theorem rf_Wrong.calls (A0_0 : Option Addr) (c0_0 : Nat) (l0_0 : List (S41)) (A0_1 : Option Addr) (c0_1 : Nat) (l0_1 : List (S80)) (r : List Int) (w : World) (hr0_0 : Kd.C k41 w A0_0 l0_0.length l0_0) (hc0_0 : l0_0.length ≤ c0_0) (hr0_1 : Kd.C k80 w A0_1 l0_1.length l0_1) (hc0_1 : l0_1.length ≤ c0_1) (h : rf_Wrong.f l0_0 l0_1 = some r) :
  Calls Tryd.prog 38 #[.agg #[.slice A0_0 l0_0.length c0_0, .slice A0_1 l0_1.length c0_1]] w fun e w' => ∃ v0_ : Value, e = .returned (v0_) ∧ Kd.R (Kd.int .i64) 3 w' w.heap.size (fun _ => True) v0_ r ∧ Below w.heap.size w w' := by
 unfold rf_Wrong.f at h
 by_cases he : roadE (toSt l0_0) (toWg l0_1) = 0
 ·rw [if_pos he] at h
  obtain rfl := Option.some.inj h; have hk := road_ok he; rw [toSt_len, toWg_len] at hk; exact wrongRef_ A0_0 c0_0 l0_0 A0_1 c0_1 l0_1 w hr0_0 hc0_0 hr0_1 hc0_1 hk.1 hk.2.2.2.1 hk.2.2.1
 ·rw [if_neg he] at h
  cases h
end Go.Proofs.YtemingmeidmjkaaDoor.Q
namespace Go.Proofs.YtemingmeidmjkaaDoor.Q
open Go.RowKit Go.Proofs.YtemingmeidmjkaaDoorW.PrintWords Go.Proofs.YtemingmeidmjkaaDoorW.PrintLast Go.Proofs.YtemingmeidmjkaaDoorW.PrintMore
attribute [local go_sem] max2_int min2_int max_two min_two max_three min_three max_four min_four   -- for this text's walks alone
set_option linter.unusedVariables false
set_option linter.unusedSimpArgs false
def lw_WoolWrongs.j0 : Nat → List Int → Int → Int → List Int → Option (Bool)
 | 0, _, _, _, _ => none
 | k + 1, x4, x5, x6, x7 => if x6 = 0 then (if x5 = 0 then ((rf_Ints.f k x4 x7).bind fun t473 => (if t473 = true then ((lw_known.f).bind fun t474 => (some t474)) else (some false))) else (some false)) else (if x5 = x6 then (if (x4.length : Int) = 0 then ((lw_known.f).bind fun t475 => (some t475)) else (some false)) else (some false))
def lw_WoolWrongs.f (k : Nat) (l0_0 : List (S41)) (l0_1 : List (S80)) : Option (Bool) := (lw_long.f l0_0 l0_1).bind fun t452 => (if t452 = true then ((lw_known.f).bind fun t453 => (some t453)) else ((rf_Copy.f l0_0 l0_1).bind fun bt454 => ((wool_Wrong.f bt454.1 bt454.2).bind fun bt461 => ((rf_Same.f k bt454.1 bt454.2 l0_0 l0_1).bind fun t465 => (if t465 = true then ((rf_Check.f k l0_0 l0_1).bind fun t466 => (if t466 = 0 then ((rf_Wrong.f l0_0 l0_1).bind fun t470 => (if (t470.length : Int) = 0 then (lw_WoolWrongs.j0 k bt461.1 bt461.2 6 t470) else (lw_WoolWrongs.j0 k bt461.1 bt461.2 t466 t470))) else (lw_WoolWrongs.j0 k bt461.1 bt461.2 t466 (([] : List Int))))) else (some false))))))
set_option maxHeartbeats 8000000 in
set_option maxRecDepth 100000 in
theorem lw_WoolWrongs.calls (k : Nat) (A0_0 : Option Addr) (c0_0 : Nat) (l0_0 : List (S41)) (A0_1 : Option Addr) (c0_1 : Nat) (l0_1 : List (S80)) (r : Bool) (w : World) (hG : GL w) (hr0_0 : Kd.C k41 w A0_0 l0_0.length l0_0) (hc0_0 : l0_0.length ≤ c0_0) (hr0_1 : Kd.C k80 w A0_1 l0_1.length l0_1) (hc0_1 : l0_1.length ≤ c0_1) (h : lw_WoolWrongs.f k l0_0 l0_1 = some r) :
  Calls Tryd.prog 6 #[.agg #[.slice A0_0 l0_0.length c0_0, .slice A0_1 l0_1.length c0_1]] w fun e w' => e = .returned (.bool r) ∧ Below w.heap.size w w' := by
 have hu25 := Tryd.underlying25; have HR0_0 := Aside0.mk hr0_0; have HC0_0 := Aside0.mk hc0_0; clear hr0_0 hc0_0; have HR0_1 := Aside0.mk hr0_1; have HC0_1 := Aside0.mk hc0_1; clear hr0_1 hc0_1; have HB := Aside0.mk (Below.refl w.heap.size w); have HGL := Aside0.mk hG; clear hG; have H : ((lw_long.f l0_0 l0_1).bind fun t452 => (if t452 = true then ((lw_known.f).bind fun t453 => (some t453)) else ((rf_Copy.f l0_0 l0_1).bind fun bt454 => ((wool_Wrong.f bt454.1 bt454.2).bind fun bt461 => ((rf_Same.f k bt454.1 bt454.2 l0_0 l0_1).bind fun t465 => (if t465 = true then ((rf_Check.f k l0_0 l0_1).bind fun t466 => (if t466 = 0 then ((rf_Wrong.f l0_0 l0_1).bind fun t470 => (if (t470.length : Int) = 0 then (lw_WoolWrongs.j0 k bt461.1 bt461.2 6 t470) else (lw_WoolWrongs.j0 k bt461.1 bt461.2 t466 t470))) else (lw_WoolWrongs.j0 k bt461.1 bt461.2 t466 (([] : List Int))))) else (some false))))))) = some r := h; clear h; obtain ⟨t452, A20, H⟩ := Option.bind_eq_some_iff.mp H; have A2 := Aside0.mk A20; clear A20
 by_cases c3 : t452 = true
 ·subst c3
  rw [if_pos rfl] at H; obtain ⟨t453, A40, H⟩ := Option.bind_eq_some_iff.mp H; have A4 := Aside0.mk A40; clear A40; obtain rfl := Option.some.inj H
  go_enter Tryd.func6, Tryd.ntmps6
  go_wp2_with (first | ((with_reducible refine gate_dst (N := 1) rfl ?_); (try (refine gate_guard (by rfl) ?_; dsimp only)); refine box_event ?hg (N := 1) ?hd (cs := #[.slice A0_0 l0_0.length c0_0, .slice A0_1 l0_1.length c0_1]) (t := 25) ?hr ?_; (case hd => rfl); (case hg => rfl); (case hr => first | (go_simp; done) | (go_simp; rfl)); intro gb451 hg w5 hbox hb; have BK451 := Aside0.mk (hbox); have GW451 := Aside0.mk (sqZ hg HB); have GE451 := Aside0.mk (sqZ hg HB); replace HB := sqb hb HB; clear hb hbox hg; have hcz6_0 := sqc0 BK451; have hcz6_1 := sqc1 BK451; have hfz6_0 := blk_frozen BK451.out 0; have hfz6_1 := blk_frozen BK451.out 1) | ((with_reducible refine gate_callee (f := 16) rfl ?_); refine goesL_ (some 9) rfl rfl Tryd.func16 sqF rfl #[.agg #[.slice A0_0 l0_0.length c0_0, .slice A0_1 l0_1.length c0_1]] rfl sqM ?_; (with_reducible refine (lw_long.calls _ _ l0_0 _ _ l0_1 true _ ?side1 ?side2 ?side3 ?side4 A2.out).mono ?_); (case side1 => exact sqQ HR0_0 HB); (case side2 => exact HC0_0.out); (case side3 => exact sqQ HR0_1 HB); (case side4 => exact HC0_1.out); rintro e w7 ⟨rfl, hb⟩; refine ⟨_, rfl, ?_⟩; replace BK451 := sqk BK451 hb; replace HB := sqb hb HB; (try clear hb); (try clear hb2); (try clear hk); (try clear hi)) | ((with_reducible refine gate_callee (f := 17) rfl ?_); refine goesL_ (some 10) rfl rfl Tryd.func17 sqF rfl #[] rfl sqM ?_; (with_reducible refine (lw_known.calls t453 _ ?sideG A4.out).mono ?_); (case sideG => exact (Kd.C_below HGL.out (sqB HB))); rintro e w8 ⟨rfl, hb⟩; refine ⟨_, rfl, ?_⟩; replace BK451 := sqk BK451 hb; replace HB := sqb hb HB; (try clear hb); (try clear hb2); (try clear hk); (try clear hi)))
  go_ret
  exact ⟨by first | rfl | (simp [errW_none, errW_some] <;> rfl) | (simp [*, errW_none, errW_some] <;> rfl), sqB HB⟩
 ·replace c3 := Bool.eq_false_iff.mpr c3
  subst c3; rw [if_neg Bool.false_ne_true] at H; obtain ⟨⟨t454, t457⟩, A90, H⟩ := Option.bind_eq_some_iff.mp H; replace H : ((wool_Wrong.f t454 t457).bind fun bt461 => ((rf_Same.f k t454 t457 l0_0 l0_1).bind fun t465 => (if t465 = true then ((rf_Check.f k l0_0 l0_1).bind fun t466 => (if t466 = 0 then ((rf_Wrong.f l0_0 l0_1).bind fun t470 => (if (t470.length : Int) = 0 then (lw_WoolWrongs.j0 k bt461.1 bt461.2 6 t470) else (lw_WoolWrongs.j0 k bt461.1 bt461.2 t466 t470))) else (lw_WoolWrongs.j0 k bt461.1 bt461.2 t466 (([] : List Int))))) else (some false)))) = some r := H; have A9 := Aside0.mk A90; clear A90; obtain ⟨⟨t461, t464⟩, A100, H⟩ := Option.bind_eq_some_iff.mp H; replace H : ((rf_Same.f k t454 t457 l0_0 l0_1).bind fun t465 => (if t465 = true then ((rf_Check.f k l0_0 l0_1).bind fun t466 => (if t466 = 0 then ((rf_Wrong.f l0_0 l0_1).bind fun t470 => (if (t470.length : Int) = 0 then (lw_WoolWrongs.j0 k t461 t464 6 t470) else (lw_WoolWrongs.j0 k t461 t464 t466 t470))) else (lw_WoolWrongs.j0 k t461 t464 t466 (([] : List Int))))) else (some false))) = some r := H; have A10 := Aside0.mk A100; clear A100; obtain ⟨t465, A110, H⟩ := Option.bind_eq_some_iff.mp H; have A11 := Aside0.mk A110; clear A110
  by_cases c12 : t465 = true
  ·subst c12
   rw [if_pos rfl] at H; obtain ⟨t466, A130, H⟩ := Option.bind_eq_some_iff.mp H; have A13 := Aside0.mk A130; clear A130; replace H : ∃ y_ : List Int, y_ = (([] : List Int)) ∧ (if t466 = 0 then ((rf_Wrong.f l0_0 l0_1).bind fun t470 => (if (t470.length : Int) = 0 then (lw_WoolWrongs.j0 k t461 t464 6 t470) else (lw_WoolWrongs.j0 k t461 t464 t466 t470))) else (lw_WoolWrongs.j0 k t461 t464 t466 y_)) = some r := ⟨_, rfl, sqJ H⟩; obtain ⟨y467, hy467, H⟩ := H; have Ny467 := Aside0.mk hy467; clear hy467; have HC14 := Aside0.mk H; clear H; go_enter Tryd.func6, Tryd.ntmps6
   go_upto_if 26 with (first | ((with_reducible refine gate_dst (N := 1) rfl ?_); (try (refine gate_guard (by rfl) ?_; dsimp only)); refine box_event ?hg (N := 1) ?hd (cs := #[.slice A0_0 l0_0.length c0_0, .slice A0_1 l0_1.length c0_1]) (t := 25) ?hr ?_; (case hd => rfl); (case hg => rfl); (case hr => first | (go_simp; done) | (go_simp; rfl)); intro gb451 hg w15 hbox hb; have BK451 := Aside0.mk (hbox); have GW451 := Aside0.mk (sqZ hg HB); have GE451 := Aside0.mk (sqZ hg HB); replace HB := sqb hb HB; clear hb hbox hg; have hcz16_0 := sqc0 BK451; have hcz16_1 := sqc1 BK451; have hfz16_0 := blk_frozen BK451.out 0; have hfz16_1 := blk_frozen BK451.out 1) | ((with_reducible refine gate_callee (f := 16) rfl ?_); refine goesL_ (some 9) rfl rfl Tryd.func16 sqF rfl #[.agg #[.slice A0_0 l0_0.length c0_0, .slice A0_1 l0_1.length c0_1]] rfl sqM ?_; (with_reducible refine (lw_long.calls _ _ l0_0 _ _ l0_1 false _ ?side1 ?side2 ?side3 ?side4 A2.out).mono ?_); (case side1 => exact sqQ HR0_0 HB); (case side2 => exact HC0_0.out); (case side3 => exact sqQ HR0_1 HB); (case side4 => exact HC0_1.out); rintro e w17 ⟨rfl, hb⟩; refine ⟨_, rfl, ?_⟩; replace BK451 := sqk BK451 hb; replace HB := sqb hb HB; (try clear hb); (try clear hb2); (try clear hk); (try clear hi); have hcz18_0 := sqc0 BK451; have hcz18_1 := sqc1 BK451; have hfz18_0 := blk_frozen BK451.out 0; have hfz18_1 := blk_frozen BK451.out 1) | ((with_reducible refine gate_callee (f := 18) rfl ?_); refine goesL_ (some 12) rfl rfl Tryd.func18 sqF rfl #[.agg #[.slice A0_0 l0_0.length c0_0, .slice A0_1 l0_1.length c0_1]] rfl sqM ?_; (with_reducible refine (rf_Copy.calls _ _ l0_0 _ _ l0_1 t454 t457 _ ?side1 ?side2 ?side3 ?side4 A9.out).mono ?_); (case side1 => exact sqQ HR0_0 HB); (case side2 => exact HC0_0.out); (case side3 => exact sqQ HR0_1 HB); (case side4 => exact HC0_1.out); rintro e w19 ⟨v455, v458, rfl, ho0, ho1, hb⟩; refine ⟨_, rfl, ?_⟩; have HO456 := Aside0.mk (Kd.R_lower ho0 (below_size (sqB HB))); have HO459 := Aside0.mk (Kd.R_lower ho1 (below_size (sqB HB))); replace BK451 := sqk BK451 hb; replace HB := sqb hb HB; (try clear hb); (try clear hb2); (try clear hk); (try clear hi); (try clear ho0); (try clear ho1)) | ((with_reducible refine gate_dst (N := 3) rfl ?_); (try (refine gate_guard (by rfl) ?_; dsimp only)); refine box_event ?hg (N := 3) ?hd (cs := #[.slice none 0 0, .slice none 0 0]) (t := 25) ?hr ?_; (case hd => rfl); (case hg => rfl); (case hr => first | (go_simp; done) | (go_simp; rfl)); intro gb460 hg w20 hbox hb; replace HO456 := Aside0.mk (Kd.R_below (sqR HO456) hb); replace HO459 := Aside0.mk (Kd.R_below (sqR HO459) hb); have BK460 := Aside0.mk (hbox); have GW460 := Aside0.mk (sqZ hg HB); have GE460 := Aside0.mk (sqZ hg HB); replace HB := sqb hb HB; have NB451_460 := Aside0.mk (sqL hg BK451); have NB460_451 := Aside0.mk (sqG hg BK451); replace BK451 := sqk BK451 hb; clear hb hbox hg; obtain ⟨Ao21, co21, eo21⟩ := Kd.R_slice HO456.out; subst eo21; have hnb22 := NB460_451.out; have hnc22 := NB451_460.out; have hcz23_0 := sqc0 BK460; have hcz23_1 := sqc1 BK460; have hfz23_0 := blk_frozen BK460.out 0; have hfz23_1 := blk_frozen BK460.out 1; obtain ⟨Ao24, co24, eo24⟩ := Kd.R_slice HO459.out; subst eo24) | ((with_reducible refine gate_callee (f := 37) rfl ?_); refine goesL_ (some 15) rfl rfl Tryd.func37 sqF rfl #[.agg #[.slice Ao21 t454.length co21, .slice Ao24 t457.length co24]] rfl sqM ?_; (with_reducible refine (wool_Wrong.calls _ _ t454 _ _ t457 t461 t464 _ ?sideG ?side1 ?side2 ?side3 ?side4 A10.out).mono ?_); (case sideG => exact (Kd.C_below HGL.out (sqB HB))); (case side1 => refine (Kd.R_reads' (e := 41) (base := w.heap.size) (ok := fun k_ => True) (n := t454.length) (c := co21) ?_).2.2; exact (by (with_reducible repeat (first | apply Kd.R_alloc | apply Kd.R_drewN | apply Kd.R_drew)); exact (Kd.R_mono (Kd.R_far (p := ⟨gb460, 1, none⟩) (Kd.R_far (p := ⟨gb460, 0, none⟩) (Kd.R_types HO456.out BK460.out (by decide)) (fun _ hk => hk.2) (.slice Ao21 t454.length co21)) (fun _ hk => hk.2) (.slice Ao24 t457.length co24)) (fun _ h_ => h_.1)))); (case side2 => exact (Kd.R_reads' HO456.out).2.1); (case side3 => refine (Kd.R_reads' (e := 80) (base := w.heap.size) (ok := fun k_ => True) (n := t457.length) (c := co24) ?_).2.2; exact (by (with_reducible repeat (first | apply Kd.R_alloc | apply Kd.R_drewN | apply Kd.R_drew)); exact (Kd.R_mono (Kd.R_far (p := ⟨gb460, 1, none⟩) (Kd.R_far (p := ⟨gb460, 0, none⟩) (Kd.R_types HO459.out BK460.out (by decide)) (fun _ hk => hk.2) (.slice Ao21 t454.length co21)) (fun _ hk => hk.2) (.slice Ao24 t457.length co24)) (fun _ h_ => h_.1)))); (case side4 => exact (Kd.R_reads' HO459.out).2.1); rintro e w25 ⟨v462, rfl, ho0, hb⟩; refine ⟨_, rfl, ?_⟩; replace HO456 := Aside0.mk (Kd.R_below (by (with_reducible repeat (first | apply Kd.R_alloc | apply Kd.R_drewN | apply Kd.R_drew)); exact (Kd.R_mono (Kd.R_far (p := ⟨gb460, 1, none⟩) (Kd.R_far (p := ⟨gb460, 0, none⟩) (Kd.R_types HO456.out BK460.out (by decide)) (fun _ hk => hk.2) (.slice Ao21 t454.length co21)) (fun _ hk => hk.2) (.slice Ao24 t457.length co24)) (fun _ h_ => h_.1))) hb); replace HO459 := Aside0.mk (Kd.R_below (by (with_reducible repeat (first | apply Kd.R_alloc | apply Kd.R_drewN | apply Kd.R_drew)); exact (Kd.R_mono (Kd.R_far (p := ⟨gb460, 1, none⟩) (Kd.R_far (p := ⟨gb460, 0, none⟩) (Kd.R_types HO459.out BK460.out (by decide)) (fun _ hk => hk.2) (.slice Ao21 t454.length co21)) (fun _ hk => hk.2) (.slice Ao24 t457.length co24)) (fun _ h_ => h_.1))) hb); have HO463 := Aside0.mk (Kd.R_lower ho0 (below_size (sqB HB))); replace BK451 := Aside0.mk (blk_below (g := gb451) (o := .cells #[.slice A0_0 l0_0.length c0_0, .slice A0_1 l0_1.length c0_1] 25 (0, 0)) sqX hb); replace BK460 := Aside0.mk (blk_below (g := gb460) (o := .cells #[.slice Ao21 t454.length co21, .slice Ao24 t457.length co24] 25 (0, 0)) (by (with_reducible repeat (first | refine blk_drewN ?_ _ | refine blk_drew ?_ | refine blk_alloc ?_ _)); refine blk_put (cs := #[.slice Ao21 t454.length co21, .slice none 0 0]) ?_ 1 _ rfl; (with_reducible repeat (first | refine blk_drewN ?_ _ | refine blk_drew ?_ | refine blk_alloc ?_ _)); refine blk_put (cs := #[.slice none 0 0, .slice none 0 0]) ?_ 0 _ rfl; (with_reducible repeat (first | refine blk_drewN ?_ _ | refine blk_drew ?_ | refine blk_alloc ?_ _)); exact BK460.out) hb); replace HB := sqb hb HB; (try clear hb); (try clear hb2); (try clear hk); (try clear hi); (try clear ho0); have hcz26_0 := sqc0 BK460; have hcz26_1 := sqc1 BK460; have hfz26_0 := blk_frozen BK460.out 0; have hfz26_1 := blk_frozen BK460.out 1; have hcz27_0 := sqc0 BK451; have hcz27_1 := sqc1 BK451; have hfz27_0 := blk_frozen BK451.out 0; have hfz27_1 := blk_frozen BK451.out 1) | ((with_reducible refine gate_callee (f := 23) rfl ?_); refine goesL_ (some 20) rfl rfl Tryd.func23 sqF rfl #[.agg #[.slice Ao21 t454.length co21, .slice Ao24 t457.length co24], .agg #[.slice A0_0 l0_0.length c0_0, .slice A0_1 l0_1.length c0_1]] rfl sqM ?_; (with_reducible refine (rf_Same.calls k _ _ t454 _ _ t457 _ _ l0_0 _ _ l0_1 true _ ?side1 ?side2 ?side3 ?side4 ?side5 ?side6 ?side7 ?side8 A11.out).mono ?_); (case side1 => repeat (first | exact (Kd.R_reads' HO456.out).2.2 | (with_reducible refine Kd.C_alloc ?_ _) | (with_reducible refine Kd.C_drewN ?_ _) | (with_reducible refine Kd.C_drew ?_))); (case side2 => exact (Kd.R_reads' HO456.out).2.1); (case side3 => repeat (first | exact (Kd.R_reads' HO459.out).2.2 | (with_reducible refine Kd.C_alloc ?_ _) | (with_reducible refine Kd.C_drewN ?_ _) | (with_reducible refine Kd.C_drew ?_))); (case side4 => exact (Kd.R_reads' HO459.out).2.1); (case side5 => exact sqQ HR0_0 HB); (case side6 => exact HC0_0.out); (case side7 => exact sqQ HR0_1 HB); (case side8 => exact HC0_1.out); rintro e w28 ⟨rfl, hb⟩; refine ⟨_, rfl, ?_⟩; replace HO456 := Aside0.mk (Kd.R_below (sqR HO456) hb); replace HO459 := Aside0.mk (Kd.R_below (sqR HO459) hb); replace HO463 := Aside0.mk (Kd.R_below (sqR HO463) hb); replace BK451 := sqk BK451 hb; replace BK460 := sqk BK460 hb; replace HB := sqb hb HB; (try clear hb); (try clear hb2); (try clear hk); (try clear hi); have hcz29_0 := sqc0 BK451; have hcz29_1 := sqc1 BK451; have hfz29_0 := blk_frozen BK451.out 0; have hfz29_1 := blk_frozen BK451.out 1) | ((with_reducible refine gate_callee (f := 22) rfl ?_); refine goesL_ (some 23) rfl rfl Tryd.func22 sqF rfl #[.agg #[.slice A0_0 l0_0.length c0_0, .slice A0_1 l0_1.length c0_1]] rfl sqM ?_; (with_reducible refine (rf_Check.calls k _ _ l0_0 _ _ l0_1 t466 _ ?side1 ?side2 ?side3 ?side4 A13.out).mono ?_); (case side1 => exact sqQ HR0_0 HB); (case side2 => exact HC0_0.out); (case side3 => exact sqQ HR0_1 HB); (case side4 => exact HC0_1.out); rintro e w30 ⟨rfl, hb⟩; refine ⟨_, rfl, ?_⟩; replace HO456 := Aside0.mk (Kd.R_below (sqR HO456) hb); replace HO459 := Aside0.mk (Kd.R_below (sqR HO459) hb); replace HO463 := Aside0.mk (Kd.R_below (sqR HO463) hb); replace BK451 := sqk BK451 hb; replace BK460 := sqk BK460 hb; replace HB := sqb hb HB; (try clear hb); (try clear hb2); (try clear hk); (try clear hi)) | ((with_reducible refine gate_dst (N := 24) rfl ?_); (try (refine gate_guard (by rfl) ?_; dsimp only)); refine Kd.R_lit (Kd.int .i64) _ 3 ?hg (N := 24) ?hd (xs := ([] : List Int)) (inner := []) (ok := fun _ => True) (okp := fun _ => True) ?hr ?hp (fun _ hk => hk) trivial (Below.refl _ _) (Nat.le_refl _) (by simp) ?_; (case hd => rfl); (case hg => rfl); (case hr => first | (go_simp; done) | (go_simp; rfl)); (case hp => exact (Reps.none _ _)); intro v468 w31 ho32 hb hg_ hnew_; clear hg_ hnew_; (first | rw [← Ny467.out] at ho32 | (simp only [Int.reduceToNat] at ho32; rw [← Ny467.out] at ho32)); replace HO456 := Aside0.mk (Kd.R_below (sqR HO456) hb); replace HO459 := Aside0.mk (Kd.R_below (sqR HO459) hb); have HO469 := Aside0.mk (Kd.R_lower (Kd.R_new' ho32 (Kd.R_lt (sqR HO463))) (below_size (sqB HB))); replace HO463 := Aside0.mk (Kd.R_elder' (sqR HO463) (Kd.R_base ho32) hb); replace BK451 := sqk BK451 hb; replace BK460 := sqk BK460 hb; replace HB := sqb hb HB; clear hb ho32))
   (try simp only [Act.put, sqA])
   go_cut [6, 7] (fun v6 v7 wc => ∃ (kq : Nat) (x6_13 : Int) (x7_13 : List Int), v6 = .int .i64 x6_13 ∧ Aside0 (lw_WoolWrongs.j0 kq t461 t464 x6_13 x7_13 = some r) ∧ Aside0 (kq ≤ k) ∧ Aside0 (Kd.R (Kd.int .i64) 3 wc w.heap.size (fun k_ => some k_ ≠ (v7 : Value).ownBlock) v462 t461) ∧ Aside0 (Kd.R (Kd.int .i64) 3 wc w.heap.size (fun k_ => some k_ ≠ (v462 : Value).ownBlock) v7 x7_13) ∧ Aside0 (Kd.R k41 41 wc w.heap.size (fun _ => True) (.slice Ao21 t454.length co21) t454) ∧ Aside0 (Kd.R k80 80 wc w.heap.size (fun _ => True) (.slice Ao24 t457.length co24) t457) ∧ Aside0 (wc.heap[gb451]? = some (.cells #[(.slice A0_0 l0_0.length c0_0), (.slice A0_1 l0_1.length c0_1)] 25 (0, 0))) ∧ Aside0 (wc.heap[gb460]? = some (.cells #[(.slice Ao21 t454.length co21), (.slice Ao24 t457.length co24)] 25 (0, 0))) ∧ Aside0 (Below w.heap.size w wc))
   case first =>
    have H := HC14.out; clear HC14
    by_cases c33 : t466 = 0
    ·rw [if_pos c33] at H
     have c33b0 : (t466 == 0) = true := beq_iff_eq.mpr c33; have c33b1 : (t466 != 0) = false := bne_eq_false_iff_eq.mpr c33; clear c33
     (first | rw [c33b0] | (simp only [i64_w, i32_w]; rw [c33b0]) | skip)
     obtain ⟨t470, A340, H⟩ := Option.bind_eq_some_iff.mp H; have A34 := Aside0.mk A340; clear A340
     by_cases c35 : (t470.length : Int) = 0
     ·rw [if_pos c35] at H
      have c35b0 : ((t470.length : Int) == 0) = true := beq_iff_eq.mpr c35; have c35b1 : ((t470.length : Int) != 0) = false := bne_eq_false_iff_eq.mpr c35; clear c35; have H' := Aside0.mk H; clear H; have hnb36 := NB451_460.out; have hnc36 := NB460_451.out; have hcz37_0 := sqc0 BK451; have hcz37_1 := sqc1 BK451; have hfz37_0 := blk_frozen BK451.out 0; have hfz37_1 := blk_frozen BK451.out 1
      go_wp2_with (first | ((with_reducible refine gate_callee (f := 38) rfl ?_); refine goesL_ (some 28) rfl rfl Tryd.func38 sqF rfl #[.agg #[.slice A0_0 l0_0.length c0_0, .slice A0_1 l0_1.length c0_1]] rfl sqM ?_; (with_reducible refine (rf_Wrong.calls _ _ l0_0 _ _ l0_1 t470 _ ?side1 ?side2 ?side3 ?side4 A34.out).mono ?_); (case side1 => exact sqQ HR0_0 HB); (case side2 => exact HC0_0.out); (case side3 => exact sqQ HR0_1 HB); (case side4 => exact HC0_1.out); rintro e w38 ⟨v471, rfl, ho0, hb⟩; refine ⟨_, rfl, ?_⟩; replace HO456 := Aside0.mk (Kd.R_below (sqR HO456) hb); replace HO459 := Aside0.mk (Kd.R_below (sqR HO459) hb); have HO472 := Aside0.mk (Kd.R_lower (Kd.R_new' (Kd.R_new' ho0 (Kd.R_lt (sqR HO463))) (Kd.R_lt (sqR HO469))) (below_size (sqB HB))); replace HO463 := Aside0.mk (Kd.R_elder' (sqR HO463) (Kd.R_base ho0) hb); replace HO469 := Aside0.mk (Kd.R_elder' (sqR HO469) (Kd.R_base ho0) hb); replace BK451 := sqk BK451 hb; replace BK460 := sqk BK460 hb; replace HB := sqb hb HB; (try clear hb); (try clear hb2); (try clear hk); (try clear hi); (try clear ho0); obtain ⟨Ao39, co39, eo39⟩ := Kd.R_slice HO472.out; subst eo39))
      go_meet
      case rel => exact ⟨_, (6), (t470), sqE, H', ⟨by first | omega | exact Nat.le_refl _⟩, ⟨by (with_reducible repeat (first | apply Kd.R_alloc | apply Kd.R_drewN | apply Kd.R_drew)); exact Kd.R_mono HO463.out (fun _ hk => hk.2)⟩, ⟨by (with_reducible repeat (first | apply Kd.R_alloc | apply Kd.R_drewN | apply Kd.R_drew)); exact Kd.R_mono HO472.out (fun _ hk => hk.1.2)⟩, ⟨sqR HO456⟩, ⟨sqR HO459⟩, ⟨sqK BK451⟩, ⟨sqK BK460⟩, ⟨sqB HB⟩⟩
     ·rw [if_neg c35] at H
      have c35b0 : ((t470.length : Int) == 0) = false := beq_eq_false_iff_ne.mpr c35; have c35b1 : ((t470.length : Int) != 0) = true := bne_iff_ne.mpr c35
      have c35b2 : ¬ (t470 = []) := fun h_ => c35 (by rw [h_]; rfl)
      have H' := Aside0.mk H; clear H; have hnb40 := NB451_460.out; have hnc40 := NB460_451.out; have hcz41_0 := sqc0 BK451; have hcz41_1 := sqc1 BK451; have hfz41_0 := blk_frozen BK451.out 0; have hfz41_1 := blk_frozen BK451.out 1
      go_wp2_with (first | ((with_reducible refine gate_callee (f := 38) rfl ?_); refine goesL_ (some 28) rfl rfl Tryd.func38 sqF rfl #[.agg #[.slice A0_0 l0_0.length c0_0, .slice A0_1 l0_1.length c0_1]] rfl sqM ?_; (with_reducible refine (rf_Wrong.calls _ _ l0_0 _ _ l0_1 t470 _ ?side1 ?side2 ?side3 ?side4 A34.out).mono ?_); (case side1 => exact sqQ HR0_0 HB); (case side2 => exact HC0_0.out); (case side3 => exact sqQ HR0_1 HB); (case side4 => exact HC0_1.out); rintro e w42 ⟨v471, rfl, ho0, hb⟩; refine ⟨_, rfl, ?_⟩; replace HO456 := Aside0.mk (Kd.R_below (sqR HO456) hb); replace HO459 := Aside0.mk (Kd.R_below (sqR HO459) hb); have HO472 := Aside0.mk (Kd.R_lower (Kd.R_new' (Kd.R_new' ho0 (Kd.R_lt (sqR HO463))) (Kd.R_lt (sqR HO469))) (below_size (sqB HB))); replace HO463 := Aside0.mk (Kd.R_elder' (sqR HO463) (Kd.R_base ho0) hb); replace HO469 := Aside0.mk (Kd.R_elder' (sqR HO469) (Kd.R_base ho0) hb); replace BK451 := sqk BK451 hb; replace BK460 := sqk BK460 hb; replace HB := sqb hb HB; (try clear hb); (try clear hb2); (try clear hk); (try clear hi); (try clear ho0); obtain ⟨Ao43, co43, eo43⟩ := Kd.R_slice HO472.out; subst eo43))
      go_meet
      case rel => exact ⟨_, (t466), (t470), sqE, H', ⟨by first | omega | exact Nat.le_refl _⟩, ⟨by (with_reducible repeat (first | apply Kd.R_alloc | apply Kd.R_drewN | apply Kd.R_drew)); exact Kd.R_mono HO463.out (fun _ hk => hk.2)⟩, ⟨by (with_reducible repeat (first | apply Kd.R_alloc | apply Kd.R_drewN | apply Kd.R_drew)); exact Kd.R_mono HO472.out (fun _ hk => hk.1.2)⟩, ⟨sqR HO456⟩, ⟨sqR HO459⟩, ⟨sqK BK451⟩, ⟨sqK BK460⟩, ⟨sqB HB⟩⟩
    ·rw [if_neg c33] at H
     have c33b0 : (t466 == 0) = false := beq_eq_false_iff_ne.mpr c33; have c33b1 : (t466 != 0) = true := bne_iff_ne.mpr c33
     (first | rw [c33b0] | (simp only [i64_w, i32_w]; rw [c33b0]) | skip)
     have H' := Aside0.mk H; clear H; go_wp2
     go_meet
     case rel => exact ⟨_, (t466), (y467), sqE, H', ⟨by first | omega | exact Nat.le_refl _⟩, ⟨by (with_reducible repeat (first | apply Kd.R_alloc | apply Kd.R_drewN | apply Kd.R_drew)); exact Kd.R_mono HO463.out (fun _ hk => hk.2)⟩, ⟨by (with_reducible repeat (first | apply Kd.R_alloc | apply Kd.R_drewN | apply Kd.R_drew)); exact Kd.R_mono HO469.out (fun _ hk => hk.2)⟩, ⟨sqR HO456⟩, ⟨sqR HO459⟩, ⟨sqK BK451⟩, ⟨sqK BK460⟩, ⟨sqB HB⟩⟩
   case rest =>
    clear HC14; try clear c3
    (try clear c12); (try clear hcz16_0); (try clear hcz16_1); (try clear hcz18_0); (try clear hcz18_1); (try clear hcz23_0); (try clear hcz23_1); (try clear hcz26_0); (try clear hcz26_1); (try clear hcz27_0); (try clear hcz27_1); (try clear hcz29_0); (try clear hcz29_1); (try clear hfz16_0); (try clear hfz16_1); (try clear hfz18_0); (try clear hfz18_1); (try clear hfz23_0); (try clear hfz23_1); (try clear hfz26_0); (try clear hfz26_1); (try clear hfz27_0); (try clear hfz27_1); (try clear hfz29_0); (try clear hfz29_1); obtain ⟨kq, x6_13, x7_13, rfl, HA, HJ13, HO_4, HO_7, HO_461000, HO_461001, BK451, BK460, HB⟩ := hcut
    cases kq with
    | zero => exact absurd HA.out (by simp [lw_WoolWrongs.j0])
    | succ kj13 =>
     have H := HA.out; clear HA; simp only [lw_WoolWrongs.j0] at H
     by_cases c44 : x6_13 = 0
     ·rw [if_pos c44] at H
      have c44b0 : (x6_13 == 0) = true := beq_iff_eq.mpr c44; have c44b1 : (x6_13 != 0) = false := bne_eq_false_iff_eq.mpr c44; clear c44
      by_cases c45 : t464 = 0
      ·rw [if_pos c45] at H
       have c45b0 : (t464 == 0) = true := beq_iff_eq.mpr c45; have c45b1 : (t464 != 0) = false := bne_eq_false_iff_eq.mpr c45; clear c45; obtain ⟨t473, A460, H⟩ := Option.bind_eq_some_iff.mp H; have A46 := Aside0.mk A460; clear A460
       by_cases c47 : t473 = true
       ·subst c47
        rw [if_pos rfl] at H; obtain ⟨t474, A480, H⟩ := Option.bind_eq_some_iff.mp H; have A48 := Aside0.mk A480; clear A480; obtain rfl := Option.some.inj H; obtain ⟨Ao49, co49, eo49⟩ := Kd.R_slice HO_4.out; subst eo49; obtain ⟨Ao50, co50, eo50⟩ := Kd.R_slice HO_7.out; subst eo50
        go_wp2_with (first | (go_at_call 34; (with_reducible refine (rf_Ints.calls kj13 _ _ t461 _ _ x7_13 true _ ?side1 ?side2 ?side3 ?side4 A46.out).mono ?_); (case side1 => repeat (first | exact (Kd.R_reads' HO_4.out).2.2 | (with_reducible refine Kd.C_alloc ?_ _) | (with_reducible refine Kd.C_drewN ?_ _) | (with_reducible refine Kd.C_drew ?_))); (case side2 => exact (Kd.R_reads' HO_4.out).2.1); (case side3 => repeat (first | exact (Kd.R_reads' HO_7.out).2.2 | (with_reducible refine Kd.C_alloc ?_ _) | (with_reducible refine Kd.C_drewN ?_ _) | (with_reducible refine Kd.C_drew ?_))); (case side4 => exact (Kd.R_reads' HO_7.out).2.1); rintro e w' ⟨rfl, ⟨nd, rfl⟩⟩) | (go_at_call 17; (with_reducible refine (lw_known.calls t474 _ ?sideG A48.out).mono ?_); (case sideG => exact (Kd.C_below HGL.out (sqB HB))); rintro e w51 ⟨rfl, hb⟩; replace HO_4 := Aside0.mk (Kd.R_below (sqR HO_4) hb); replace HO_7 := Aside0.mk (Kd.R_below (sqR HO_7) hb); replace HO_461000 := Aside0.mk (Kd.R_below (sqR HO_461000) hb); replace HO_461001 := Aside0.mk (Kd.R_below (sqR HO_461001) hb); replace BK451 := sqk BK451 hb; replace BK460 := sqk BK460 hb; replace HB := sqb hb HB; (try clear hb); (try clear hb2); (try clear hk); (try clear hi)))
        go_ret
        exact ⟨by first | rfl | (simp [errW_none, errW_some] <;> rfl) | (simp [*, errW_none, errW_some] <;> rfl), sqB HB⟩
       ·replace c47 := Bool.eq_false_iff.mpr c47
        subst c47; rw [if_neg Bool.false_ne_true] at H; obtain rfl := Option.some.inj H; obtain ⟨Ao52, co52, eo52⟩ := Kd.R_slice HO_4.out; subst eo52; obtain ⟨Ao53, co53, eo53⟩ := Kd.R_slice HO_7.out; subst eo53
        go_wp2_with (first | (go_at_call 34; (with_reducible refine (rf_Ints.calls kj13 _ _ t461 _ _ x7_13 false _ ?side1 ?side2 ?side3 ?side4 A46.out).mono ?_); (case side1 => repeat (first | exact (Kd.R_reads' HO_4.out).2.2 | (with_reducible refine Kd.C_alloc ?_ _) | (with_reducible refine Kd.C_drewN ?_ _) | (with_reducible refine Kd.C_drew ?_))); (case side2 => exact (Kd.R_reads' HO_4.out).2.1); (case side3 => repeat (first | exact (Kd.R_reads' HO_7.out).2.2 | (with_reducible refine Kd.C_alloc ?_ _) | (with_reducible refine Kd.C_drewN ?_ _) | (with_reducible refine Kd.C_drew ?_))); (case side4 => exact (Kd.R_reads' HO_7.out).2.1); rintro e w' ⟨rfl, ⟨nd, rfl⟩⟩))
        go_ret
        exact ⟨by first | rfl | (simp [errW_none, errW_some] <;> rfl) | (simp [*, errW_none, errW_some] <;> rfl), sqB HB⟩
      ·rw [if_neg c45] at H
       have c45b0 : (t464 == 0) = false := beq_eq_false_iff_ne.mpr c45; have c45b1 : (t464 != 0) = true := bne_iff_ne.mpr c45; obtain rfl := Option.some.inj H
       go_wp2
       go_ret
       exact ⟨by first | rfl | (simp [errW_none, errW_some] <;> rfl) | (simp [*, errW_none, errW_some] <;> rfl), sqB HB⟩
     ·rw [if_neg c44] at H
      have c44b0 : (x6_13 == 0) = false := beq_eq_false_iff_ne.mpr c44; have c44b1 : (x6_13 != 0) = true := bne_iff_ne.mpr c44
      by_cases c54 : t464 = x6_13
      ·rw [if_pos c54] at H
       have c54b0 : (t464 == x6_13) = true := beq_iff_eq.mpr c54; have c54b1 : (t464 != x6_13) = false := bne_eq_false_iff_eq.mpr c54; clear c54
       by_cases c55 : (t461.length : Int) = 0
       ·rw [if_pos c55] at H
        have c55b0 : ((t461.length : Int) == 0) = true := beq_iff_eq.mpr c55; have c55b1 : ((t461.length : Int) != 0) = false := bne_eq_false_iff_eq.mpr c55; clear c55; obtain ⟨t475, A560, H⟩ := Option.bind_eq_some_iff.mp H; have A56 := Aside0.mk A560; clear A560; obtain rfl := Option.some.inj H; obtain ⟨Ao57, co57, eo57⟩ := Kd.R_slice HO_4.out; subst eo57
        go_wp2_with (first | (go_at_call 17; (with_reducible refine (lw_known.calls t475 _ ?sideG A56.out).mono ?_); (case sideG => exact (Kd.C_below HGL.out (sqB HB))); rintro e w58 ⟨rfl, hb⟩; replace HO_4 := Aside0.mk (Kd.R_below (sqR HO_4) hb); replace HO_7 := Aside0.mk (Kd.R_below (sqR HO_7) hb); replace HO_461000 := Aside0.mk (Kd.R_below (sqR HO_461000) hb); replace HO_461001 := Aside0.mk (Kd.R_below (sqR HO_461001) hb); replace BK451 := sqk BK451 hb; replace BK460 := sqk BK460 hb; replace HB := sqb hb HB; (try clear hb); (try clear hb2); (try clear hk); (try clear hi)))
        go_ret
        exact ⟨by first | rfl | (simp [errW_none, errW_some] <;> rfl) | (simp [*, errW_none, errW_some] <;> rfl), sqB HB⟩
       ·rw [if_neg c55] at H
        have c55b0 : ((t461.length : Int) == 0) = false := beq_eq_false_iff_ne.mpr c55; have c55b1 : ((t461.length : Int) != 0) = true := bne_iff_ne.mpr c55
        have c55b2 : ¬ (t461 = []) := fun h_ => c55 (by rw [h_]; rfl)
        obtain rfl := Option.some.inj H; obtain ⟨Ao59, co59, eo59⟩ := Kd.R_slice HO_4.out; subst eo59
        go_wp2
        go_ret
        exact ⟨by first | rfl | (simp [errW_none, errW_some] <;> rfl) | (simp [*, errW_none, errW_some] <;> rfl), sqB HB⟩
      ·rw [if_neg c54] at H
       have c54b0 : (t464 == x6_13) = false := beq_eq_false_iff_ne.mpr c54; have c54b1 : (t464 != x6_13) = true := bne_iff_ne.mpr c54; obtain rfl := Option.some.inj H
       go_wp2
       go_ret
       exact ⟨by first | rfl | (simp [errW_none, errW_some] <;> rfl) | (simp [*, errW_none, errW_some] <;> rfl), sqB HB⟩
  ·replace c12 := Bool.eq_false_iff.mpr c12
   subst c12; rw [if_neg Bool.false_ne_true] at H; obtain rfl := Option.some.inj H
   go_enter Tryd.func6, Tryd.ntmps6
   go_wp2_with (first | ((with_reducible refine gate_dst (N := 1) rfl ?_); (try (refine gate_guard (by rfl) ?_; dsimp only)); refine box_event ?hg (N := 1) ?hd (cs := #[.slice A0_0 l0_0.length c0_0, .slice A0_1 l0_1.length c0_1]) (t := 25) ?hr ?_; (case hd => rfl); (case hg => rfl); (case hr => first | (go_simp; done) | (go_simp; rfl)); intro gb451 hg w60 hbox hb; have BK451 := Aside0.mk (hbox); have GW451 := Aside0.mk (sqZ hg HB); have GE451 := Aside0.mk (sqZ hg HB); replace HB := sqb hb HB; clear hb hbox hg; have hcz61_0 := sqc0 BK451; have hcz61_1 := sqc1 BK451; have hfz61_0 := blk_frozen BK451.out 0; have hfz61_1 := blk_frozen BK451.out 1) | ((with_reducible refine gate_callee (f := 16) rfl ?_); refine goesL_ (some 9) rfl rfl Tryd.func16 sqF rfl #[.agg #[.slice A0_0 l0_0.length c0_0, .slice A0_1 l0_1.length c0_1]] rfl sqM ?_; (with_reducible refine (lw_long.calls _ _ l0_0 _ _ l0_1 false _ ?side1 ?side2 ?side3 ?side4 A2.out).mono ?_); (case side1 => exact sqQ HR0_0 HB); (case side2 => exact HC0_0.out); (case side3 => exact sqQ HR0_1 HB); (case side4 => exact HC0_1.out); rintro e w62 ⟨rfl, hb⟩; refine ⟨_, rfl, ?_⟩; replace BK451 := sqk BK451 hb; replace HB := sqb hb HB; (try clear hb); (try clear hb2); (try clear hk); (try clear hi); have hcz63_0 := sqc0 BK451; have hcz63_1 := sqc1 BK451; have hfz63_0 := blk_frozen BK451.out 0; have hfz63_1 := blk_frozen BK451.out 1) | ((with_reducible refine gate_callee (f := 18) rfl ?_); refine goesL_ (some 12) rfl rfl Tryd.func18 sqF rfl #[.agg #[.slice A0_0 l0_0.length c0_0, .slice A0_1 l0_1.length c0_1]] rfl sqM ?_; (with_reducible refine (rf_Copy.calls _ _ l0_0 _ _ l0_1 t454 t457 _ ?side1 ?side2 ?side3 ?side4 A9.out).mono ?_); (case side1 => exact sqQ HR0_0 HB); (case side2 => exact HC0_0.out); (case side3 => exact sqQ HR0_1 HB); (case side4 => exact HC0_1.out); rintro e w64 ⟨v455, v458, rfl, ho0, ho1, hb⟩; refine ⟨_, rfl, ?_⟩; have HO456 := Aside0.mk (Kd.R_lower ho0 (below_size (sqB HB))); have HO459 := Aside0.mk (Kd.R_lower ho1 (below_size (sqB HB))); replace BK451 := sqk BK451 hb; replace HB := sqb hb HB; (try clear hb); (try clear hb2); (try clear hk); (try clear hi); (try clear ho0); (try clear ho1)) | ((with_reducible refine gate_dst (N := 3) rfl ?_); (try (refine gate_guard (by rfl) ?_; dsimp only)); refine box_event ?hg (N := 3) ?hd (cs := #[.slice none 0 0, .slice none 0 0]) (t := 25) ?hr ?_; (case hd => rfl); (case hg => rfl); (case hr => first | (go_simp; done) | (go_simp; rfl)); intro gb460 hg w65 hbox hb; replace HO456 := Aside0.mk (Kd.R_below (sqR HO456) hb); replace HO459 := Aside0.mk (Kd.R_below (sqR HO459) hb); have BK460 := Aside0.mk (hbox); have GW460 := Aside0.mk (sqZ hg HB); have GE460 := Aside0.mk (sqZ hg HB); replace HB := sqb hb HB; have NB451_460 := Aside0.mk (sqL hg BK451); have NB460_451 := Aside0.mk (sqG hg BK451); replace BK451 := sqk BK451 hb; clear hb hbox hg; obtain ⟨Ao66, co66, eo66⟩ := Kd.R_slice HO456.out; subst eo66; have hnb67 := NB460_451.out; have hnc67 := NB451_460.out; have hcz68_0 := sqc0 BK460; have hcz68_1 := sqc1 BK460; have hfz68_0 := blk_frozen BK460.out 0; have hfz68_1 := blk_frozen BK460.out 1; obtain ⟨Ao69, co69, eo69⟩ := Kd.R_slice HO459.out; subst eo69) | ((with_reducible refine gate_callee (f := 37) rfl ?_); refine goesL_ (some 15) rfl rfl Tryd.func37 sqF rfl #[.agg #[.slice Ao66 t454.length co66, .slice Ao69 t457.length co69]] rfl sqM ?_; (with_reducible refine (wool_Wrong.calls _ _ t454 _ _ t457 t461 t464 _ ?sideG ?side1 ?side2 ?side3 ?side4 A10.out).mono ?_); (case sideG => exact (Kd.C_below HGL.out (sqB HB))); (case side1 => refine (Kd.R_reads' (e := 41) (base := w.heap.size) (ok := fun k_ => True) (n := t454.length) (c := co66) ?_).2.2; exact (by (with_reducible repeat (first | apply Kd.R_alloc | apply Kd.R_drewN | apply Kd.R_drew)); exact (Kd.R_mono (Kd.R_far (p := ⟨gb460, 1, none⟩) (Kd.R_far (p := ⟨gb460, 0, none⟩) (Kd.R_types HO456.out BK460.out (by decide)) (fun _ hk => hk.2) (.slice Ao66 t454.length co66)) (fun _ hk => hk.2) (.slice Ao69 t457.length co69)) (fun _ h_ => h_.1)))); (case side2 => exact (Kd.R_reads' HO456.out).2.1); (case side3 => refine (Kd.R_reads' (e := 80) (base := w.heap.size) (ok := fun k_ => True) (n := t457.length) (c := co69) ?_).2.2; exact (by (with_reducible repeat (first | apply Kd.R_alloc | apply Kd.R_drewN | apply Kd.R_drew)); exact (Kd.R_mono (Kd.R_far (p := ⟨gb460, 1, none⟩) (Kd.R_far (p := ⟨gb460, 0, none⟩) (Kd.R_types HO459.out BK460.out (by decide)) (fun _ hk => hk.2) (.slice Ao66 t454.length co66)) (fun _ hk => hk.2) (.slice Ao69 t457.length co69)) (fun _ h_ => h_.1)))); (case side4 => exact (Kd.R_reads' HO459.out).2.1); rintro e w70 ⟨v462, rfl, ho0, hb⟩; refine ⟨_, rfl, ?_⟩; replace HO456 := Aside0.mk (Kd.R_below (by (with_reducible repeat (first | apply Kd.R_alloc | apply Kd.R_drewN | apply Kd.R_drew)); exact (Kd.R_mono (Kd.R_far (p := ⟨gb460, 1, none⟩) (Kd.R_far (p := ⟨gb460, 0, none⟩) (Kd.R_types HO456.out BK460.out (by decide)) (fun _ hk => hk.2) (.slice Ao66 t454.length co66)) (fun _ hk => hk.2) (.slice Ao69 t457.length co69)) (fun _ h_ => h_.1))) hb); replace HO459 := Aside0.mk (Kd.R_below (by (with_reducible repeat (first | apply Kd.R_alloc | apply Kd.R_drewN | apply Kd.R_drew)); exact (Kd.R_mono (Kd.R_far (p := ⟨gb460, 1, none⟩) (Kd.R_far (p := ⟨gb460, 0, none⟩) (Kd.R_types HO459.out BK460.out (by decide)) (fun _ hk => hk.2) (.slice Ao66 t454.length co66)) (fun _ hk => hk.2) (.slice Ao69 t457.length co69)) (fun _ h_ => h_.1))) hb); have HO463 := Aside0.mk (Kd.R_lower ho0 (below_size (sqB HB))); replace BK451 := Aside0.mk (blk_below (g := gb451) (o := .cells #[.slice A0_0 l0_0.length c0_0, .slice A0_1 l0_1.length c0_1] 25 (0, 0)) sqX hb); replace BK460 := Aside0.mk (blk_below (g := gb460) (o := .cells #[.slice Ao66 t454.length co66, .slice Ao69 t457.length co69] 25 (0, 0)) (by (with_reducible repeat (first | refine blk_drewN ?_ _ | refine blk_drew ?_ | refine blk_alloc ?_ _)); refine blk_put (cs := #[.slice Ao66 t454.length co66, .slice none 0 0]) ?_ 1 _ rfl; (with_reducible repeat (first | refine blk_drewN ?_ _ | refine blk_drew ?_ | refine blk_alloc ?_ _)); refine blk_put (cs := #[.slice none 0 0, .slice none 0 0]) ?_ 0 _ rfl; (with_reducible repeat (first | refine blk_drewN ?_ _ | refine blk_drew ?_ | refine blk_alloc ?_ _)); exact BK460.out) hb); replace HB := sqb hb HB; (try clear hb); (try clear hb2); (try clear hk); (try clear hi); (try clear ho0); have hcz71_0 := sqc0 BK460; have hcz71_1 := sqc1 BK460; have hfz71_0 := blk_frozen BK460.out 0; have hfz71_1 := blk_frozen BK460.out 1; have hcz72_0 := sqc0 BK451; have hcz72_1 := sqc1 BK451; have hfz72_0 := blk_frozen BK451.out 0; have hfz72_1 := blk_frozen BK451.out 1) | ((with_reducible refine gate_callee (f := 23) rfl ?_); refine goesL_ (some 20) rfl rfl Tryd.func23 sqF rfl #[.agg #[.slice Ao66 t454.length co66, .slice Ao69 t457.length co69], .agg #[.slice A0_0 l0_0.length c0_0, .slice A0_1 l0_1.length c0_1]] rfl sqM ?_; (with_reducible refine (rf_Same.calls k _ _ t454 _ _ t457 _ _ l0_0 _ _ l0_1 false _ ?side1 ?side2 ?side3 ?side4 ?side5 ?side6 ?side7 ?side8 A11.out).mono ?_); (case side1 => repeat (first | exact (Kd.R_reads' HO456.out).2.2 | (with_reducible refine Kd.C_alloc ?_ _) | (with_reducible refine Kd.C_drewN ?_ _) | (with_reducible refine Kd.C_drew ?_))); (case side2 => exact (Kd.R_reads' HO456.out).2.1); (case side3 => repeat (first | exact (Kd.R_reads' HO459.out).2.2 | (with_reducible refine Kd.C_alloc ?_ _) | (with_reducible refine Kd.C_drewN ?_ _) | (with_reducible refine Kd.C_drew ?_))); (case side4 => exact (Kd.R_reads' HO459.out).2.1); (case side5 => exact sqQ HR0_0 HB); (case side6 => exact HC0_0.out); (case side7 => exact sqQ HR0_1 HB); (case side8 => exact HC0_1.out); rintro e w73 ⟨rfl, hb⟩; refine ⟨_, rfl, ?_⟩; replace HO456 := Aside0.mk (Kd.R_below (sqR HO456) hb); replace HO459 := Aside0.mk (Kd.R_below (sqR HO459) hb); replace HO463 := Aside0.mk (Kd.R_below (sqR HO463) hb); replace BK451 := sqk BK451 hb; replace BK460 := sqk BK460 hb; replace HB := sqb hb HB; (try clear hb); (try clear hb2); (try clear hk); (try clear hi)))
   go_ret
   exact ⟨by first | rfl | (simp [errW_none, errW_some] <;> rfl) | (simp [*, errW_none, errW_some] <;> rfl), sqB HB⟩
end Go.Proofs.YtemingmeidmjkaaDoor.Q
namespace Go.Proofs.YtemingmeidmjkaaDoor.Rw
open Go.RowKit Go.Proofs.YtemingmeidmjkaaDoorW.PrintWords
set_option linter.unusedVariables false
set_option linter.unusedSimpArgs false
theorem add_two (a : Addr) (x y : Nat) : (a.add x).add y = a.add (x + y) := by
 unfold Addr.add
 by_cases h1 : x = 0
 ·subst h1; simp
 ·by_cases h2 : y = 0
  ·subst h2; simp
  ·have h3 : ¬ x + y = 0 := by omega
   simp [h1, h2, Nat.add_assoc]
structure Opens {α : Type} (P : Program) (t : TypeId) (d : Kd α) (good : α → Prop) : Prop where
 size : d.sz = P.cellsOf t
 read : ∀ {H : Type} {enc : TypeId × Value → H} {w : World} {base : Nat} {sp : Nat → Bool} {held : Bool} {fuel : Nat} {cs : List Value} {x : DataW H × List MemPlace}, DataW.trod enc P w base sp held fuel t cs = some x → ∃ y : α, d.K w y cs ∧ good y
theorem Opens.int {P : Program} {t : TypeId} {k : IntKind} (ht : P.underlying t = some (.int k)) (hc : 1 = P.cellsOf t) : Opens P t (Kd.int k) (fun n => (Lit.int k n).wf = true) := ⟨hc, fun h => by
 obtain ⟨n, rfl, rfl, hw⟩ := DataW.trod_int ht h
 exact ⟨n, rfl, hw⟩⟩
theorem Opens.slice {α : Type} {P : Program} {t e : TypeId} {d : Kd α} {good : α → Prop} (ht : P.underlying t = some (.slice e)) (hc : 1 = P.cellsOf t) (h : Opens P e d good) : Opens P t (Kd.slice e d) (fun l => ∀ x ∈ l, good x) := ⟨hc, fun {H enc w base sp held fuel cs x} hx => by
 rcases DataW.trod_slice ht hx with ⟨rfl, _⟩ | ⟨a, len, cap, elems, rest, n, _, rfl, _, hb, hl, hm, hlen, hel, _, _⟩
 ·exact ⟨[], ⟨none, 0, rfl, Nat.le_refl _, Kd.C_nil _ _⟩, fun x hx => by cases hx⟩
 ·have key : ∀ m, m ≤ len → ∃ l : List α, l.length = m ∧ ∀ i z, l[i]? = some z → good z ∧ ∃ c, c.length = d.sz ∧ d.K w z c ∧ ∀ j u, c[j]? = some u → w.cell? (a.add (i * d.sz + j)) = some u := by
   intro m
   induction m with
   | zero => intro _; exact ⟨[], rfl, fun i z hz => by simp at hz⟩
   | succ m ih =>
    intro hle; obtain ⟨l, hll, hl2⟩ := ih (by omega); have h1 := hel m (by omega); rw [List.getElem?_eq_getElem (by omega), Option.bind_eq_some_iff] at h1; obtain ⟨c, hc1, hc2⟩ := h1; obtain ⟨z, hz, hg⟩ := h.read hc2; obtain ⟨_, hcl, hcc⟩ := World.cells?_some hc1; refine ⟨l ++ [z], by simp [hll], fun i z' hz' => ?_⟩
    rcases Nat.lt_or_ge i l.length with hlt | hge
    ·rw [List.getElem?_append_left hlt] at hz'
     exact hl2 i z' hz'
    ·rw [List.getElem?_append_right hge] at hz'
     have e : i = m := by
      rcases Nat.eq_zero_or_pos (i - l.length) with e | e
      ·omega
      ·rw [List.getElem?_eq_none (by simp; omega)] at hz'; cases hz'
     subst e; rw [show i - l.length = 0 by omega] at hz'; simp only [List.getElem?_cons_zero, Option.some.injEq] at hz'; subst hz'; refine ⟨hg, c, by rw [hcl, h.size], hz, fun j u hu => ?_⟩
     have hj : j < P.cellsOf e := by rw [← hcl]; exact (List.getElem?_eq_some_iff.1 hu).1
     have := hcc j hj; rw [hu] at this; rw [h.size, ← this, add_two]
  obtain ⟨l, hll, hl2⟩ := key len (Nat.le_refl _); refine ⟨l, ⟨some a, cap, by rw [hll], by omega, rfl, by unfold maxLen at hm; omega, fun _ => ⟨a, rfl, fun j p hj => ?_⟩⟩, fun x hx => ?_⟩
  ·obtain ⟨_, c, h1, h2, h3⟩ := hl2 j p hj
   exact ⟨c, h1, h2, h3⟩
  ·obtain ⟨i, hi⟩ := List.getElem?_of_mem hx
   exact (hl2 i x hi).1⟩
structure FOpens {α : Type} (P : Program) (fs : List Field) (off : Nat) (d : Kd α) (good : α → Prop) : Prop where
 read : ∀ {H : Type} {enc : TypeId × Value → H} {w : World} {base : Nat} {sp : Nat → Bool} {held : Bool} {fuel : Nat} {cs : List Value},
 (∀ (i : Nat) (f : Field), fs[i]? = some f → ∃ y, DataW.trod enc P w base sp held fuel f.type ((cs.drop f.offset).take (P.cellsOf f.type)) = some y) → cs.length = off + d.sz → ∃ y : α, d.K w y (cs.drop off) ∧ good y
theorem FOpens.one {α : Type} {P : Program} {f : Field} {off : Nat} {d : Kd α} {good : α → Prop} (h : Opens P f.type d good) (ho : f.offset = off) : FOpens P [f] off d good := ⟨fun {H enc w base sp held fuel cs} hf hl => by
 obtain ⟨y, hy⟩ := hf 0 f rfl; rw [ho, ← h.size, List.take_of_length_le (by rw [List.length_drop]; omega)] at hy
 exact h.read hy⟩
theorem FOpens.cons {α β : Type} {P : Program} {f : Field} {fs : List Field} {off : Nat} {d1 : Kd α} {d2 : Kd β} {g1 : α → Prop} {g2 : β → Prop} (h1 : Opens P f.type d1 g1) (ho : f.offset = off) (h2 : FOpens P fs (off + d1.sz) d2 g2) : FOpens P (f :: fs) off (Kd.pair d1 d2) (fun x => g1 x.1 ∧ g2 x.2) := ⟨fun {H enc w base sp held fuel cs} hf hl => by
 have hsz : (Kd.pair d1 d2).sz = d1.sz + d2.sz := rfl; obtain ⟨y1, hy1⟩ := hf 0 f rfl; rw [ho, ← h1.size] at hy1; obtain ⟨x1, hk1, hg1⟩ := h1.read hy1; obtain ⟨x2, hk2, hg2⟩ := h2.read (cs := cs) (fun i g hg => hf (i + 1) g (by simpa using hg)) (by omega); refine ⟨(x1, x2), ⟨_, _, ?_, hk1, hk2⟩, hg1, hg2⟩
 rw [← List.drop_drop, List.take_append_drop]⟩
theorem Opens.struct {α : Type} {P : Program} {t : TypeId} {fs : Array Field} {d : Kd α} {good : α → Prop} (ht : P.underlying t = some (.struct fs)) (hs : d.sz = P.cellsOf t) (h : FOpens P fs.toList 0 d good) : Opens P t d good := ⟨hs, fun {H enc w base sp held fuel cs x} hx => by
 obtain ⟨xs, n, _, _, hcl, hxl, hf⟩ := DataW.trod_struct ht hx
 have := h.read (enc := enc) (w := w) (base := base) (sp := sp) (held := held) (fuel := n) (cs := cs) (fun i f hi => by
  rw [Array.getElem?_toList] at hi; have hlt := (Array.getElem?_eq_some_iff.1 hi).1
  exact ⟨xs[i]'(by omega), by rw [hf i f hi, List.getElem?_eq_getElem]⟩) (by omega)
 simpa using this⟩
theorem Opens.iso {α β : Type} {P : Program} {t : TypeId} {d : Kd α} {good : α → Prop} (f : β → α) (g : α → β) (hfg : ∀ x, f (g x) = x) (h : Opens P t d good) : Opens P t (Kd.iso d f) (fun y => good (f y)) := ⟨h.size, fun hx => by
 obtain ⟨y, hk, hg⟩ := h.read hx
 exact ⟨g y, by show d.K _ (f (g y)) _; rw [hfg]; exact hk, by rw [hfg]; exact hg⟩⟩
end Go.Proofs.YtemingmeidmjkaaDoor.Rw
namespace Go.Proofs.YtemingmeidmjkaaDoor.Q
open Go.RowKit Go.Proofs.YtemingmeidmjkaaDoorW.PrintWords
set_option linter.unusedVariables false
set_option linter.unusedSimpArgs false
theorem bit_test (s i : Nat) (h : i ≤ 64) : bitB (s : Int) (i : Int) = s.testBit i := by
 rw [bitB_div _ i h, Nat.testBit_eq_decide_div_mod_eq, decide_eq_decide]
 have e : ((s : Int) / 2 ^ i) = ((s / 2 ^ i : Nat) : Int) := by
  rw [show ((2 : Int) ^ i) = ((2 ^ i : Nat) : Int) by rw [Int.natCast_pow]; rfl]; rfl
 rw [e]
 generalize s / 2 ^ i = q
 omega
theorem dropN_ne (s n : Nat) (hn : n ≤ 64) (h0 : 0 < s) (hs : s < 2 ^ n) : dropN (s : Int) n ≠ [] := by
 intro h
 have h1 : ∀ i, i < n → s.testBit i = false := by
  intro i hi; rw [← bit_test s i (by omega)]
  cases hb : bitB (s : Int) (i : Int)
  ·rfl
  ·have : (i : Int) ∈ dropN (s : Int) n := List.mem_map.2 ⟨i, List.mem_filter.2 ⟨List.mem_range.2 hi, hb⟩, rfl⟩
   rw [h] at this
   simp at this
 have h2 : s = 0 := by
  refine Nat.eq_of_testBit_eq (fun i => ?_); rw [Nat.zero_testBit]
  by_cases hi : i < n
  ·exact h1 i hi
  ·exact Nat.testBit_lt_two_pow (Nat.lt_of_lt_of_le hs (Nat.pow_le_pow_right (by omega) (by omega)))
 omega
theorem keepN_all (wg : List Wg) (n : Nat) (hn : n ≤ 64) : keepN wg ((2 ^ n - 1 : Nat) : Int) n = [] := by
 unfold keepN
 rw [List.map_eq_nil_iff, List.filter_eq_nil_iff]; intro i hi; have hi' := List.mem_range.1 hi; rw [bit_test _ i (by omega), Nat.testBit_two_pow_sub_one]
 simp [hi']
theorem keepN_zero (wg : List Wg) (hn : wg.length ≤ 64) : keepN wg 0 wg.length = wg := by
 unfold keepN
 have e : (List.range wg.length).filter (fun (i : Nat) => !bitB 0 i) = List.range wg.length := by
  refine List.filter_eq_self.2 fun i hi => ?_
  have hi' := List.mem_range.1 hi; have := bit_test 0 i (by omega); rw [show ((0 : Nat) : Int) = 0 from rfl] at this; rw [this, Nat.zero_testBit]; rfl
 rw [e]
 apply List.ext_getElem?
 intro i; rw [List.getElem?_map]
 by_cases hi : i < wg.length
 ·rw [List.getElem?_range hi, List.getElem?_eq_getElem hi]
  simp [rdWg, hi]
 ·rw [List.getElem?_eq_none (by simpa using hi), List.getElem?_eq_none (by omega)]
  rfl
theorem dropN_zero (n : Nat) (hn : n ≤ 64) : dropN 0 n = [] := by
 unfold dropN
 rw [List.map_eq_nil_iff, List.filter_eq_nil_iff]; intro i hi; have hi' := List.mem_range.1 hi; have := bit_test 0 i (by omega); rw [show ((0 : Nat) : Int) = 0 from rfl] at this; rw [this, Nat.zero_testBit]
 simp
theorem stp_zero (st : List Sp) (p : Nat) : stpB st (-1) p 0 0 = true := by
 rw [stp_hon]
 unfold loS hiS
 simp
theorem fw_zero (st : List Sp) : ∀ p : Nat, fwB st [] (-1) p 0 = true
 | 0 => rfl
 | p + 1 => by
  rw [fwB, Bool.and_eq_true, List.any_eq_true]; refine ⟨rfl, 0, List.mem_range.2 (by omega), ?_⟩; rw [fw_zero st p, stp_zero]; rfl
theorem fu_zero (st : List Sp) : ∀ d p : Nat, fuB st [] (-1) d p 0 = true
 | 0, p => fw_zero st p
 | d + 1, p => by
  rw [fuB, Bool.and_eq_true, List.any_eq_true]; refine ⟨fw_zero st p, 0, List.mem_range.2 (by omega), ?_⟩; rw [fu_zero st d (p + 1), stp_zero]; rfl
theorem hon_empty {st : List Sp} {wg : List Wg} (h : RdOk st wg) : honB st [] = true := by
 have hok : RdOk st [] := ⟨h.sts, fun x hx => by simp at hx, h.len⟩; exact (hon_is hok).2 ⟨0, by omega, fu_zero st _ 0⟩
section
variable {st : List Sp} {wg : List Wg}
theorem wq_hon (hn : wg.length ≤ 64) (h : honB st wg = true) : ∀ k, wqN st wg (k + 1) = ([], true)
 | 0 => by
  rw [wqN_succ, show wqN st wg 0 = ([], false) from rfl, wqStep, show ((0 : Nat) : Int) = 0 from rfl, keepN_zero wg hn, h, dropN_zero _ hn]; rfl
 | k + 1 => by
  rw [wqN_succ, wq_hon hn h k, wqStep]
  have e : lessB (dropN ((k + 1 : Nat) : Int) wg.length) [] = false := by
   unfold lessB
   by_cases h0 : (dropN ((k + 1 : Nat) : Int) wg.length).length = ([] : List Int).length
   ·rw [if_pos h0, List.length_eq_zero_iff.1 h0]
    rfl
   ·rw [if_neg h0]
    simp
  simp only [e, Bool.not_true, Bool.or_self, Bool.false_and, Bool.false_eq_true, if_false]
theorem wq_wr (hn : wg.length ≤ 64) (h : honB st wg = false) : ∀ j, j + 1 ≤ 2 ^ wg.length → wqN st wg (j + 1) = (wrN st wg j, decide (wrN st wg j ≠ []))
 | 0, _ => by
  rw [wqN_succ, show wqN st wg 0 = ([], false) from rfl, wqStep, show ((0 : Nat) : Int) = 0 from rfl, keepN_zero wg hn, h, Bool.and_false]; rfl
 | j + 1, hj => by
  rw [wqN_succ, wq_wr hn h j (by omega), wqStep, wrN_succ, wrStep]; have hD := dropN_ne (j + 1) wg.length hn (by omega) (by omega)
  generalize dropN ((j + 1 : Nat) : Int) wg.length = D at *
  generalize wrN st wg j = b at *
  cases honB st (keepN wg ((j + 1 : Nat) : Int) wg.length)
  ·simp
  ·by_cases hb : b = []
   ·subst hb
    simp [hD]
   ·have e : decide (b ≠ []) = true := by simp [hb]
    simp only [e, Bool.not_true, Bool.false_or, Bool.and_true, if_true, if_neg hb]
    unfold lessB
    by_cases hl : D.length = b.length
    ·have h1 : ¬ D.length < b.length := by omega
     simp only [if_pos hl, if_neg h1]
     by_cases hc : cmpL D b < 0
     ·simp [hc, hD]
     ·simp [hc, hb]
    ·simp only [if_neg hl]
     by_cases hc : D.length < b.length
     ·simp [hc, hD]
     ·simp [hc, hb]
theorem wr_ne (hok : RdOk st wg) (hn : wg.length ≤ 64) (h : honB st wg = false) : wrL st wg ≠ [] := by
 have hp : 1 ≤ 2 ^ wg.length := Nat.one_le_two_pow
 by_cases h1 : 2 ^ wg.length = 1
 ·have : wg.length = 0 := by
   cases hw : wg.length with
   | zero => rfl
   | succ n => rw [hw, Nat.pow_succ] at h1; have := Nat.one_le_two_pow (n := n); omega
  rw [List.length_eq_zero_iff.1 this, hon_empty hok] at h
  cases h
 ·unfold wrL
  obtain ⟨m, hm⟩ : ∃ m, 2 ^ wg.length - 1 = m + 1 := ⟨2 ^ wg.length - 2, by omega⟩; have hk := keepN_all wg wg.length hn; have hD := dropN_ne (m + 1) wg.length hn (by omega) (by omega); rw [hm] at hk; rw [hm, wrN_succ, wrStep, hk, hon_empty hok]; simp only [if_true]
  generalize dropN ((m + 1 : Nat) : Int) wg.length = D at *
  split
  ·exact hD
  ·rename_i hb
   split
   ·exact hD
   ·split
    ·split
     ·exact hD
     ·exact hb
    ·exact hb
theorem wq_eq (hok : RdOk st wg) (hn : wg.length ≤ 64) : wqL st wg = if honB st wg then [] else wrL st wg := by
 have hp : 1 ≤ 2 ^ wg.length := Nat.one_le_two_pow; obtain ⟨m, hm⟩ : ∃ m, 2 ^ wg.length = m + 1 := ⟨2 ^ wg.length - 1, by omega⟩
 unfold wqL
 cases h : honB st wg
 ·simp only [Bool.false_eq_true, if_false]
  have := wq_wr hn h m (by omega); rw [hm, this, wrL, hm]; rfl
 ·simp only [if_true]
  rw [hm, wq_hon hn h m]
end
theorem WoolWrongs_ev (st : List S41) (wg : List S80) : Ev (fun k => lw_WoolWrongs.f k st wg) true := by
 unfold lw_WoolWrongs.f
 simp only [long_f, Option.bind_some]
 by_cases hlong : (st.length : Int) > 10 ∨ (wg.length : Int) > 12
 ·simp only [hlong, decide_true, if_true, known_f, Option.bind_some]
  exact Ev.now _
 ·simp only [hlong, decide_false, Bool.false_eq_true, if_false]
  simp only [Copy_f st wg (by omega) (by omega), Option.bind_some, wool_Wrong.f, rf_Wrong.f]; refine Ev.bind (Same_f st wg (by omega) (by omega)) ?_; simp only [if_true]; refine Ev.bind (Check_f st wg (by omega) (by omega)) ?_
  have bad : ∀ (e : Int) (x : List Int), ¬ e = 0 → wrE (toSt st) (toWg wg) = e → Ev (fun k => lw_WoolWrongs.j0 k (wrR (toSt st) (toWg wg)) (wrE (toSt st) (toWg wg)) e x) true := by
   intro e x he h1
   have h2 : wrR (toSt st) (toWg wg) = [] := by rw [wrR, h1, if_neg he]
   refine Ev.up ?_; simp only [lw_WoolWrongs.j0, if_neg he, h1, h2, if_true, List.length_nil, Int.natCast_zero, known_f, Option.bind_some]; exact Ev.now _
  by_cases he : roadE (toSt st) (toWg wg) = 0
  ·have hok := (road_ok he).1
   have hw : (toWg wg).length ≤ 64 := by rw [toWg_len]; omega
   simp only [he, if_true, Option.bind_some, wq_eq hok hw]
   cases hh : honB (toSt st) (toWg wg)
   ·have hne := wr_ne hok hw hh
    have h1 : wrE (toSt st) (toWg wg) = 0 := by simp [wrE, he, hh]
    have h2 : wrR (toSt st) (toWg wg) = wrL (toSt st) (toWg wg) := by rw [wrR, h1]; rfl
    have hl := wrN_len (toSt st) (toWg wg) (2 ^ (toWg wg).length - 1); have hp := List.length_pos_iff.2 hne; simp only [Bool.false_eq_true, if_false, if_neg (show ¬ ((wrL (toSt st) (toWg wg)).length : Int) = 0 by omega)]; refine Ev.up ?_; simp only [lw_WoolWrongs.j0, h1, h2, if_true]; refine Ev.bind (Ints_f _ _ (show (wrL (toSt st) (toWg wg)).length ≤ 1000 by unfold wrL; omega)) ?_; simp only [decide_true, if_true, known_f, Option.bind_some]; exact Ev.now _
   ·simp only [if_true, List.length_nil, Int.natCast_zero]
    exact bad 6 _ (by omega) (by simp [wrE, he, hh])
  ·simp only [if_neg he]
   exact bad _ _ he (by simp [wrE, he])
theorem WoolWrongs_pure (l0_0 : List (S41)) (l0_1 : List (S80)) : ∃ k, lw_WoolWrongs.f k l0_0 l0_1 = some true := (WoolWrongs_ev l0_0 l0_1).rounds
end Go.Proofs.YtemingmeidmjkaaDoor.Q
namespace Go.Proofs.YtemingmeidmjkaaDoor
open Go.RowKit Go.ChangeShapes Go.Shelf Go.Proofs.YtemingmeidmjkaaDoorW.PrintWords
set_option linter.unusedVariables false
set_option maxRecDepth 100000
theorem glNamed : Tryd.prog.globalNamed "walkmill/wool.all" = some 0 := by kernel_rfl
theorem glType : (Tryd.prog.globals[0]?).map (·.type) = some 100 := by kernel_rfl
theorem cells3 : Tryd.prog.cellsOf 3 = 1 := by kernel_rfl
theorem cellsSome : Tryd.prog.cellsOf 100 = 2 := by kernel_rfl
theorem gl_of_laid {W : World} (h : laidMetH Tryd.prog [("walkmill/wool.all", Rows.laid_walkmill_wool_all)] W) : GL W := by
 have h' : laidMet Tryd.prog [("walkmill/wool.all", Rows.laid_walkmill_wool_all)] W := h; clear h; have h := h'; obtain ⟨ps, ⟨g, t, cs, fuel, p, q, e1, e2, e3, e4, _, _⟩, _⟩ := h; obtain rfl := Option.some.inj (glNamed.symm.trans e1); obtain rfl := Option.some.inj (glType.symm.trans e2); obtain ⟨xs, n, _, hx, hl, hlen, hf⟩ := DataW.trod_struct Tryd.underlying100 e4
 have hcell := fun i => World.var?_cell glNamed e3 i
 have hl2 : cs.toList.length = 2 := by rw [hl]; exact cellsSome
 match xs, hlen with
 | [y0, y1], _ =>
  have f0 := hf 0 _ rfl; have f1 := hf 1 _ rfl; simp only [List.getElem?_cons_zero, List.getElem?_cons_succ] at f0 f1; obtain ⟨a, ha, rfl, _⟩ := DataW.trod_int Tryd.underlying3 f0; obtain ⟨b, hb, rfl, _⟩ := DataW.trod_int Tryd.underlying3 f1; simp only [List.map_cons, List.map_nil, Rows.laid_walkmill_wool_all, Prod.mk.injEq, DataW.agg.injEq, List.cons.injEq, DataW.lit.injEq, Lit.int.injEq, true_and, and_true] at hx; obtain ⟨⟨rfl, rfl⟩, _⟩ := hx
  have hcs : cs = #[.int .i64 0, .int .i64 400] := by
   apply Array.toList_inj.1
   match hc : cs.toList, hl2 with
   | [u, v], _ =>
    rw [hc] at ha hb
    simp [cells3] at ha hb
    rw [ha, hb]
  refine ⟨rfl, by decide, fun _ => ⟨_, rfl, fun j x hj => ?_⟩⟩
  match j, hj with
  | 0, hj =>
   simp only [List.getElem?_cons_zero, Option.some.injEq] at hj; subst hj; refine ⟨[.int .i64 0, .int .i64 400], rfl, kSp_mk _ ⟨0, 400⟩, fun i u hi => ?_⟩; have h9 := hcell i; rw [hcs] at h9; rw [add_plain]; simp only [Nat.zero_mul, Nat.zero_add] at *; rw [h9]
   simpa using hi
def lay0 (w : World) : World := { w with heap := w.heap.modify 0 fun o => match o with
  | .cells _ t frozen => .cells #[.int .i64 0, .int .i64 400] t frozen
  | o => o }
theorem lay0_met (os : Os) (args : Array Value) : laidMetH Tryd.prog [("walkmill/wool.all", Rows.laid_walkmill_wool_all)] ((lay0 (World.holding Tryd.prog os ⟨#[], #[], []⟩)).forCall (fun _ _ => 0) ⟨#[], args, []⟩).memory := by
 show laidMet Tryd.prog [("walkmill/wool.all", Rows.laid_walkmill_wool_all)] _
 exact laidMet_of_run' 8 sqF sqF
end Go.Proofs.YtemingmeidmjkaaDoor
