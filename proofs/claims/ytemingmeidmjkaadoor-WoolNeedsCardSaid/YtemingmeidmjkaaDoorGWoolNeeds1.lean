/- Functions printed by the kit's printer over these walks, and the plain law. No condition. -/
import Derived.Test.YtemingmeidmjkaaDoorGWoolNeeds0
import Derived.Test.YtemingmeidmjkaaDoorM2
import Derived.Test.YtemingmeidmjkaaDoorM3
import Derived.Test.YtemingmeidmjkaaDoorRows
import Derived.Test.YtemingmeidmjkaaDoorM0
import Derived.LaidLaws
import Derived.LaidHandle
import Derived.Handed
import Derived.ChangeSame
set_option linter.unusedVariables false
set_option linter.unusedSimpArgs false
namespace Go.Proofs.YtemingmeidmjkaaDoor.Q
open Go.RowKit Go.Proofs.YtemingmeidmjkaaDoorW.PrintWords
set_option linter.unusedVariables false
set_option linter.unusedSimpArgs false
theorem rdA (l : List S41) (i : Nat) (h : i < l.length) : rd_T41 l (i : Int) = l[i] := by simp [rd_T41, h]
theorem rdW (l : List S80) (i : Nat) (h : i < l.length) : rd_T80 l (i : Int) = l[i] := by simp [rd_T80, h]
theorem drop_dec {α : Type} [DecidableEq α] (a b : List α) (i : Nat) (ha : i < a.length) (hb : i < b.length) : decide (a.drop i = b.drop i) = (decide (a[i] = b[i]) && decide (a.drop (i + 1) = b.drop (i + 1))) := by
 rw [List.drop_eq_getElem_cons ha, List.drop_eq_getElem_cons hb, Bool.eq_iff_iff]
 simp only [decide_eq_true_eq, Bool.and_eq_true, List.cons.injEq]
theorem In_f (a b c : Int) : rf_In.f a b c = some (inB b c [a]) := by
 have e : inB b c [a] = (decide (b ≤ a) && decide (a ≤ c)) := by
  rw [Bool.eq_iff_iff, inB_iff]
  simp
 rw [e]
 unfold rf_In.f
 split <;> simp_all <;> omega
theorem inB_one (b c a : Int) : inB b c [a] = true ↔ b ≤ a ∧ a ≤ c := by rw [inB_iff]; simp
theorem known_f : lw_known.f = some true := rfl
theorem long_f (l0 : List S41) (l1 : List S80) : lw_long.f l0 l1 = some (decide ((l0.length : Int) > 10 ∨ (l1.length : Int) > 12)) := by
 unfold lw_long.f
 by_cases h : (l0.length : Int) > 10 <;> simp [h]
theorem Copy_f (l0 : List S41) (l1 : List S80) (h0 : l0.length ≤ 1000) (h1 : l1.length ≤ 1000) : rf_Copy.f l0 l1 = some (l0, l1) := by
 unfold rf_Copy.f
 simp only [Option.bind_some, List.length_nil, List.nil_append]
 rw [if_pos (by omega), if_pos (by omega)]
theorem dec_S (x y : S41) : decide ((⟨x.f0, x.f1⟩ : Sp) = ⟨y.f0, y.f1⟩) = !(!(x.f0 == y.f0) || !(x.f1 == y.f1)) := by
 rw [Bool.eq_iff_iff]
 simp
theorem toSt_get (l : List S41) (i : Nat) (h : i < l.length) : (toSt l)[i]'(by rw [toSt_len]; exact h) = ⟨l[i].f0, l[i].f1⟩ := by simp [toSt]
theorem Spans_l0 (a b : List S41) (hl : a.length ≤ 1000) (hab : a.length = b.length) : ∀ (d i : Nat), i + d = a.length → Ev (fun k => rf_Spans.l0 k a b (i : Int)) (decide ((toSt a).drop i = (toSt b).drop i))
 | 0, i, h => by
  refine Ev.up ?_
  simp only [rf_Spans.l0, if_neg (show ¬ (i : Int) < (a.length : Int) by omega)]
  rw [List.drop_eq_nil_of_le (by rw [toSt_len]; omega), List.drop_eq_nil_of_le (by rw [toSt_len]; omega)]
  simpa using Ev.now true
 | d + 1, i, h => by
  refine Ev.up ?_
  simp only [rf_Spans.l0, if_pos (show (i : Int) < (a.length : Int) by omega), if_pos (show (0 : Int) ≤ (i : Int) by omega), if_pos (show (i : Int) < (b.length : Int) by omega), wi i (by omega), rdA a i (by omega), rdA b i (by omega)]
  rw [drop_dec (toSt a) (toSt b) i (by rw [toSt_len]; omega) (by rw [toSt_len]; omega), toSt_get a i (by omega), toSt_get b i (by omega), dec_S]
  cases hq : (!(a[i].f0 == b[i].f0) || !(a[i].f1 == b[i].f1))
  ·simp only [Bool.false_eq_true, if_false, Bool.not_false, Bool.true_and]
   exact Spans_l0 a b hl hab d (i + 1) (by omega)
  ·simp only [if_true, Bool.not_true, Bool.false_and]
   exact Ev.now _
theorem Spans_f (a b : List S41) (ha : a.length ≤ 1000) : Ev (fun k => rf_Spans.f k a b) (decide (toSt a = toSt b)) := by
 unfold rf_Spans.f
 by_cases h : a.length = b.length
 ·simp only [if_pos (show (a.length : Int) = (b.length : Int) by omega)]
  exact Spans_l0 a b ha h a.length 0 (by omega)
 ·simp only [if_neg (show ¬ (a.length : Int) = (b.length : Int) by omega)]
  rw [decide_eq_false (fun e => h (by have := congrArg List.length e; rwa [toSt_len, toSt_len] at this))]
  exact Ev.now _
theorem Same_l0 (st : List S41) (wg : List S80) (hl : wg.length ≤ 1000) : ∀ (d i : Nat), i + d = wg.length → Ev (fun k => rf_Same.l0 k (i : Int) st wg st wg) true
 | 0, i, h => by
  refine Ev.up ?_
  simp only [rf_Same.l0, if_neg (show ¬ (i : Int) < (wg.length : Int) by omega)]
  exact Ev.now true
 | d + 1, i, h => by
  refine Ev.up ?_
  simp only [rf_Same.l0, if_pos (show (i : Int) < (wg.length : Int) by omega), if_pos (show (0 : Int) ≤ (i : Int) by omega), wi i (by omega), beq_self_eq_true, Bool.not_true, Bool.or_self, Bool.false_eq_true, if_false]
  exact Same_l0 st wg hl d (i + 1) (by omega)
theorem Same_f (st : List S41) (wg : List S80) (h0 : st.length ≤ 1000) (hl : wg.length ≤ 1000) : Ev (fun k => rf_Same.f k st wg st wg) true := by
 unfold rf_Same.f
 refine Ev.bind (Spans_f st st h0) ?_
 simp only [decide_true, if_true, bne_self_eq_false]
 refine Ev.up ?_
 simp only [rf_Same.j0, Bool.false_eq_true, if_false]
 exact Same_l0 st wg hl wg.length 0 (by omega)
theorem Least_f (s : Sp) (h : stB s) (w : Int) (hw : 0 ≤ w ∧ w ≤ 400) : rf_Least.f s.lo s.hi w = some (loS s w) := by
 obtain ⟨h0, h1, h2⟩ := h
 unfold rf_Least.f loS
 have e1 : 0 ≤ w * s.hi := Int.mul_nonneg hw.1 (by omega)
 have e2 : w * s.hi ≤ 400 * 300 := Int.mul_le_mul hw.2 h2 (by omega) (by omega)
 generalize w * s.hi = y at *
 rw [wr (x := y) (by omega), Int.tdiv_eq_ediv_of_nonneg (by omega), wr (x := y / 1000) (by omega), wr (x := y / 1000 * 1000) (by omega), wr (x := y / 1000 + 1) (by omega)]
 split
 ·rw [wr (by omega)]; congr 1; omega
 ·rw [wr (by omega)]; congr 1; omega
theorem Check_l1 (st : List S41) (wg : List S80) (hl : wg.length ≤ 1000) : ∀ (d i : Nat), i + d = wg.length → Ev (fun k => rf_Check.l1 k (i : Int) st wg) (if (toWg (wg.drop i)).any (wgBad st.length) then 2 else 0)
 | 0, i, h => by
  refine Ev.up ?_
  simp only [rf_Check.l1, if_neg (show ¬ (i : Int) < (wg.length : Int) by omega)]
  rw [List.drop_eq_nil_of_le (by omega)]
  exact Ev.now _
 | d + 1, i, h => by
  refine Ev.up ?_
  have hi : i < wg.length := by omega
  simp only [rf_Check.l1, if_pos (show (i : Int) < (wg.length : Int) by omega), if_pos (show (0 : Int) ≤ (i : Int) by omega), wi i (by omega), rdW wg i hi, In_f, Option.bind_some]
  have ih := Check_l1 st wg hl d (i + 1) (by omega)
  rw [List.drop_eq_getElem_cons hi]
  have e : (toWg (wg[i] :: wg.drop (i + 1))).any (wgBad st.length) = (wgBad st.length ⟨wg[i].f0, wg[i].f1, wg[i].f2⟩ || (toWg (wg.drop (i + 1))).any (wgBad st.length)) := rfl
  rw [e]
  unfold wgBad at ih ⊢
  cases h1 : inB 0 (st.length : Int) [wg[i].f0] <;> cases h2 : inB 0 400 [wg[i].f1] <;> cases h3 : inB 0 20 [wg[i].f2] <;> simp only [Bool.false_eq_true, if_false, if_true, Bool.not_true, Bool.not_false, Bool.or_true, Bool.true_or, Bool.or_false, Bool.false_or]
  all_goals first | exact Ev.now _ | exact ih
theorem Check_l0 (st : List S41) (wg : List S80) (hs : st.length ≤ 1000) (hl : wg.length ≤ 1000) : ∀ (d i : Nat), i + d = st.length → Ev (fun k => rf_Check.l0 k (i : Int) st wg) (if (toSt (st.drop i)).any stBad then 4 else if wg.length > 8 then 5 else if (toWg wg).any (wgBad st.length) then 2 else 0)
 | 0, i, h => by
  refine Ev.up ?_
  simp only [rf_Check.l0, if_neg (show ¬ (i : Int) < (st.length : Int) by omega)]
  rw [List.drop_eq_nil_of_le (by omega)]
  have e : (toSt []).any stBad = false := rfl
  rw [e]
  simp only [Bool.false_eq_true, if_false]
  by_cases h8 : wg.length > 8
  ·simp only [if_pos h8, if_pos (show (wg.length : Int) > 8 by omega)]
   exact Ev.now _
  ·simp only [if_neg h8, if_neg (show ¬ (wg.length : Int) > 8 by omega)]
   have h9 := Check_l1 st wg hl wg.length 0 (by omega)
   rw [List.drop_zero] at h9
   exact h9
 | d + 1, i, h => by
  refine Ev.up ?_
  have hi : i < st.length := by omega
  simp only [rf_Check.l0, if_pos (show (i : Int) < (st.length : Int) by omega), if_pos (show (0 : Int) ≤ (i : Int) by omega), wi i (by omega), rdA st i hi, In_f, Option.bind_some]
  have ih := Check_l0 st wg hs hl d (i + 1) (by omega)
  rw [List.drop_eq_getElem_cons hi]
  have e : (toSt (st[i] :: st.drop (i + 1))).any stBad = (stBad ⟨st[i].f0, st[i].f1⟩ || (toSt (st.drop (i + 1))).any stBad) := rfl
  rw [e]
  have e2 : stBad ⟨st[i].f0, st[i].f1⟩ = !(inB 0 st[i].f1 [st[i].f0] && !decide (st[i].f1 > 300)) := by
   unfold stBad
   rw [Bool.eq_iff_iff]
   simp only [Bool.or_eq_true, decide_eq_true_eq, Bool.not_eq_true', Bool.and_eq_false_iff, Bool.not_eq_false']
   have a1 : (inB 0 300 [st[i].f0, st[i].f1] = false) ↔ ¬ ((0 ≤ st[i].f0 ∧ st[i].f0 ≤ 300) ∧ (0 ≤ st[i].f1 ∧ st[i].f1 ≤ 300)) := by
    rw [← Bool.not_eq_true, inB_iff]
    simp
   have a2 : (inB 0 st[i].f1 [st[i].f0] = false) ↔ ¬ (0 ≤ st[i].f0 ∧ st[i].f0 ≤ st[i].f1) := by rw [← Bool.not_eq_true, inB_one]
   rw [a1, a2]
   omega
  rw [e2]
  cases h1 : inB 0 st[i].f1 [st[i].f0]
  ·simp only [Bool.false_eq_true, if_false, Bool.false_and, Bool.not_false, Bool.true_or, if_true]
   exact Ev.now _
  ·by_cases h3 : st[i].f1 > 300
   ·simp only [h3, if_true, decide_true, Bool.not_true, Bool.and_false, Bool.not_false, Bool.true_or]
    exact Ev.now _
   ·simp only [h3, if_true, decide_false, Bool.not_false, Bool.and_true, Bool.not_true, Bool.false_or, if_false]
    exact ih
theorem Check_f (st : List S41) (wg : List S80) (hs : st.length ≤ 1000) (hl : wg.length ≤ 1000) : Ev (fun k => rf_Check.f k st wg) (roadE (toSt st) (toWg wg)) := by
 unfold rf_Check.f roadE
 simp only [In_f, Option.bind_some, toSt_len, toWg_len]
 cases h1 : inB 1 5 [(st.length : Int)]
 ·simp only [Bool.false_eq_true, if_false]
  exact Ev.now _
 ·simp only [if_true]
  have h9 := Check_l0 st wg hs hl st.length 0 (by omega)
  rw [List.drop_zero] at h9
  exact h9
end Go.Proofs.YtemingmeidmjkaaDoor.Q
namespace Go.Proofs.YtemingmeidmjkaaDoor.Q
open Go.RowKit Go.Proofs.YtemingmeidmjkaaDoorW.PrintWords
set_option linter.unusedVariables false
set_option linter.unusedSimpArgs false
theorem leN_mono {st : List Sp} (h : ∀ s ∈ st, stB s) {x y : Int} (hxy : x ≤ y) : ∀ k : Nat, k ≤ st.length → leN st x k ≤ leN st y k
 | 0, _ => hxy
 | k + 1, hk => by
  have e : rdS st k = st[k] := rdS_nat st k (by omega)
  exact loS_mono (by rw [e]; exact h _ (List.getElem_mem _)) (leN_mono h hxy k (by omega))
theorem bs_spec (f : Int → Bool) (hf : ∀ x y, x ≤ y → f x = true → f y = true) : ∀ (k : Nat) (i j : Int), i ≤ j → j - i < k → i ≤ bsS f k i j ∧ bsS f k i j ≤ j ∧ (∀ x, i ≤ x → x < bsS f k i j → f x = false) ∧ (bsS f k i j < j → f (bsS f k i j) = true)
 | 0, i, j, h, hk => by omega
 | k + 1, i, j, h, hk => by
  unfold bsS
  by_cases hij : i < j
  ·rw [if_pos hij]
   cases hm : f ((i + j) / 2)
   ·simp only [Bool.false_eq_true, if_false]
    obtain ⟨h1, h2, h3, h4⟩ := bs_spec f hf k ((i + j) / 2 + 1) j (by omega) (by omega)
    refine ⟨by omega, h2, fun x hx1 hx2 => ?_, h4⟩
    by_cases hx : x ≤ (i + j) / 2
    ·cases hfx : f x
     ·rfl
     ·rw [hf x _ hx hfx] at hm; cases hm
    ·exact h3 x (by omega) hx2
   ·simp only [if_true]
    obtain ⟨h1, h2, h3, h4⟩ := bs_spec f hf k i ((i + j) / 2) (by omega) (by omega)
    refine ⟨h1, by omega, h3, fun hx => ?_⟩
    by_cases h5 : bsS f k i ((i + j) / 2) < (i + j) / 2
    ·exact h4 h5
    ·rw [show bsS f k i ((i + j) / 2) = (i + j) / 2 by omega]; exact hm
  ·rw [if_neg hij]
   exact ⟨by omega, by omega, fun x h1 h2 => by omega, fun h => by omega⟩
def ndLin (f : Int → Bool) : Nat → Int → Int
 | 0, _ => -1
 | d + 1, n => if f n then n else ndLin f d (n + 1)
theorem lin_spec (f : Int → Bool) : ∀ (d : Nat) (n : Int), (ndLin f d n = -1 ∧ ∀ x, n ≤ x → x < n + d → f x = false) ∨ (n ≤ ndLin f d n ∧ ndLin f d n < n + d ∧ f (ndLin f d n) = true ∧ ∀ x, n ≤ x → x < ndLin f d n → f x = false)
 | 0, n => .inl ⟨rfl, fun x h1 h2 => by omega⟩
 | d + 1, n => by
  unfold ndLin
  cases hn : f n
  ·simp only [Bool.false_eq_true, if_false]
   rcases lin_spec f d (n + 1) with ⟨h1, h2⟩ | ⟨h1, h2, h3, h4⟩
   ·refine .inl ⟨h1, fun x hx1 hx2 => ?_⟩
    by_cases e : x = n
    ·rw [e]; exact hn
    ·exact h2 x (by omega) (by omega)
   ·refine .inr ⟨by omega, by omega, h3, fun x hx1 hx2 => ?_⟩
    by_cases e : x = n
    ·rw [e]; exact hn
    ·exact h4 x (by omega) hx2
  ·simp only [if_true]
   exact .inr ⟨Int.le_refl _, by omega, hn, fun x h1 h2 => by omega⟩
theorem lin_bs (f : Int → Bool) (hf : ∀ x y, x ≤ y → f x = true → f y = true) : ndLin f 401 0 = if bsS f 1001 0 401 > 400 then -1 else bsS f 1001 0 401 := by
 obtain ⟨h1, h2, h3, h4⟩ := bs_spec f hf 1001 0 401 (by omega) (by omega)
 rcases lin_spec f 401 0 with ⟨e1, e2⟩ | ⟨e1, e2, e3, e4⟩
 ·rw [e1]
  by_cases h : bsS f 1001 0 401 > 400
  ·rw [if_pos h]
  ·have h5 := h4 (by omega)
   rw [e2 _ h1 (by omega)] at h5
   cases h5
 ·by_cases h : bsS f 1001 0 401 > 400
  ·have h5 := h3 _ e1 (by omega)
   rw [h5] at e3; cases e3
  ·rw [if_neg h]
   have h5 := h4 (by omega)
   by_cases c1 : ndLin f 401 0 < bsS f 1001 0 401
   ·rw [h3 _ e1 c1] at e3; cases e3
   ·by_cases c2 : bsS f 1001 0 401 < ndLin f 401 0
    ·rw [e4 _ h1 c2] at h5; cases h5
    ·omega
theorem rdSt' (l : List S41) (i : Nat) (h : i < l.length) : rdS (toSt l) (i : Int) = ⟨l[i].f0, l[i].f1⟩ := by
 rw [rdS_nat _ _ (by rw [toSt_len]; exact h), toSt_get l i h]
theorem Need_l1 (st : List S41) (wg : List S80) (hok : RdOk (toSt st) (toWg wg)) (want n : Int) (hn : 0 ≤ n ∧ n ≤ 400) (r : Int)
  (h : if leN (toSt st) n st.length ≥ want then r = n else Ev (fun k => rf_Need.l0 k want (n + 1) st wg) r) : ∀ (d i : Nat), i + d = st.length → Ev (fun k => rf_Need.l1 k want n (leN (toSt st) n i) (i : Int) st wg) r
 | 0, i, hd => by
  refine Ev.up ?_
  obtain rfl : i = st.length := by omega
  simp only [rf_Need.l1, if_neg (show ¬ (st.length : Int) < (st.length : Int) by omega)]
  by_cases hw : leN (toSt st) n st.length ≥ want
  ·rw [if_pos hw] at h
   simp only [if_pos hw]
   rw [h]
   exact Ev.now _
  ·rw [if_neg hw] at h
   simp only [if_neg hw]
   rw [wr (by omega)]
   exact h
 | d + 1, i, hd => by
  refine Ev.up ?_
  have hi : i < st.length := by omega
  have hlen := hok.len
  rw [toSt_len] at hlen
  have hv := hok.at (i : Int) (by omega) (by rw [toSt_len]; omega)
  have hb := leN_bd hok hn.1 i (by rw [toSt_len]; omega)
  have e := Least_f (rdS (toSt st) (i : Int)) hv (leN (toSt st) n i) ⟨hb.1, by omega⟩
  rw [rdSt' st i hi] at e
  simp only [rf_Need.l1, if_pos (show (i : Int) < (st.length : Int) by omega), if_pos (show (0 : Int) ≤ (i : Int) by omega), rdA st i hi]
  simp only at e
  rw [e]
  simp only [Option.bind_some]
  rw [wi i (by omega)]
  have e2 : loS ⟨st[i].f0, st[i].f1⟩ (leN (toSt st) n i) = leN (toSt st) n (i + 1) := by rw [← rdSt' st i hi]; rfl
  rw [e2]
  exact Need_l1 st wg hok want n hn r h d (i + 1) (by omega)
theorem Need_l0 (st : List S41) (wg : List S80) (hok : RdOk (toSt st) (toWg wg)) (want : Int) : ∀ (d : Nat) (n : Int), 0 ≤ n → n + d = 401 → Ev (fun k => rf_Need.l0 k want n st wg) (ndLin (fun x => decide (leN (toSt st) x (toSt st).length ≥ want)) d n)
 | 0, n, h0, hd => by
  refine Ev.up ?_
  simp only [rf_Need.l0, if_neg (show ¬ n ≤ 400 by omega)]
  exact Ev.now _
 | d + 1, n, h0, hd => by
  refine Ev.up ?_
  simp only [rf_Need.l0, if_pos (show n ≤ 400 by omega)]
  refine Need_l1 st wg hok want n ⟨h0, by omega⟩ _ ?_ st.length 0 (by omega)
  unfold ndLin
  rw [toSt_len]
  by_cases hw : leN (toSt st) n st.length ≥ want
  ·simp only [hw, if_true, decide_true]
  ·simp only [hw, if_false, decide_false, Bool.false_eq_true]
   have ih := Need_l0 st wg hok want d (n + 1) (by omega) (by omega)
   rw [toSt_len] at ih
   exact ih
theorem Need_f (st : List S41) (wg : List S80) (hok : RdOk (toSt st) (toWg wg)) (want : Int) : Ev (fun k => rf_Need.f k st wg want) (if ndV (toSt st) want > 400 then -1 else ndV (toSt st) want) := by
 have h := Need_l0 st wg hok want 401 0 (by omega) (by omega)
 rw [lin_bs] at h
 ·exact h
 ·intro x y hxy hx
  simp only [decide_eq_true_eq] at hx ⊢
  exact Int.le_trans hx (leN_mono hok.sts hxy _ (Nat.le_refl _))
theorem ndV_nn (st : List Sp) (hok : RdOk st []) (want : Int) : 0 ≤ ndV st want := by
 refine (bs_spec _ ?_ 1001 0 401 (by omega) (by omega)).1
 intro x y hxy hx
 simp only [decide_eq_true_eq] at hx ⊢
 exact Int.le_trans hx (leN_mono hok.sts hxy _ (Nat.le_refl _))
theorem WoolNeeds_ev (st : List S41) (wg : List S80) (want : Int) : Ev (fun k => lw_WoolNeeds.f k st wg want) true := by
 unfold lw_WoolNeeds.f
 simp only [long_f, Option.bind_some]
 by_cases hlong : (st.length : Int) > 10 ∨ (wg.length : Int) > 12
 ·simp only [hlong, decide_true, if_true, known_f, Option.bind_some]
  exact Ev.now _
 ·simp only [hlong, decide_false, Bool.false_eq_true, if_false]
  simp only [Copy_f st wg (by omega) (by omega), Option.bind_some, wool_Need.f]
  refine Ev.bind (Same_f st wg (by omega) (by omega)) ?_
  simp only [if_true]
  refine Ev.bind (Check_f st wg (by omega) (by omega)) ?_
  simp only [In_f, Option.bind_some]
  by_cases he : roadE (toSt st) (toWg wg) = 0
  ·simp only [if_pos he]
   have hok := (road_ok he).1
   have hnn := ndV_nn (toSt st) ⟨hok.sts, fun x hx => by simp at hx, hok.len⟩ want
   cases hi : inB 0 400 [want]
   ·have e1 : ndE (toSt st) (toWg wg) want = 3 := by simp [ndE, he, hi]
    have e2 : ndR (toSt st) (toWg wg) want = 0 := by simp [ndR, e1]
    refine Ev.up ?_
    simp only [lw_WoolNeeds.j0, Bool.not_false, if_true, e1, e2]
    refine Ev.up ?_
    simp only [lw_WoolNeeds.j1, if_neg (show ¬ (3 : Int) = 0 by omega)]
    refine Ev.up ?_
    simp only [lw_WoolNeeds.j2, if_neg (show ¬ (3 : Int) = 0 by omega), if_true, known_f, Option.bind_some]
    exact Ev.now _
   ·refine Ev.up ?_
    simp only [lw_WoolNeeds.j0, Bool.not_true, Bool.false_eq_true, if_false, he]
    refine Ev.up ?_
    simp only [lw_WoolNeeds.j1, if_true]
    refine Ev.bind (Need_f st wg hok want) ?_
    by_cases hg : ndV (toSt st) want > 400
    ·have e1 : ndE (toSt st) (toWg wg) want = 7 := by simp [ndE, he, hi, hg]
     have e2 : ndR (toSt st) (toWg wg) want = 0 := by simp [ndR, e1]
     simp only [if_pos hg, e1, e2, if_pos (show (-1 : Int) < 0 by omega)]
     refine Ev.up ?_
     simp only [lw_WoolNeeds.j2, if_neg (show ¬ (7 : Int) = 0 by omega), if_true, known_f, Option.bind_some]
     exact Ev.now _
    ·have e1 : ndE (toSt st) (toWg wg) want = 0 := by simp [ndE, he, hi, hg]
     have e2 : ndR (toSt st) (toWg wg) want = ndV (toSt st) want := by simp [ndR, e1]
     simp only [if_neg hg, e1, e2, if_neg (show ¬ ndV (toSt st) want < 0 by omega)]
     refine Ev.up ?_
     simp only [lw_WoolNeeds.j2, if_true, known_f, Option.bind_some]
     exact Ev.now _
  ·have e1 : ndE (toSt st) (toWg wg) want = roadE (toSt st) (toWg wg) := by simp [ndE, he]
   have e2 : ndR (toSt st) (toWg wg) want = 0 := by simp [ndR, e1, he]
   simp only [if_neg he, e1, e2]
   refine Ev.up ?_
   simp only [lw_WoolNeeds.j0, Bool.false_eq_true, if_false]
   refine Ev.up ?_
   simp only [lw_WoolNeeds.j1, if_neg he]
   refine Ev.up ?_
   simp only [lw_WoolNeeds.j2, if_neg he, if_true, known_f, Option.bind_some]
   exact Ev.now _
theorem WoolNeeds_pure (l0_0 : List (S41)) (l0_1 : List (S80)) (a1 : Int) (w0 : (∀ x_ ∈ l0_0, ((Lit.int .i64 x_.f0).wf = true) ∧ ((Lit.int .i64 x_.f1).wf = true)) ∧ (∀ x_ ∈ l0_1, ((Lit.int .i64 x_.f0).wf = true) ∧ (((Lit.int .i64 x_.f1).wf = true) ∧ ((Lit.int .i64 x_.f2).wf = true)))) (w1 : (Lit.int .i64 a1).wf = true) : ∃ k, lw_WoolNeeds.f k l0_0 l0_1 a1 = some true := (WoolNeeds_ev l0_0 l0_1 a1).rounds
end Go.Proofs.YtemingmeidmjkaaDoor.Q
namespace Go.Proofs.YtemingmeidmjkaaDoor
open Go.RowKit Go.ChangeShapes Go.Shelf Go.Proofs.YtemingmeidmjkaaDoorW.PrintWords
set_option linter.unusedVariables false
set_option maxRecDepth 100000
theorem glNamed : Tryd.prog.globalNamed "walkmill/wool.all" = some 0 := by kernel_rfl
theorem glType : (Tryd.prog.globals[0]?).map (·.type) = some 100 := by kernel_rfl
theorem cells3 : Tryd.prog.cellsOf 3 = 1 := by kernel_rfl
theorem cellsSome : Tryd.prog.cellsOf 100 = 2 := by kernel_rfl
theorem gl_of_laid {W : World} (h : laidMetH Tryd.prog [("walkmill/wool.all", Rows.laid_walkmill_wool_all)] W) : GL W := by
 have h' : laidMet Tryd.prog [("walkmill/wool.all", Rows.laid_walkmill_wool_all)] W := h
 clear h; have h := h'
 obtain ⟨ps, ⟨g, t, cs, fuel, p, q, e1, e2, e3, e4, _, _⟩, _⟩ := h
 obtain rfl := Option.some.inj (glNamed.symm.trans e1)
 obtain rfl := Option.some.inj (glType.symm.trans e2)
 obtain ⟨xs, n, _, hx, hl, hlen, hf⟩ := DataW.trod_struct Tryd.underlying100 e4
 have hcell := fun i => World.var?_cell glNamed e3 i
 have hl2 : cs.toList.length = 2 := by rw [hl]; exact cellsSome
 match xs, hlen with
 | [y0, y1], _ =>
  have f0 := hf 0 _ rfl
  have f1 := hf 1 _ rfl
  simp only [List.getElem?_cons_zero, List.getElem?_cons_succ] at f0 f1
  obtain ⟨a, ha, rfl, _⟩ := DataW.trod_int Tryd.underlying3 f0
  obtain ⟨b, hb, rfl, _⟩ := DataW.trod_int Tryd.underlying3 f1
  simp only [List.map_cons, List.map_nil, Rows.laid_walkmill_wool_all, Prod.mk.injEq, DataW.agg.injEq, List.cons.injEq, DataW.lit.injEq, Lit.int.injEq, true_and, and_true] at hx
  obtain ⟨⟨rfl, rfl⟩, _⟩ := hx
  have hcs : cs = #[.int .i64 0, .int .i64 400] := by
   apply Array.toList_inj.1
   match hc : cs.toList, hl2 with
   | [u, v], _ =>
    rw [hc] at ha hb
    simp [cells3] at ha hb
    rw [ha, hb]
  refine ⟨rfl, by decide, fun _ => ⟨_, rfl, fun j x hj => ?_⟩⟩
  match j, hj with
  | 0, hj =>
   simp only [List.getElem?_cons_zero, Option.some.injEq] at hj
   subst hj
   refine ⟨[.int .i64 0, .int .i64 400], rfl, kSp_mk _ ⟨0, 400⟩, fun i u hi => ?_⟩
   have h9 := hcell i
   rw [hcs] at h9
   rw [add_plain]
   simp only [Nat.zero_mul, Nat.zero_add] at *
   rw [h9]
   simpa using hi
def lay0 (w : World) : World := { w with heap := w.heap.modify 0 fun o => match o with
  | .cells _ t frozen => .cells #[.int .i64 0, .int .i64 400] t frozen
  | o => o }
theorem lay0_met (os : Os) (args : Array Value) : laidMetH Tryd.prog [("walkmill/wool.all", Rows.laid_walkmill_wool_all)] ((lay0 (World.holding Tryd.prog os ⟨#[], #[], []⟩)).forCall (fun _ _ => 0) ⟨#[], args, []⟩).memory := by
 show laidMet Tryd.prog [("walkmill/wool.all", Rows.laid_walkmill_wool_all)] _
 exact laidMet_of_run' 8 (by kernel_rfl) (by kernel_rfl)
end Go.Proofs.YtemingmeidmjkaaDoor
