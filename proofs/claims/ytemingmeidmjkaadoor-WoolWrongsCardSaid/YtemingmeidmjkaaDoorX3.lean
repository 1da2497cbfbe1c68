/- The walks of this program's functions. No condition. -/
import Derived.Test.YtemingmeidmjkaaDoorX0
import Derived.Test.YtemingmeidmjkaaDoorX2
import Derived.Test.YtemingmeidmjkaaDoorX1
import Derived.BigQuiet
set_option linter.unusedVariables false
set_option linter.unusedSimpArgs false
namespace Go.Proofs.YtemingmeidmjkaaDoor.Q
open Go.RowKit Go.Proofs.YtemingmeidmjkaaDoorW.PrintWords Go.Proofs.YtemingmeidmjkaaDoorW.PrintLast Go.Proofs.YtemingmeidmjkaaDoorW.PrintMore
attribute [local go_sem] max2_int min2_int max_two min_two max_three min_three max_four min_four   -- for this text's walks alone
set_option linter.unusedVariables false
set_option linter.unusedSimpArgs false
def slices_Compare_int_int.l0 : Nat → List Int → List Int → List Int → Int → Int → Option (Int)
 | 0, _, _, _, _, _ => none
 | k + 1, x0, x1, x9, x10, x11 => if x11 < x10 then (if 0 ≤ x11 then (if x11 < (x9.length : Int) then (if x11 ≥ (x1.length : Int) then (some 1) else (if x11 < (x1.length : Int) then ((cmp_Compare_int.f (rd x9 x11) (rd x1 x11)).bind fun t149 => (if t149 = 0 then (slices_Compare_int_int.l0 k x0 x1 x9 x10 (wrap64 (x11 + 1))) else (some t149))) else (none))) else (none)) else (none)) else (if (x0.length : Int) < (x1.length : Int) then (some (-1)) else (some 0))
def slices_Compare_int_int.f (k : Nat) (l0 : List Int) (l1 : List Int) : Option (Int) := slices_Compare_int_int.l0 k l0 l1 l0 (l0.length : Int) 0
set_option maxHeartbeats 8000000 in
set_option maxRecDepth 100000 in
theorem slices_Compare_int_int.calls (k : Nat) (A0 : Option Addr) (c0 : Nat) (l0 : List Int) (A1 : Option Addr) (c1 : Nat) (l1 : List Int) (r : Int) (w : World) (hr0 : Kd.C (Kd.int .i64) w A0 l0.length l0) (hc0 : l0.length ≤ c0) (hr1 : Kd.C (Kd.int .i64) w A1 l1.length l1) (hc1 : l1.length ≤ c1) (h : slices_Compare_int_int.f k l0 l1 = some r) :
  Calls Tryd.prog 78 #[.slice A0 l0.length c0, .slice A1 l1.length c1] w fun e w' => e = .returned (.int .i64 r) ∧ Drawn0 w w' := by
 have HR0 := Aside0.mk hr0; have HC0 := Aside0.mk hc0; clear hr0 hc0; have HR1 := Aside0.mk hr1; have HC1 := Aside0.mk hc1; clear hr1 hc1; have H : (slices_Compare_int_int.l0 k l0 l1 l0 (l0.length : Int) 0) = some r := h; clear h; have H' := Aside0.mk H; clear H; go_enter Tryd.func78, Tryd.ntmps78
 go_wp2
 go_loopg [11] k (fun kq v11 w' => ∃ (x11_1 : Int), v11 = .int .i64 x11_1 ∧ Aside0 (slices_Compare_int_int.l0 kq l0 l1 l0 (l0.length : Int) x11_1 = some r) ∧ Aside0 (kq ≤ k) ∧ Drawn0 w w')
 case atStart => exact ⟨(0), sqE, H', ⟨Nat.le_refl _⟩, by repeat (first | exact Drawn0.refl _ | apply Drawn0.step)⟩
 case round =>
  clear H'; try clear c1
  obtain ⟨x11_1, rfl, HA, HK1, ⟨m1, rfl⟩⟩ := hrel
  cases gk with
  | zero => exact absurd HA.out (by simp [slices_Compare_int_int.l0])
  | succ k1 =>
   have H := HA.out; clear HA; simp only [slices_Compare_int_int.l0] at H
   by_cases c3 : x11_1 < (l0.length : Int)
   ·rw [if_pos c3] at H
    have c3b0 : decide (x11_1 < (l0.length : Int)) = true := decide_eq_true c3; clear c3
    by_cases c4 : 0 ≤ x11_1
    ·rw [if_pos c4] at H
     have c4b0 : decide (0 ≤ x11_1) = true := decide_eq_true c4; clear c4
     by_cases c5 : x11_1 < (l0.length : Int)
     ·rw [if_pos c5] at H
      have c5b0 : decide (x11_1 < (l0.length : Int)) = true := decide_eq_true c5; clear c5
      by_cases c6 : x11_1 ≥ (l1.length : Int)
      ·rw [if_pos c6] at H
       have c6b0 : decide ((l1.length : Int) ≤ x11_1) = true := decide_eq_true c6; clear c6; obtain rfl := Option.some.inj H; have p147 : 0 ≤ (x11_1 : Int) := sqD; have q147 : x11_1 < (l0.length : Int) := sqD; obtain ⟨ad147, e147, hx147_0⟩ := Kd.at_int HR0.out x11_1 p147 q147
       cases e147
       replace p147 := eq_true p147; replace q147 := eq_true q147
       go_wp2
       go_ret
       exact ⟨by first | rfl | (simp; done) | (simp [*]; done), by repeat (first | exact Drawn0.refl _ | apply Drawn0.step)⟩
      ·rw [if_neg c6] at H
       have c6b0 : decide ((l1.length : Int) ≤ x11_1) = false := decide_eq_false c6; clear c6
       by_cases c7 : x11_1 < (l1.length : Int)
       ·rw [if_pos c7] at H
        have c7b0 : decide (x11_1 < (l1.length : Int)) = true := decide_eq_true c7; clear c7; obtain ⟨t149, A80, H⟩ := Option.bind_eq_some_iff.mp H; have A8 := Aside0.mk A80; clear A80
        by_cases c9 : t149 = 0
        ·rw [if_pos c9] at H
         have c9b0 : (t149 == 0) = true := beq_iff_eq.mpr c9; have c9b1 : (t149 != 0) = false := bne_eq_false_iff_eq.mpr c9; clear c9; have H' := Aside0.mk H; clear H; have p147 : 0 ≤ (x11_1 : Int) := sqD; have q147 : x11_1 < (l0.length : Int) := sqD; obtain ⟨ad147, e147, hx147_0⟩ := Kd.at_int HR0.out x11_1 p147 q147
         cases e147
         replace p147 := eq_true p147; replace q147 := eq_true q147; have p148 : 0 ≤ (x11_1 : Int) := sqD; have q148 : x11_1 < (l1.length : Int) := sqD; obtain ⟨ad148, e148, hx148_0⟩ := Kd.at_int HR1.out x11_1 p148 q148
         cases e148
         replace p148 := eq_true p148; replace q148 := eq_true q148
         go_wp2_with (first | ((with_reducible refine gate_callee (f := 106) rfl ?_); refine goesL_ (some 26) rfl rfl Tryd.func106 sqF rfl #[.int .i64 (rd l0 x11_1), .int .i64 (rd l1 x11_1)] rfl sqM ?_; (with_reducible refine (cmp_Compare_int.calls (rd l0 x11_1) (rd l1 x11_1) t149 _ A8.out).mono ?_); rintro e w' ⟨rfl, ⟨nd, rfl⟩⟩; refine ⟨_, rfl, ?_⟩))
         go_roundg k1
         case measure => have := HK1.out; omega
         case rel => exact ⟨(wrap64 (x11_1 + 1)), sqE, H', ⟨by have := HK1.out; omega⟩, by repeat (first | exact Drawn0.refl _ | apply Drawn0.step)⟩
        ·rw [if_neg c9] at H
         have c9b0 : (t149 == 0) = false := beq_eq_false_iff_ne.mpr c9; have c9b1 : (t149 != 0) = true := bne_iff_ne.mpr c9; obtain rfl := Option.some.inj H; have p147 : 0 ≤ (x11_1 : Int) := sqD; have q147 : x11_1 < (l0.length : Int) := sqD; obtain ⟨ad147, e147, hx147_0⟩ := Kd.at_int HR0.out x11_1 p147 q147
         cases e147
         replace p147 := eq_true p147; replace q147 := eq_true q147; have p148 : 0 ≤ (x11_1 : Int) := sqD; have q148 : x11_1 < (l1.length : Int) := sqD; obtain ⟨ad148, e148, hx148_0⟩ := Kd.at_int HR1.out x11_1 p148 q148
         cases e148
         replace p148 := eq_true p148; replace q148 := eq_true q148
         go_wp2_with (first | ((with_reducible refine gate_callee (f := 106) rfl ?_); refine goesL_ (some 26) rfl rfl Tryd.func106 sqF rfl #[.int .i64 (rd l0 x11_1), .int .i64 (rd l1 x11_1)] rfl sqM ?_; (with_reducible refine (cmp_Compare_int.calls (rd l0 x11_1) (rd l1 x11_1) t149 _ A8.out).mono ?_); rintro e w' ⟨rfl, ⟨nd, rfl⟩⟩; refine ⟨_, rfl, ?_⟩))
         go_ret
         exact ⟨by first | rfl | (simp; done) | (simp [*]; done), by repeat (first | exact Drawn0.refl _ | apply Drawn0.step)⟩
       ·rw [if_neg c7] at H
        exact absurd H (by simp)
     ·rw [if_neg c5] at H
      exact absurd H (by simp)
    ·rw [if_neg c4] at H
     exact absurd H (by simp)
   ·rw [if_neg c3] at H
    have c3b0 : decide (x11_1 < (l0.length : Int)) = false := decide_eq_false c3; clear c3
    by_cases c10 : (l0.length : Int) < (l1.length : Int)
    ·rw [if_pos c10] at H
     have c10b0 : decide ((l0.length : Int) < (l1.length : Int)) = true := decide_eq_true c10; have c10b1 : decide (l0.length < l1.length) = true := decide_eq_true (Int.ofNat_lt.mp c10); clear c10; obtain rfl := Option.some.inj H
     go_wp2
     go_ret
     exact ⟨by first | rfl | (simp; done) | (simp [*]; done), by repeat (first | exact Drawn0.refl _ | apply Drawn0.step)⟩
    ·rw [if_neg c10] at H
     have c10b0 : decide ((l0.length : Int) < (l1.length : Int)) = false := decide_eq_false c10; have c10b1 : decide (l0.length < l1.length) = false := decide_eq_false (fun h => c10 (Int.ofNat_lt.mpr h)); clear c10; obtain rfl := Option.some.inj H
     go_wp2
     go_ret
     exact ⟨by first | rfl | (simp; done) | (simp [*]; done), by repeat (first | exact Drawn0.refl _ | apply Drawn0.step)⟩
def lw_long.f (l0_0 : List (S41)) (l0_1 : List (S80)) : Option (Bool) := if (l0_0.length : Int) > 10 then (some true) else (some (decide ((l0_1.length : Int) > 12)))
set_option maxHeartbeats 8000000 in
set_option maxRecDepth 100000 in
theorem lw_long.calls (A0_0 : Option Addr) (c0_0 : Nat) (l0_0 : List (S41)) (A0_1 : Option Addr) (c0_1 : Nat) (l0_1 : List (S80)) (r : Bool) (w : World) (hr0_0 : Kd.C k41 w A0_0 l0_0.length l0_0) (hc0_0 : l0_0.length ≤ c0_0) (hr0_1 : Kd.C k80 w A0_1 l0_1.length l0_1) (hc0_1 : l0_1.length ≤ c0_1) (h : lw_long.f l0_0 l0_1 = some r) :
  Calls Tryd.prog 16 #[.agg #[.slice A0_0 l0_0.length c0_0, .slice A0_1 l0_1.length c0_1]] w fun e w' => e = .returned (.bool r) ∧ Below w.heap.size w w' := by
 have hu25 := Tryd.underlying25; have HR0_0 := Aside0.mk hr0_0; have HC0_0 := Aside0.mk hc0_0; clear hr0_0 hc0_0; have HR0_1 := Aside0.mk hr0_1; have HC0_1 := Aside0.mk hc0_1; clear hr0_1 hc0_1; have HB := Aside0.mk (Below.refl w.heap.size w); have H : (if (l0_0.length : Int) > 10 then (some true) else (some (decide ((l0_1.length : Int) > 12)))) = some r := h; clear h
 by_cases c2 : (l0_0.length : Int) > 10
 ·rw [if_pos c2] at H
  have c2b0 : decide (10 < (l0_0.length : Int)) = true := decide_eq_true c2; have c2b1 : decide (10 < l0_0.length) = true := decide_eq_true (by omega); clear c2; obtain rfl := Option.some.inj H
  go_enter Tryd.func16, Tryd.ntmps16
  go_wp2_with (first | ((with_reducible refine gate_dst (N := 1) rfl ?_); (try (refine gate_guard (by rfl) ?_; dsimp only)); refine box_event ?hg (N := 1) ?hd (cs := #[.slice A0_0 l0_0.length c0_0, .slice A0_1 l0_1.length c0_1]) (t := 25) ?hr ?_; (case hd => rfl); (case hg => rfl); (case hr => first | (go_simp; done) | (go_simp; rfl)); intro gb150 hg w3 hbox hb; have BK150 := Aside0.mk (hbox); have GW150 := Aside0.mk (sqZ hg HB); have GE150 := Aside0.mk (sqZ hg HB); replace HB := sqb hb HB; clear hb hbox hg; have hcz4_0 := sqc0 BK150; have hcz4_1 := sqc1 BK150; have hfz4_0 := blk_frozen BK150.out 0; have hfz4_1 := blk_frozen BK150.out 1))
  go_ret
  exact ⟨by first | rfl | (simp [errW_none, errW_some] <;> rfl) | (simp [*, errW_none, errW_some] <;> rfl), sqB HB⟩
 ·rw [if_neg c2] at H
  have c2b0 : decide (10 < (l0_0.length : Int)) = false := decide_eq_false c2; have c2b1 : decide (10 < l0_0.length) = false := decide_eq_false (by omega); clear c2; obtain rfl := Option.some.inj H
  go_enter Tryd.func16, Tryd.ntmps16
  go_wp2_with (first | ((with_reducible refine gate_dst (N := 1) rfl ?_); (try (refine gate_guard (by rfl) ?_; dsimp only)); refine box_event ?hg (N := 1) ?hd (cs := #[.slice A0_0 l0_0.length c0_0, .slice A0_1 l0_1.length c0_1]) (t := 25) ?hr ?_; (case hd => rfl); (case hg => rfl); (case hr => first | (go_simp; done) | (go_simp; rfl)); intro gb150 hg w5 hbox hb; have BK150 := Aside0.mk (hbox); have GW150 := Aside0.mk (sqZ hg HB); have GE150 := Aside0.mk (sqZ hg HB); replace HB := sqb hb HB; clear hb hbox hg; have hcz6_0 := sqc0 BK150; have hcz6_1 := sqc1 BK150; have hfz6_0 := blk_frozen BK150.out 0; have hfz6_1 := blk_frozen BK150.out 1))
  go_ret
  exact ⟨by first | rfl | (simp [errW_none, errW_some] <;> rfl) | (simp [*, errW_none, errW_some] <;> rfl), sqB HB⟩
end Go.Proofs.YtemingmeidmjkaaDoor.Q
namespace Go.Proofs.YtemingmeidmjkaaDoor.Q
open Go.RowKit Go.Shelf Go.Proofs.YtemingmeidmjkaaDoorW.PrintWords Go.Proofs.YtemingmeidmjkaaDoorW.PrintLast
set_option linter.unusedVariables false
set_option linter.unusedSimpArgs false
def cmpL : List Int → List Int → Int
 | [], [] => 0
 | [], _ :: _ => -1
 | _ :: _, [] => 1
 | a :: l, b :: m => if a < b then -1 else if a > b then 1 else cmpL l m
theorem cmp_f (a b : Int) : cmp_Compare_int.f a b = some (if a < b then -1 else if a > b then 1 else 0) := by
 unfold cmp_Compare_int.f cmp_isNaN_int.f
 simp only [Option.bind_some]
 simp
 split
 ·rfl
 ·split <;> rfl
theorem compare_l0 (a b : List Int) (ha : a.length ≤ 100000) : ∀ (d i : Nat), i + d = a.length → Ev (fun k => slices_Compare_int_int.l0 k a b a (a.length : Int) (i : Int)) (cmpL (a.drop i) (b.drop i))
 | 0, i, hd => by
  refine Ev.up ?_
  obtain rfl : i = a.length := by omega
  simp only [slices_Compare_int_int.l0, if_neg (show ¬ ((a.length : Int) < (a.length : Int)) by omega)]; rw [List.drop_length]
  by_cases h : a.length < b.length
  ·rw [if_pos (by omega), List.drop_eq_getElem_cons h]
   exact Ev.now _
  ·rw [if_neg (by omega), List.drop_eq_nil_of_le (by omega)]
   exact Ev.now _
 | d + 1, i, hd => by
  refine Ev.up ?_
  have hi : i < a.length := by omega
  simp only [slices_Compare_int_int.l0, if_pos (show (i : Int) < (a.length : Int) by omega), if_pos (show (0 : Int) ≤ (i : Int) by omega)]; rw [List.drop_eq_getElem_cons hi]
  by_cases h : i < b.length
  ·rw [List.drop_eq_getElem_cons h, cmpL]
   simp only [if_neg (show ¬ (i : Int) ≥ (b.length : Int) by omega), if_pos (show (i : Int) < (b.length : Int) by omega), cmp_f, Option.bind_some]
   have e1 : rd a (i : Int) = a[i] := by simp [rd, hi]
   have e2 : rd b (i : Int) = b[i] := by simp [rd, h]
   rw [e1, e2]
   by_cases h1 : a[i] < b[i]
   ·simp only [if_pos h1]
    exact Ev.now _
   ·by_cases h2 : a[i] > b[i]
    ·simp only [if_neg h1, if_pos h2]
     exact Ev.now _
    ·simp only [if_neg h1, if_neg h2]
     simp only [if_true, wi i (by omega)]; exact compare_l0 a b ha d (i + 1) (by omega)
  ·have hb0 : b.drop i = [] := List.drop_eq_nil_of_le (by omega)
   rw [hb0]; simp only [if_pos (show (i : Int) ≥ (b.length : Int) by omega)]; exact Ev.now _
theorem compare_ (A : Option Addr) (c : Nat) (a : List Int) (A2 : Option Addr) (c2 : Nat) (b : List Int) (w : World) (hr : Kd.C (Kd.int .i64) w A a.length a) (hc : a.length ≤ c) (hr2 : Kd.C (Kd.int .i64) w A2 b.length b) (hc2 : b.length ≤ c2) (ha : a.length ≤ 100000) :
  Calls Tryd.prog 78 #[.slice A a.length c, .slice A2 b.length c2] w fun e w' => e = .returned (.int .i64 (cmpL a b)) ∧ Up w w' := by
 obtain ⟨k, hk⟩ := compare_l0 a b ha a.length 0 (by omega); refine (slices_Compare_int_int.calls k A c a A2 c2 b (cmpL a b) w hr hc hr2 hc2 (hk k (Nat.le_refl _))).mono ?_; rintro e w' ⟨rfl, hd⟩; exact ⟨rfl, Up.ofDrawn hd⟩
def wrStep (st : List Sp) (wg : List Wg) (best : List Int) (s : Nat) : List Int :=
 if honB st (keepN wg s wg.length) then
  if best = [] then dropN s wg.length
  else if (dropN s wg.length).length < best.length then dropN s wg.length
  else if (dropN s wg.length).length = best.length then (if cmpL (dropN s wg.length) best < 0 then dropN s wg.length else best)
  else best
 else best
def wrN (st : List Sp) (wg : List Wg) (k : Nat) : List Int := (List.range k).foldl (fun b (j : Nat) => wrStep st wg b (j + 1)) []
theorem wrN_succ (st : List Sp) (wg : List Wg) (k : Nat) : wrN st wg (k + 1) = wrStep st wg (wrN st wg k) (k + 1) := by
 simp only [wrN, List.range_succ, List.foldl_append, List.foldl_cons, List.foldl_nil]
theorem wrN_len (st : List Sp) (wg : List Wg) : ∀ k, (wrN st wg k).length ≤ wg.length
 | 0 => by simp [wrN]
 | k + 1 => by
  rw [wrN_succ]; have h1 := wrN_len st wg k; have h2 := dropN_len ((k + 1 : Nat) : Int) wg.length
  unfold wrStep
  (repeat' split) <;> first | exact h1 | exact h2
def wrL (st : List Sp) (wg : List Wg) : List Int := wrN st wg (2 ^ wg.length - 1)
def wrE (st : List Sp) (wg : List Wg) : Int := if roadE st wg = 0 then (if honB st wg then 6 else 0) else roadE st wg
def wrR (st : List Sp) (wg : List Wg) : List Int := if wrE st wg = 0 then wrL st wg else []
theorem keep_ok {st : List Sp} {wg : List Wg} (h : RdOk st wg) (s : Int) : RdOk st (keepN wg s wg.length) := by
 refine ⟨h.sts, ?_, h.len⟩; intro x hx; simp only [keepN, List.mem_map, List.mem_filter, List.mem_range] at hx; obtain ⟨i, ⟨hi, _⟩, rfl⟩ := hx; exact h.wgs _ (rdWg_mem wg i (by omega) (by omega))
theorem own_C_Wg {w : World} {base e : Nat} {v : Value} {xs : List Wg} (h : w.ownsRow base e 3 v xs.length (cellsW xs)) (hm : xs.length ≤ 9223372036854775807) : ∃ A c, v = .slice A xs.length c ∧ xs.length ≤ c ∧ Kd.C kWg w A xs.length xs :=
 own_Kd kWg (fun x => [.int .i64 x.p, .int .i64 x.r, .int .i64 x.o]) (fun w x => kWg_mk w x) (fun _ => rfl) h hm
set_option maxRecDepth 100000 in
set_option maxHeartbeats 1000000 in
theorem wrong_ (A : Option Addr) (c : Nat) (st : List Sp) (A2 : Option Addr) (c2 : Nat) (wg : List Wg) (w : World) (hG : GL w) (hr : Kd.C kSp w A st.length st) (hc : st.length ≤ c) (hr2 : Kd.C kWg w A2 wg.length wg) (hc2 : wg.length ≤ c2) :
  Calls Tryd.prog 37 #[.agg #[.slice A st.length c, .slice A2 wg.length c2]] w fun e w' => ∃ v, e = .returned (.tuple #[v, .int .i64 (wrE st wg)]) ∧ w'.ownsRow w.heap.size 3 1 v (wrR st wg).length (nums .i64 (wrR st wg)) ∧ Up w w' := by
 have HR := Aside0.mk hr; have HR2 := Aside0.mk hr2; have HGL := Aside0.mk hG; clear hr hr2 hG; have HU0 : Aside0 (Up w (w.alloc (.cells #[.slice A st.length c, .slice A2 wg.length c2] 25))) := ⟨upA⟩; have hcall := open_ A c st A2 c2 wg _ (C_up HR.out HU0.out) hc (C_up HR2.out HU0.out) hc2
 have hbe : (roadE st wg != 0) = !decide (roadE st wg = 0) := by by_cases h : roadE st wg = 0 <;> simp [h]
 go_enter Tryd.func37, Tryd.ntmps37
 go_wp2_with fail
 generalize (w.alloc (.cells #[.slice A st.length c, .slice A2 wg.length c2] 25)) = W0 at *
 refine hcall.mono ?_; clear hcall; rintro e w1 ⟨rfl, hb⟩; have HU1 := Aside0.mk ((HU0.out.then hb).alloc (.cells #[.slice A st.length c, .slice A2 wg.length c2] 95)); have HB4 : Aside0 (Bx (w1.alloc (.cells #[.slice A st.length c, .slice A2 wg.length c2] 95)) w1.heap.size #[.slice A st.length c, .slice A2 wg.length c2] 95) := ⟨Bx.new w1 _ _⟩; have HW1 : Aside0 (w.heap.size ≤ w1.heap.size) := ⟨(HU0.out.then hb).le⟩; clear hb
 by_cases he : roadE st wg = 0
 ·have hd : (roadE st wg != 0) = false := by simp [he]
  have HE := Aside0.mk he; clear he hbe; have hq4 := HB4.out.cell; have hch := honest_ A c st A2 c2 wg _ (HGL.out.up HU1.out) (C_up HR.out HU1.out) hc (C_up HR2.out HU1.out) hc2 (road_ok HE.out).1
  go_wp2_with fail
  refine hch.mono ?_; clear hch hq4; rintro e w2 ⟨v2, rfl, hown, hb⟩; have HU2 := Aside0.mk (HU1.out.then hb); have HB5 := Aside0.mk (HB4.out.up hb); obtain ⟨A3, c3, rfl, hc3, _⟩ := ownF_slice hown; obtain ⟨B4, hB4⟩ : ∃ B, B = w1.heap.size := ⟨_, rfl⟩; rw [← hB4] at HB5; simp only [← hB4]; have HW2 : Aside0 (w.heap.size ≤ B4) := ⟨by rw [hB4]; exact HW1.out⟩; clear hown hb HB4 hB4
  cases hh : honB st wg
  ·have HE2 : Aside0 (wrE st wg = 0) := ⟨by simp [wrE, HE.out, hh]⟩
   have HL : Aside0 (wrR st wg = wrL st wg) := ⟨by simp [wrR, HE2.out]⟩; have hok := road_ok HE.out; have HOK := Aside0.mk hok.1; have hn8 := hok.2.2.2.1; have hp2 : 2 ^ wg.length ≤ 256 := Nat.pow_le_pow_right (n := 2) (by omega) hn8; have hp1 : 1 ≤ 2 ^ wg.length := Nat.one_le_two_pow
   have hwe : ((2 : Int) ^ wg.length) = ((2 ^ wg.length : Nat) : Int) := by rw [Int.natCast_pow]; rfl
   have hwN : wrap64 ((2 : Int) ^ wg.length) = ((2 ^ wg.length : Nat) : Int) := by rw [hwe]; exact wr (by omega)
   clear hwe; have HLL : Aside0 (wrL st wg = wrN st wg (2 ^ wg.length - 1)) := ⟨rfl⟩; clear hh hok; generalize 2 ^ wg.length = N at *
   go_wp2_with fail
   go_loopw [2, 7] (fun v2 i wr => ∃ (j : Nat), j + 1 ≤ N ∧ i = .int .i64 ((j : Int) + 1) ∧ Aside0 (wr.ownsRow w.heap.size 3 1 v2 (wrN st wg j).length (nums .i64 (wrN st wg j))) ∧ Aside0 (wrN st wg j = [] → v2 = .slice none 0 0) ∧ Aside0 (Bx wr B4 #[.slice A st.length c, .slice A2 wg.length c2] 95) ∧ Aside0 (Up w wr)) (fun _ i _ => N - (intOf i).toNat)
   case atStart => exact ⟨0, by omega, rfl, ⟨⟨by simp [wrN, nums], .inl ⟨rfl, rfl⟩⟩⟩, ⟨fun _ => rfl⟩, HB5, HU2⟩
   case round =>
    clear HB5 HU2 HU1; obtain ⟨j, hj, rfl, hO, hE, hB, hU⟩ := hrel; have hqb := hB.out.cell
    by_cases hlt : j + 1 < N
    ·have hlt2 : (j : Int) + 1 < (N : Int) := by omega
     have hwk : IntKind.i64.wrap ((j : Int) + 1 + 1) = (j : Int) + 1 + 1 := IntWalk.i64_in _ (by omega); have hcl := without_ A st.length c A2 c2 wg ((j : Int) + 1) wr (C_up HR2.out hU.out) hc2 (by omega); have HS : Aside0 (wrN st wg (j + 1) = wrStep st wg (wrN st wg j) (j + 1)) := ⟨wrN_succ st wg j⟩; have hbl := wrN_len st wg j; have hdl := dropN_len ((j : Int) + 1) wg.length; have hkl := keepN_len wg ((j : Int) + 1) wg.length; have hok3 := keep_ok HOK.out ((j : Int) + 1); simp only [wrStep, show (((j + 1 : Nat)) : Int) = (j : Int) + 1 by omega] at HS; obtain ⟨D, hD⟩ : ∃ D, D = dropN ((j : Int) + 1) wg.length := ⟨_, rfl⟩; obtain ⟨K, hK⟩ : ∃ K, K = keepN wg ((j : Int) + 1) wg.length := ⟨_, rfl⟩; obtain ⟨b, hbb⟩ : ∃ b, b = wrN st wg j := ⟨_, rfl⟩; rw [← hD, ← hK, ← hbb] at HS; rw [← hD, ← hK] at hcl; rw [← hD] at hdl; rw [← hK] at hkl hok3; rw [← hbb] at hbl hO hE; have HOK3 := Aside0.mk hok3; clear hD hK hbb hok3; go_wp2_with fail; refine hcl.mono ?_; clear hcl hqb; rintro e w2 ⟨A5, c5, v5, rfl, hkw, hnum, hnil, hb⟩; have HU3 := Aside0.mk ((hU.out.then hb).alloc (.cells #[.slice A st.length c, .slice A5 K.length c5] 95)); have HV3 := Aside0.mk (hb.alloc (.cells #[.slice A st.length c, .slice A5 K.length c5] 95)); have HX3 := Aside0.mk ((Up.refl w2).alloc (.cells #[.slice A st.length c, .slice A5 K.length c5] 95)); have HB8 : Aside0 (Bx (w2.alloc (.cells #[.slice A st.length c, .slice A5 K.length c5] 95)) w2.heap.size #[.slice A st.length c, .slice A5 K.length c5] 95) := ⟨Bx.new w2 _ _⟩; obtain ⟨A6, c6, hv6, hc6, hC6⟩ := own_C_Wg hkw (by omega)
     cases hv6
     have hch := honest_ A c st A5 c5 K _ (HGL.out.up HU3.out) (C_up HR.out HU3.out) hc (C_up hC6 HX3.out) hc6 HOK3.out; have HN : Aside0 (w2.ownsRow w.heap.size 3 1 v5 D.length (nums .i64 D)) := ⟨own_mono hnum hU.out.le⟩; have HNIL := Aside0.mk hnil; have hq8 := HB8.out.cell; clear hkw hnum hnil hb hC6; go_wp2_with fail; refine hch.mono ?_; clear hch hq8; rintro e w3 ⟨v6, rfl, hown, hb⟩; obtain ⟨A7, c7, rfl, hc7, _⟩ := ownF_slice hown; have HU4 := Aside0.mk (HU3.out.then hb); have HO4 := Aside0.mk (own_up hO.out (HV3.out.then hb)); have HN4 := Aside0.mk (own_up HN.out (HX3.out.then hb)); have HB9 := Aside0.mk (hB.out.up (HV3.out.then hb)); clear hown hb
     cases hh : honB st K
     ·have HS2 : Aside0 (wrN st wg (j + 1) = b) := ⟨by rw [HS.out, hh]; rfl⟩
      clear hh; go_wp2_with fail
      go_roundw
      case rel => exact ⟨j + 1, by omega, by go_num, ⟨by rw [HS2.out]; exact HO4.out⟩, ⟨by rw [HS2.out]; exact hE.out⟩, HB9, HU4⟩
      case measure => simp [intOf]; omega
     ·by_cases hb0 : b = []
      ·have HS2 : Aside0 (wrN st wg (j + 1) = D) := ⟨by rw [HS.out, hh, if_pos hb0]; rfl⟩
       have hv2 := hE.out hb0; subst hv2; have hn0 := nilE; clear hh hb0; go_wp2_with fail
       go_roundw
       case rel => exact ⟨j + 1, by omega, by go_num, ⟨by rw [HS2.out]; exact HN4.out⟩, ⟨by rw [HS2.out]; exact HNIL.out⟩, HB9, HU4⟩
       case measure => simp [intOf]; omega
      ·have hb1 : 0 < b.length := List.length_pos_iff.2 hb0
       obtain ⟨A8, c8, rfl, hc8, hC8⟩ := own_C_int HN4.out (by omega); have HC8 := Aside0.mk hC8; have HO4' := HO4; obtain ⟨A9, c9, hv9, hc9, hC9⟩ := own_C_int HO4.out (by omega)
       obtain ⟨g9, rfl⟩ : ∃ g, A9 = some ⟨g, 0, none⟩ := by
        obtain ⟨A0, c0, hv0, _, hg0⟩ := ownF_slice HO4.out; obtain ⟨g, cur, hg, _⟩ := hg0 hb1; rw [hv9] at hv0
        cases hv0
        exact ⟨g, hg⟩
       subst hv9; have HC9 := Aside0.mk hC9; have hn1 := nilN; have HB0 := Aside0.mk hb0; have HH := Aside0.mk hh; clear hC8 hC9 hb0 hh; have hcc := compare_ A8 c8 D (some ⟨g9, 0, none⟩) c9 b w3 HC8.out hc8 HC9.out hc9 (by omega)
       by_cases hl1 : D.length < b.length
       ·have HS2 : Aside0 (wrN st wg (j + 1) = D) := ⟨by rw [HS.out, HH.out, if_neg HB0.out, if_pos hl1]; rfl⟩
        have hl2 : (D.length : Int) < (b.length : Int) := by omega
        clear hcc; go_wp2_with fail
        go_roundw
        case rel => exact ⟨j + 1, by omega, by go_num, ⟨by rw [HS2.out]; exact HN4.out⟩, ⟨by rw [HS2.out]; exact HNIL.out⟩, HB9, HU4⟩
        case measure => simp [intOf]; omega
       ·have hl2 : ¬ (D.length : Int) < (b.length : Int) := by omega
        by_cases hl3 : D.length = b.length
        ·have HL3 := Aside0.mk hl3
         have hl4 : (D.length : Int) = (b.length : Int) := by omega
         clear hl3; go_wp2_with fail; refine hcc.mono ?_; clear hcc; rintro e w4 ⟨rfl, hb⟩; have HU5 := Aside0.mk (HU4.out.then hb); have HO5 := Aside0.mk (own_up HO4.out hb); have HN5 := Aside0.mk (own_up HN4.out hb); have HBA := Aside0.mk (HB9.out.up hb); clear hb
         by_cases hcm : cmpL D b < 0
         ·have HS2 : Aside0 (wrN st wg (j + 1) = D) := ⟨by rw [HS.out, HH.out, if_neg HB0.out, if_neg hl1, if_pos HL3.out, if_pos hcm]; rfl⟩
          go_wp2_with fail
          go_roundw
          case rel => exact ⟨j + 1, by omega, by go_num, ⟨by rw [HS2.out]; exact HN5.out⟩, ⟨by rw [HS2.out]; exact HNIL.out⟩, HBA, HU5⟩
          case measure => simp [intOf]; omega
         ·have HS2 : Aside0 (wrN st wg (j + 1) = b) := ⟨by rw [HS.out, HH.out, if_neg HB0.out, if_neg hl1, if_pos HL3.out, if_neg hcm]; rfl⟩
          go_wp2_with fail
          go_roundw
          case rel => exact ⟨j + 1, by omega, by go_num, ⟨by rw [HS2.out]; exact HO5.out⟩, ⟨by rw [HS2.out]; exact hE.out⟩, HBA, HU5⟩
          case measure => simp [intOf]; omega
        ·have HS2 : Aside0 (wrN st wg (j + 1) = b) := ⟨by rw [HS.out, HH.out, if_neg HB0.out, if_neg hl1, if_neg hl3]; rfl⟩
         have hl4 : ¬ (D.length : Int) = (b.length : Int) := by omega
         clear hcc; go_wp2_with fail
         go_roundw
         case rel => exact ⟨j + 1, by omega, by go_num, ⟨by rw [HS2.out]; exact HO4.out⟩, ⟨by rw [HS2.out]; exact hE.out⟩, HB9, HU4⟩
         case measure => simp [intOf]; omega
    ·have HJ : Aside0 (wrL st wg = wrN st wg j) := ⟨by rw [HLL.out, show N - 1 = j by omega]⟩
     have hlt2 : ¬ (j : Int) + 1 < (N : Int) := by omega
     go_wp2_with fail
     go_ret2
     exact ⟨_, by rw [HE2.out]; rfl, by rw [HL.out, HJ.out]; exact hO.out, hU.out⟩
  ·have HE2 : Aside0 (wrE st wg = 6) := ⟨by simp [wrE, HE.out, hh]⟩
   have HL : Aside0 (wrR st wg = []) := ⟨by simp [wrR, HE2.out]⟩; clear hh; go_wp2_with fail
   go_ret2
   exact ⟨.slice none 0 0, by rw [HE2.out]; rfl, by rw [HL.out]; exact ⟨rfl, .inl ⟨rfl, rfl⟩⟩, HU2.out⟩
 ·have hd : (roadE st wg != 0) = true := by simp [he]
  have HE2 : Aside0 (wrE st wg = roadE st wg) := ⟨by simp [wrE, he]⟩; have HL : Aside0 (wrR st wg = []) := ⟨by simp [wrR, wrE, he]⟩; clear he hbe; go_wp2_with fail
  go_ret2
  exact ⟨.slice none 0 0, by rw [HE2.out]; rfl, by rw [HL.out]; exact ⟨rfl, .inl ⟨rfl, rfl⟩⟩, HU1.out⟩
end Go.Proofs.YtemingmeidmjkaaDoor.Q
namespace Go.Proofs.YtemingmeidmjkaaDoor.Q
open Go.RowKit Go.Shelf Go.Proofs.YtemingmeidmjkaaDoorW.PrintWords Go.Proofs.YtemingmeidmjkaaDoorW.PrintLast
set_option linter.unusedVariables false
set_option linter.unusedSimpArgs false
attribute [local go_sem] bi_max2 bi_min2 bi_max_two bi_min_two
def lkS (st : List Sp) (wg : List Wg) (p : Nat) (l : List Int) : List Sp := l.map fun s => rdS (thL st wg s.toNat) (p : Int)
def lkHit (off read : Int) (x : Sp) : Bool := !noneB (andS x ⟨read - off, read + off⟩)
def lkC (off read : Int) (L : List Sp) : Nat := (L.filter (lkHit off read)).length
def lkM (off : Int) (L : List Sp) (k : Nat) : Nat := (List.range k).foldl (fun m (j : Nat) => max m (lkC off (-off + (j : Int)) L)) 0
def lkStep (st : List Sp) (wg : List Wg) (off : Int) (l : List Int) (x : Int × Int) (p : Nat) : Int × Int :=
 if ((lkM off (lkS st wg p l) (401 + 2 * off).toNat : Nat) : Int) < x.2 then ((p : Int), ((lkM off (lkS st wg p l) (401 + 2 * off).toNat : Nat) : Int)) else x
def lkP (st : List Sp) (wg : List Wg) (off : Int) (l : List Int) (k : Nat) : Int × Int := (List.range k).foldl (lkStep st wg off l) (-1, (l.length : Int))
theorem lkM_succ (off : Int) (L : List Sp) (k : Nat) : lkM off L (k + 1) = max (lkM off L k) (lkC off (-off + (k : Int)) L) := by
 simp only [lkM, List.range_succ, List.foldl_append, List.foldl_cons, List.foldl_nil]
theorem lkP_succ (st : List Sp) (wg : List Wg) (off : Int) (l : List Int) (k : Nat) : lkP st wg off l (k + 1) = lkStep st wg off l (lkP st wg off l k) k := by
 simp only [lkP, List.range_succ, List.foldl_append, List.foldl_cons, List.foldl_nil]
theorem lkC_le (off read : Int) (L : List Sp) : lkC off read L ≤ L.length := List.length_filter_le _ _
theorem lkM_le (off : Int) (L : List Sp) : ∀ k, lkM off L k ≤ L.length
 | 0 => by simp [lkM]
 | k + 1 => by
  rw [lkM_succ]; have h1 := lkM_le off L k; have h2 := lkC_le off (-off + (k : Int)) L; omega
theorem lkC_succ (off read : Int) (L : List Sp) (i : Nat) (h : i < L.length) : lkC off read (L.take (i + 1)) = lkC off read (L.take i) + (if lkHit off read (rdS L i) then 1 else 0) := by
 have e : L[i] = rdS L i := (rdS_nat L i h).symm
 unfold lkC
 rw [List.take_succ_eq_append_getElem h, List.filter_append, List.length_append, e]
 congr 1
 cases h1 : lkHit off read (rdS L i) <;> simp [h1]
theorem lkS_len (st : List Sp) (wg : List Wg) (p : Nat) (l : List Int) : (lkS st wg p l).length = l.length := by simp [lkS]
theorem lkS_rd (st : List Sp) (wg : List Wg) (p : Nat) (l : List Int) (i : Nat) (h : i < l.length) : rdS (lkS st wg p l) i = rdS (thL st wg (rd l i).toNat) (p : Int) := by
 rw [rdS_nat _ _ (by rw [lkS_len]; exact h)]
 simp [lkS, rd, h]
def lkE (st : List Sp) (wg : List Wg) (off : Int) : Int :=
 if roadE st wg = 0 then (if inB 0 20 [off] then (if owE st wg = 0 then (if (lkP st wg off (owL st wg) (st.length + 1)).1 < 0 then 7 else 0) else owE st wg) else 3) else roadE st wg
def lkA (st : List Sp) (wg : List Wg) (off : Int) : Int × Int := if lkE st wg off = 0 then lkP st wg off (owL st wg) (st.length + 1) else (0, 0)
theorem where_mem {st : List Sp} {wg : List Wg} {s : Int} (h : s ∈ whereL st wg) : ∃ n : Nat, s = (n : Int) ∧ n < st.length ∧ thOk st wg n = true := by
 simp only [whereL, List.mem_map, List.mem_filter, List.mem_range] at h; obtain ⟨i, ⟨h1, h2⟩, rfl⟩ := h; exact ⟨i, rfl, h1, h2⟩
theorem thL_ok_len {st : List Sp} {wg : List Wg} {n : Nat} (h : thOk st wg n = true) : (thL st wg n).length = st.length + 1 := by
 rw [thL, if_pos h, thL5_len]
set_option maxRecDepth 100000 in
set_option maxHeartbeats 1000000 in
theorem look_ (A : Option Addr) (c : Nat) (st : List Sp) (A2 : Option Addr) (c2 : Nat) (wg : List Wg) (off : Int) (w : World) (hG : GL w) (hr : Kd.C kSp w A st.length st) (hc : st.length ≤ c) (hr2 : Kd.C kWg w A2 wg.length wg) (hc2 : wg.length ≤ c2) :
  Calls Tryd.prog 39 #[.agg #[.slice A st.length c, .slice A2 wg.length c2], .int .i64 off] w fun e w' => e = .returned (.tuple #[.int .i64 (lkA st wg off).1, .int .i64 (lkA st wg off).2, .int .i64 (lkE st wg off)]) ∧ Up w w' := by
 have HR := Aside0.mk hr; have HR2 := Aside0.mk hr2; have HGL := Aside0.mk hG; clear hr hr2 hG; have HU0 : Aside0 (Up w (w.alloc (.cells #[.slice A st.length c, .slice A2 wg.length c2] 25))) := ⟨upA⟩; have HB2 : Aside0 (Bx (w.alloc (.cells #[.slice A st.length c, .slice A2 wg.length c2] 25)) w.heap.size #[.slice A st.length c, .slice A2 wg.length c2] 25) := ⟨Bx.new w _ _⟩; have hcall := check_ A c st A2 c2 wg _ (C_up HR.out HU0.out) hc (C_up HR2.out HU0.out) hc2
 have hbe : (roadE st wg != 0) = !decide (roadE st wg = 0) := by by_cases h : roadE st wg = 0 <;> simp [h]
 go_enter Tryd.func39, Tryd.ntmps39
 go_wp2_with fail
 generalize (w.alloc (.cells #[.slice A st.length c, .slice A2 wg.length c2] 25)) = W0 at *
 refine hcall.mono ?_; clear hcall; rintro e w1 ⟨rfl, hb⟩; have HU1 := Aside0.mk (HU0.out.then hb); have HB3 := Aside0.mk (HB2.out.up hb); clear hb HB2
 by_cases he : roadE st wg = 0
 ·have hd : (roadE st wg != 0) = false := by simp [he]
  have HE := Aside0.mk he; clear he hbe; have hcw := withinL1 0 20 off w1 w1.heap.size rfl
  go_wp2_with fail
  refine hcw.mono ?_; clear hcw; rintro e w2 ⟨rfl, hb⟩; have HU2 := Aside0.mk (HU1.out.then hb); have HB4 := Aside0.mk (HB3.out.up hb); clear hb HB3
  cases hi : inB 0 20 [off]
  ·have HE2 : Aside0 (lkE st wg off = 3) := ⟨by simp [lkE, HE.out, hi]⟩
   have HS2 : Aside0 (lkA st wg off = (0, 0)) := ⟨by simp [lkA, HE2.out]⟩; clear hi; go_wp2_with fail
   go_ret3
   exact ⟨by rw [HE2.out, HS2.out]; rfl, HU2.out⟩
  ·have hi2 := (inB_iff _ _ _).1 hi
   simp only [List.mem_singleton, forall_eq] at hi2; have HI := Aside0.mk hi; have hq4 := HB4.out.cell; have hco := openWhere_ A c st A2 c2 wg w2 (HGL.out.up HU2.out) (C_up HR.out HU2.out) hc (C_up HR2.out HU2.out) hc2
   have hbo : (owE st wg != 0) = !decide (owE st wg = 0) := by by_cases h : owE st wg = 0 <;> simp [h]
   clear hi; go_wp2_with fail; refine hco.mono ?_; clear hco hq4; rintro e w3 ⟨v3, rfl, hown, hb⟩; have HU3 := Aside0.mk ((HU2.out.then hb).alloc (.cells #[.slice A st.length c, .slice A2 wg.length c2] 95)); have HB8 : Aside0 (Bx (w3.alloc (.cells #[.slice A st.length c, .slice A2 wg.length c2] 95)) w3.heap.size #[.slice A st.length c, .slice A2 wg.length c2] 95) := ⟨Bx.new w3 _ _⟩; have HO9 : Aside0 ((w3.alloc (.cells #[.slice A st.length c, .slice A2 wg.length c2] 95)).ownsRow w2.heap.size 3 1 v3 (owL st wg).length (nums .i64 (owL st wg))) := ⟨own_up hown upA⟩; have hW3 : Aside0 (w.heap.size ≤ w3.heap.size) := ⟨(HU2.out.then hb).le⟩; clear hown hb
   by_cases ho : owE st wg = 0
   ·have hdo : (owE st wg != 0) = false := by simp [ho]
    have HOE := Aside0.mk ho; have HOL : Aside0 (owL st wg = whereL st wg) := ⟨by rw [owL, if_pos ho]⟩; have hrk := road_ok HE.out; have HOK := Aside0.mk hrk.1; have hs5 := hrk.2.2.1; obtain ⟨l, hl⟩ : ∃ l, l = owL st wg := ⟨_, rfl⟩; rw [← hl] at HO9 HOL; have HL : Aside0 (owL st wg = l) := ⟨hl.symm⟩
    have hll : l.length ≤ 5 := by rw [HOL.out]; exact Nat.le_trans (whereN_len st wg st.length) hs5
    obtain ⟨A9, c9, rfl, hc9, hC9⟩ := own_C_int HO9.out (by omega); have HC9 := Aside0.mk hC9; simp only [← hl]; clear ho hbo hrk hl hC9; have hq8 := HB8.out.cell; have hwn2 : IntKind.i64.wrap ((st.length : Int) + 1) = (st.length : Int) + 1 := IntWalk.i64_in _ (by omega); have hw1 : IntKind.i64.wrap (-off) = -off := IntWalk.i64_in _ (by omega); have hw2 : IntKind.i64.wrap (400 + off) = 400 + off := IntWalk.i64_in _ (by omega)
    go_wp2_with fail
    obtain ⟨B8, hB8⟩ : ∃ B, B = w3.heap.size := ⟨_, rfl⟩; have HWB : Aside0 (w.heap.size ≤ B8) := ⟨by rw [hB8]; exact hW3.out⟩; rw [← hB8] at HB8 hq8; rw [← hB8]; have hW3' := hW3; clear hB8 hq8 hW3'; go_loopw [4, 5, 44] (fun v4 v5 i wr => ∃ (p : Nat), p ≤ st.length + 1 ∧ i = .int .i64 (p : Int) ∧ v4 = .int .i64 (lkP st wg off l p).1 ∧ v5 = .int .i64 (lkP st wg off l p).2 ∧ Aside0 (wr.ownsRow w2.heap.size 3 1 (.slice A9 l.length c9) l.length (nums .i64 l)) ∧ Aside0 (Bx wr B8 #[.slice A st.length c, .slice A2 wg.length c2] 95) ∧ Aside0 (Up w wr)) (fun _ _ i _ => st.length + 1 - (intOf i).toNat)
    case atStart => exact ⟨0, by omega, rfl, rfl, rfl, HO9, HB8, HU3⟩
    case round =>
     clear HO9 HB8 HU3; obtain ⟨p, hp, rfl, rfl, rfl, hO, hB, hU⟩ := hrel
     by_cases hlt : p < st.length + 1
     ·have hlt2 : (p : Int) < (st.length : Int) + 1 := by omega
      have hwk : IntKind.i64.wrap ((p : Int) + 1) = (p : Int) + 1 := IntWalk.i64_in _ (by omega); obtain ⟨wo, rfl⟩ : ∃ wo, wo = wr := ⟨_, rfl⟩; have HPS : Aside0 (lkP st wg off l (p + 1) = lkStep st wg off l (lkP st wg off l p) p) := ⟨lkP_succ _ _ _ _ _⟩
      generalize lkP st wg off l p = ab at *
      obtain ⟨a, b⟩ := ab; have hSl := lkS_len st wg p l; have HSR : Aside0 (∀ i : Nat, i < l.length → rdS (lkS st wg p l) i = rdS (thL st wg (rd l i).toNat) (p : Int)) := ⟨fun i hi => lkS_rd st wg p l i hi⟩; simp only [lkStep] at HPS; obtain ⟨L, hL⟩ : ∃ L, L = lkS st wg p l := ⟨_, rfl⟩; rw [← hL] at hSl HSR HPS; clear hL; go_wp2_with fail
      go_loopw [11, 12] (fun v11 v12 wr => ∃ (j : Nat), (j : Int) ≤ 401 + 2 * off ∧ v12 = .int .i64 (-off + (j : Int)) ∧ v11 = .int .i64 ((lkM off L j : Nat) : Int) ∧ Aside0 (wr.ownsRow w2.heap.size 3 1 (.slice A9 l.length c9) l.length (nums .i64 l)) ∧ Aside0 (Bx wr B8 #[.slice A st.length c, .slice A2 wg.length c2] 95) ∧ Aside0 (Up w wr)) (fun _ v12 _ => (401 + off - intOf v12).toNat)
      case atStart => exact ⟨0, by omega, by simp, by simp [lkM], hO, hB, hU⟩
      case round =>
       clear hO hB hU; obtain ⟨j, hj, rfl, rfl, hO, hB, hU⟩ := hrel; obtain ⟨r, hr⟩ : ∃ r, r = -off + (j : Int) := ⟨_, rfl⟩; have HMS : Aside0 (lkM off L (j + 1) = max (lkM off L j) (lkC off r L)) := ⟨by rw [hr]; exact lkM_succ _ _ _⟩; have HRJ := Aside0.mk hr; rw [← hr]
       by_cases hle : r ≤ 400 + off
       ·have hwr : IntKind.i64.wrap (r + 1) = r + 1 := IntWalk.i64_in _ (by omega)
        have hwr1 : IntKind.i64.wrap (r - off) = r - off := IntWalk.i64_in _ (by omega); have hwr2 : IntKind.i64.wrap (r + off) = r + off := IntWalk.i64_in _ (by omega); obtain ⟨wp, rfl⟩ : ∃ wp, wp = wr := ⟨_, rfl⟩; have hml := lkM_le off L j; clear hr; go_wp2_with fail
        go_loopw [13, 57] (fun v13 i wr => ∃ (q : Nat), q ≤ l.length ∧ i = .int .i64 (q : Int) ∧ v13 = .int .i64 ((lkC off r (L.take q) : Nat) : Int) ∧ Aside0 (wr.ownsRow w2.heap.size 3 1 (.slice A9 l.length c9) l.length (nums .i64 l)) ∧ Aside0 (Bx wr B8 #[.slice A st.length c, .slice A2 wg.length c2] 95) ∧ Aside0 (Up w wr)) (fun _ i _ => l.length - (intOf i).toNat)
        case atStart => exact ⟨0, by omega, rfl, by simp [lkC], hO, hB, hU⟩
        case round =>
         clear hO hB hU; obtain ⟨q, hq, rfl, rfl, hO, hB, hU⟩ := hrel
         by_cases hlq : q < l.length
         ·have hlq2 : (q : Int) < (l.length : Int) := by omega
          have hwq : IntKind.i64.wrap ((q : Int) + 1) = (q : Int) + 1 := IntWalk.i64_in _ (by omega); obtain ⟨A0, c0, hv0, _, hC0⟩ := own_C_int hO.out (by omega)
          cases hv0
          obtain ⟨ad, e, hx0⟩ := Kd.at_int hC0 q (by omega) (by omega)
          cases e
          simp only [Int.toNat_natCast] at hx0; obtain ⟨s, hs, hsl, hth⟩ := where_mem (st := st) (wg := wg) (s := rd l q) (by rw [← HOL.out, show rd l q = l[q] from by simp [rd, hlq]]; exact List.getElem_mem _); have hxr := HSR.out q hlq; rw [hs] at hx0 hxr; rw [Int.toNat_natCast] at hxr; have hTl := thL_ok_len hth; have hcl := theft_ A c st A2 c2 wg s wr (HGL.out.up hU.out) (C_up HR.out hU.out) hc (C_up HR2.out hU.out) hc2 HOK.out hsl; have hqb := hB.out.cell; have HCS := Aside0.mk (lkC_succ off r L q (by omega)); rw [hxr] at HCS; obtain ⟨x, hx⟩ : ∃ x, x = rdS (thL st wg s) (p : Int) := ⟨_, rfl⟩; rw [← hx] at HCS; have HX := Aside0.mk hx; have hcn := lkC_le off r (L.take q)
          have hcn2 : (L.take q).length ≤ 5 := by rw [List.length_take]; omega
          clear hC0 hs hth hxr hx; go_wp2_with fail; refine hcl.mono ?_; clear hcl hx0 hqb; rintro e w4 ⟨v6, rfl, hown, hb⟩; obtain ⟨g6, c6, rfl, _, _, _⟩ := Spc.ofOwn hown (by omega); have HV := Aside0.mk ((Up.refl w4).alloc (.cells #[.int .i64 (thR st wg s).lo, .int .i64 (thR st wg s).hi] 100)); have HU4 := Aside0.mk ((hU.out.then hb).then HV.out); have HB4 := Aside0.mk ((hB.out.up hb).up HV.out); have HO4 := Aside0.mk (own_up (own_up hO.out hb) HV.out); obtain ⟨⟨hy0, hy1⟩, _, _⟩ := own_cell2 (own_up hown HV.out) p (by omega); rw [← HX.out] at hy0 hy1
          have hp1 : (p : Int) < ((thL st wg s).length : Int) := by omega
          have hp0 : (0 : Int) ≤ (p : Int) := by omega
          clear hown hb; go_wp2_with fail; refine (and_ x ⟨r - off, r + off⟩ _).mono ?_; rintro e w5 ⟨rfl, hb⟩; have HU5 := Aside0.mk (HU4.out.then hb); have HB5 := Aside0.mk (HB4.out.up hb); have HO5 := Aside0.mk (own_up HO4.out hb); clear hb hy0 hy1; go_wp2_with fail; obtain ⟨y, hy⟩ : ∃ y, y = andS x ⟨r - off, r + off⟩ := ⟨_, rfl⟩; rw [← hy]; have HY := Aside0.mk hy; clear hy; refine (isNone_ y _).mono ?_; rintro e w6 ⟨rfl, hb⟩; have HU6 := Aside0.mk (HU5.out.then hb); have HB6 := Aside0.mk (HB5.out.up hb); have HO6 := Aside0.mk (own_up HO5.out hb); clear hb
          cases hh : decide (y.lo > y.hi)
          ·have HC2 : Aside0 (lkC off r (L.take (q + 1)) = lkC off r (L.take q) + 1) := ⟨by rw [HCS.out, lkHit, noneB, ← HY.out, hh]; rfl⟩
           have hwc : IntKind.i64.wrap (((lkC off r (L.take q) : Nat) : Int) + 1) = ((lkC off r (L.take q) : Nat) : Int) + 1 := IntWalk.i64_in _ (by omega)
           go_wp2_with fail
           go_roundw
           case rel => exact ⟨q + 1, by omega, by go_num, by rw [HC2.out]; go_num, HO6, HB6, HU6⟩
           case measure => simp [intOf]; omega
          ·have HC2 : Aside0 (lkC off r (L.take (q + 1)) = lkC off r (L.take q)) := ⟨by rw [HCS.out, lkHit, noneB, ← HY.out, hh]; rfl⟩
           go_wp2_with fail
           go_roundw
           case rel => exact ⟨q + 1, by omega, by go_num, by rw [HC2.out], HO6, HB6, HU6⟩
           case measure => simp [intOf]; omega
         ·obtain rfl : q = l.length := by omega
          have hmx : max (((lkM off L j : Nat) : Int)) ((lkC off r (L.take l.length) : Nat) : Int) = ((lkM off L (j + 1) : Nat) : Int) := by rw [HMS.out, ← hSl, List.take_length]; omega
          go_wp2_with fail
          go_roundw
          case rel => exact ⟨j + 1, by have := HRJ.out; omega, by have := HRJ.out; go_num, rfl, hO, hB, hU⟩
          case measure => have := HRJ.out; simp [intOf]; omega
       ·have hJ : j = (401 + 2 * off).toNat := by omega
        subst hJ
        generalize lkM off L (401 + 2 * off).toNat = m at *
        by_cases hmb : (m : Int) < b
        ·have HP2 : Aside0 (lkP st wg off l (p + 1) = ((p : Int), (m : Int))) := ⟨by rw [HPS.out, if_pos hmb]⟩
         go_wp2_with fail
         go_roundw
         case rel => exact ⟨p + 1, by omega, by go_num, by rw [HP2.out], by rw [HP2.out], hO, hB, hU⟩
         case measure => simp [intOf]; omega
        ·have HP2 : Aside0 (lkP st wg off l (p + 1) = (a, b)) := ⟨by rw [HPS.out, if_neg hmb]⟩
         go_wp2_with fail
         go_roundw
         case rel => exact ⟨p + 1, by omega, by go_num, by rw [HP2.out], by rw [HP2.out], hO, hB, hU⟩
         case measure => simp [intOf]; omega
     ·obtain rfl : p = st.length + 1 := by omega
      by_cases hneg : (lkP st wg off l (st.length + 1)).1 < 0
      ·have HE2 : Aside0 (lkE st wg off = 7) := ⟨by simp [lkE, HE.out, HI.out, HOE.out, HL.out, hneg]⟩
       have HS2 : Aside0 (lkA st wg off = (0, 0)) := ⟨by simp [lkA, HE2.out]⟩
       go_wp2_with fail
       go_ret3
       exact ⟨by rw [HE2.out, HS2.out]; rfl, hU.out⟩
      ·have HE2 : Aside0 (lkE st wg off = 0) := ⟨by simp [lkE, HE.out, HI.out, HOE.out, HL.out, hneg]⟩
       have HS2 : Aside0 (lkA st wg off = lkP st wg off l (st.length + 1)) := ⟨by simp [lkA, HE2.out, HL.out]⟩
       go_wp2_with fail
       go_ret3
       exact ⟨by rw [HE2.out, HS2.out]; rfl, hU.out⟩
   ·have hdo : (owE st wg != 0) = true := by simp [ho]
    have HE2 : Aside0 (lkE st wg off = owE st wg) := ⟨by simp [lkE, HE.out, HI.out, ho]⟩; have HS2 : Aside0 (lkA st wg off = (0, 0)) := ⟨by simp [lkA, HE2.out, ho]⟩; clear ho hbo; obtain ⟨A9, c9, rfl, hc9, _⟩ := ownF_slice HO9.out
    go_wp2_with fail
    go_ret3
    exact ⟨by rw [HE2.out, HS2.out]; rfl, HU3.out⟩
 ·have hd : (roadE st wg != 0) = true := by simp [he]
  have HE2 : Aside0 (lkE st wg off = roadE st wg) := ⟨by simp [lkE, he]⟩; have HS2 : Aside0 (lkA st wg off = (0, 0)) := ⟨by simp [lkA, HE2.out, he]⟩; clear he hbe; go_wp2_with fail
  go_ret3
  exact ⟨by rw [HE2.out, HS2.out]; rfl, HU1.out⟩
end Go.Proofs.YtemingmeidmjkaaDoor.Q
namespace Go.Proofs.YtemingmeidmjkaaDoor.Q
open Go.RowKit Go.Shelf Go.Proofs.YtemingmeidmjkaaDoorW.PrintWords Go.Proofs.YtemingmeidmjkaaDoorW.PrintLast
set_option linter.unusedVariables false
set_option linter.unusedSimpArgs false
theorem own_kept2 {w w1 : World} {base e s n : Nat} {v : Value} {xs : List Value} (h : w.ownsRow base e s v n xs) {row : Option Nat} (hg : w.grownBy w1 row) (hne : ∀ k, row = some k → v.ownBlock ≠ some k) : w1.ownsRow base e s v n xs := by
 refine h.kept hg ?_
 rcases h.2 with ⟨rfl, _⟩ | ⟨g, cap, cur, rfl, _, hg2, _⟩
 ·exact .inl rfl
 ·refine .inr fun e1 => ?_
  exact hne g (by rw [← e1]; rfl) rfl
theorem com1_ (x d0 : S25) (A0 A1 A2 : Option Addr) (c0 c1 c2 c n b : Nat) (ad : Addr) (w : World) (hb : Bx w b #[.slice (some ad) n c] 58) (hn : 0 < n) (hd : w.cell? ad = some (.slice A2 d0.f0.length c2)) :
  Calls Tryd.prog 84 #[.agg #[.slice A0 x.f0.length c0, .slice A1 x.f1.length c1], .pointer (some ⟨b, 0, none⟩)] w fun e w' => e = .returned (.bool ((x.f0.length : Int) != (d0.f0.length : Int))) ∧ Up w w' := by
 have hq := (hb.up ((Up.refl w).alloc (.cells #[.slice A0 x.f0.length c0, .slice A1 x.f1.length c1] 25))).cell; have hq2 := ((Up.refl w).alloc (.cells #[.slice A0 x.f0.length c0, .slice A1 x.f1.length c1] 25)).cell hd
 have hn2 : (0 : Int) < (n : Int) := by omega
 have HU : Aside0 (Up w (w.alloc (.cells #[.slice A0 x.f0.length c0, .slice A1 x.f1.length c1] 25))) := ⟨upA⟩; clear hb hd; go_enter Tryd.func84, Tryd.ntmps84
 go_wp2
 repeat (go_quiet (fail); try go_wp2)
 go_ret
 exact ⟨rfl, HU.out.then upA⟩
theorem idx_rd_drop (p : S25 → Bool) (l : List S25) (k : Nat) (h : k < l.length) : idxF p (l.drop k) k = if p (rd_T25 l k) then (k:Int) else idxF p (l.drop (k+1)) (k+1) := by
 rw [List.drop_eq_getElem_cons h, idxF]; simp [rd_T25, List.getD_eq_getElem?_getD, h]
set_option maxRecDepth 100000 in
theorem index_rd (fv : FuncId) (cap : Array Value) (p : S25 → Bool) (A : Option Addr) (c : Nat) (l : List S25) (w : World)
  (hr : Kd.C k25 w A l.length l) (hc : l.length ≤ c)
  (hE : ∀ (args : Array Value) (w : World), (callFunc fv args).run Tryd.prog w = .ok (.enter fv args) w)
  (hf : 0 < l.length → ∀ x A0 c0 A1 c1 W, Up w W → Calls Tryd.prog fv (#[.agg #[.slice A0 (x : S25).f0.length c0, .slice A1 x.f1.length c1]] ++ cap) W fun e W' => e = .returned (.bool (p x)) ∧ Up W W') :
  Calls Tryd.prog 107 #[.slice A l.length c, .func (.func fv) #[] cap] w fun e w' => e = .returned (.int .i64 (idxF p l 0)) ∧ Up w w' := by
 have HF := Aside0.mk hf; have HR := Aside0.mk hr; have hm := CF_len hr; clear hf hr; go_enter Tryd.func107, Tryd.ntmps107
 go_wp2
 go_loopw [8] (fun i wr => ∃ k : Nat, k ≤ l.length ∧ i = .int .i64 k ∧ Aside0 (idxF p l 0 = idxF p (l.drop k) k) ∧ Aside0 (Up w wr)) (fun i _ => l.length - (intOf i).toNat)
 case atStart => exact ⟨0, Nat.zero_le _, rfl, ⟨rfl⟩, ⟨Up.refl _⟩⟩
 case round =>
  obtain ⟨k, hk, rfl, he, hb⟩ := hrel
  by_cases hlt : k < l.length
  ·obtain ⟨ad, A0, c0, A1, c1, e, hx0, hx1, _⟩ := at_T25 (C_up HR.out hb.out) k (by omega) (by omega)
   cases e
   have hu := Tryd.underlying25; simp only [Int.toNat_natCast] at hx0 hx1; have hcall := HF.out (by omega) (rd_T25 l k) A0 c0 A1 c1 _ hb.out
   cases hp : p (rd_T25 l k)
   all_goals
    rw [hp] at hcall; have he2 := idx_rd_drop p l k hlt; rw [hp] at he2; have he3 := Aside0.mk (he.out.trans he2); clear hp he he2; go_wp2_with fail; refine hcall.mono ?_; clear hcall; rintro e w' ⟨rfl, hb'⟩; have hb2 := Aside0.mk (hb.out.then hb'); clear hb' hb; go_wp2
   ·go_roundw
    case rel => exact ⟨k+1, by omega, by go_num, ⟨by simpa using he3.out⟩, hb2⟩
    case measure => simp [intOf]; omega
   ·go_ret
    exact ⟨by rw [he3.out]; rfl, hb2.out⟩
  ·go_wp2
   go_ret
   exact ⟨by rw [he.out, List.drop_eq_nil_of_le (by omega)]; rfl, hb.out⟩
theorem contains_rd (fv : FuncId) (cap : Array Value) (p : S25 → Bool) (A : Option Addr) (c : Nat) (l : List S25) (w : World)
  (hr : Kd.C k25 w A l.length l) (hc : l.length ≤ c)
  (hE : ∀ (args : Array Value) (w : World), (callFunc fv args).run Tryd.prog w = .ok (.enter fv args) w)
  (hf : 0 < l.length → ∀ x A0 c0 A1 c1 W, Up w W → Calls Tryd.prog fv (#[.agg #[.slice A0 (x : S25).f0.length c0, .slice A1 x.f1.length c1]] ++ cap) W fun e W' => e = .returned (.bool (p x)) ∧ Up W W') :
  Calls Tryd.prog 83 #[.slice A l.length c, .func (.func fv) #[] cap] w fun e w' => e = .returned (.bool (l.any p)) ∧ Up w w' := by
 have hcall := index_rd fv cap p A c l w hr hc hE hf; clear hr hf; have HD : Aside0 (decide (0 ≤ idxF p l 0) = l.any p) := ⟨idxF_any p l⟩; clear hE; go_enter Tryd.func83, Tryd.ntmps83
 go_wp2_with fail
 refine hcall.mono ?_; clear hcall; rintro e w' ⟨rfl, hb'⟩; have hb2 := Aside0.mk hb'; clear hb'; go_wp2
 go_ret
 exact ⟨ret_bool HD.out, hb2.out⟩
def dSt (d : S25) : List Sp := toSt d.f0
def dWg (d : S25) : List Wg := toWg d.f1
def coCheck : List S25 → Int
 | [] => 0
 | d :: l => if roadE (dSt d) (dWg d) = 0 then coCheck l else roadE (dSt d) (dWg d)
def coStep (x : List Int × Bool) (d : S25) : List Int × Bool :=
 if owE (dSt d) (dWg d) = 6 then x else ((if x.2 then x.1 else whereL (dSt d) (dWg d)).filter (fun s => hasB s (owL (dSt d) (dWg d))), true)
def coN (l : List S25) (k : Nat) : List Int × Bool := (l.take k).foldl coStep ([], false)
theorem coN_succ (l : List S25) (k : Nat) (h : k < l.length) : coN l (k + 1) = coStep (coN l k) (rd_T25 l k) := by
 have e : l[k] = rd_T25 l k := by simp [rd_T25, h]
 unfold coN
 rw [List.take_succ_eq_append_getElem h, List.foldl_append, e]; rfl
theorem coCheck_drop (l : List S25) (k : Nat) (h : k < l.length) : coCheck (l.drop k) = if roadE (dSt (rd_T25 l k)) (dWg (rd_T25 l k)) = 0 then coCheck (l.drop (k + 1)) else roadE (dSt (rd_T25 l k)) (dWg (rd_T25 l k)) := by
 have e : l[k] = rd_T25 l k := by simp [rd_T25, h]
 rw [List.drop_eq_getElem_cons h, coCheck, e]
theorem coCheck_ok : ∀ {l : List S25}, coCheck l = 0 → ∀ d ∈ l, roadE (dSt d) (dWg d) = 0
 | [], _, d, hd => by simp at hd
 | x :: l, h, d, hd => by
  rw [coCheck] at h
  by_cases hx : roadE (dSt x) (dWg x) = 0
  ·rw [if_pos hx] at h
   rcases List.mem_cons.1 hd with rfl | hd
   ·exact hx
   ·exact coCheck_ok h d hd
  ·rw [if_neg hx] at h
   exact absurd h hx
theorem rd_mem {l : List S25} {k : Nat} (h : k < l.length) : rd_T25 l k ∈ l := by
 have e : rd_T25 l k = l[k] := by simp [rd_T25, h]
 rw [e]; exact List.getElem_mem h
def coLens (l : List S25) : Bool := l.any fun d => (d.f0.length : Int) != ((rd_T25 l 0).f0.length : Int)
def coE (l : List S25) : Int :=
 if l.length > 5 then 8 else if coCheck l = 0 then (if coLens l then 3 else if (coN l l.length).2 then (if (coN l l.length).1 = [] then 9 else 0) else 6) else coCheck l
def coR (l : List S25) : List Int := if coE l = 0 then (coN l l.length).1 else []
theorem whereL_len (st : List Sp) (wg : List Wg) : (whereL st wg).length ≤ st.length := whereN_len st wg st.length
end Go.Proofs.YtemingmeidmjkaaDoor.Q
namespace Go.Proofs.YtemingmeidmjkaaDoor.Q
open Go.RowKit Go.Shelf Go.Proofs.YtemingmeidmjkaaDoorW.PrintWords Go.Proofs.YtemingmeidmjkaaDoorW.PrintLast
set_option linter.unusedVariables false
set_option linter.unusedSimpArgs false
set_option maxRecDepth 100000 in
set_option maxHeartbeats 1000000 in
theorem common_ (A : Option Addr) (c : Nat) (l : List S25) (w : World) (hG : GL w) (hr : Kd.C k25 w A l.length l) (hc : l.length ≤ c) :
  Calls Tryd.prog 41 #[.slice A l.length c] w fun e w' => ∃ v, e = .returned (.tuple #[v, .int .i64 (coE l)]) ∧ w'.ownsRow w.heap.size 3 1 v (coR l).length (nums .i64 (coR l)) ∧ Up w w' := by
 have hm := CF_len hr; have HR := Aside0.mk hr; have HGL := Aside0.mk hG; clear hr hG; have HU0 : Aside0 (Up w (w.alloc (.cells #[.slice A l.length c] 58))) := ⟨upA⟩; have HB1 : Aside0 (Bx (w.alloc (.cells #[.slice A l.length c] 58)) w.heap.size #[.slice A l.length c] 58) := ⟨Bx.new w _ _⟩
 by_cases h5 : l.length > 5
 ·have HE : Aside0 (coE l = 8) := ⟨by rw [coE, if_pos h5]⟩
  have HL : Aside0 (coR l = []) := ⟨by rw [coR, HE.out]; rfl⟩
  have h5' : (5 : Int) < (l.length : Int) := by omega
  go_enter Tryd.func41, Tryd.ntmps41
  go_wp2_with fail
  go_ret2
  exact ⟨.slice none 0 0, by rw [HE.out]; rfl, by rw [HL.out]; exact ⟨rfl, .inl ⟨rfl, rfl⟩⟩, HU0.out⟩
 ·have H5 := Aside0.mk h5
  have h5' : ¬ (5 : Int) < (l.length : Int) := by omega
  go_enter Tryd.func41, Tryd.ntmps41
  go_wp2_with fail
  go_loopw [2, 18] (fun v2 i wr => ∃ (k : Nat), k ≤ l.length ∧ i = .int .i64 (k : Int) ∧ v2 = .slice none 0 0 ∧ Aside0 (coCheck l = coCheck (l.drop k)) ∧ Aside0 (Bx wr w.heap.size #[.slice A l.length c] 58) ∧ Aside0 (Up w wr)) (fun _ i _ => l.length - (intOf i).toNat)
  case atStart => exact ⟨0, by omega, rfl, rfl, ⟨rfl⟩, HB1, HU0⟩
  case round =>
   clear HB1 HU0; obtain ⟨k, hk, rfl, rfl, hC, hB, hU⟩ := hrel
   by_cases hlt : k < l.length
   ·have hk1 : (k : Int) < (l.length : Int) := by omega
    have hwk : IntKind.i64.wrap ((k : Int) + 1) = (k : Int) + 1 := IntWalk.i64_in _ (by omega); obtain ⟨ad, A0, c0, A1, c1, e, hx0, hx1, hy0, hy1, hy2, hy3⟩ := at_T25 (C_up HR.out hU.out) k (by omega) (by omega)
    cases e
    have hu := Tryd.underlying25; simp only [Int.toNat_natCast] at hx0 hx1; have HS := Aside0.mk (coCheck_drop l k hlt)
    generalize rd_T25 l k = d at *
    have HV := Aside0.mk ((Up.refl wr).alloc (.cells #[.slice A0 d.f0.length c0, .slice A1 d.f1.length c1] 25)); have hcl := check_ A0 c0 (toSt d.f0) A1 c1 (toWg d.f1) _ (toSt_C (C_up hy1 HV.out)) (toSt_c hy0) (toWg_C (C_up hy3 HV.out)) (toWg_c hy2); rw [toSt_len, toWg_len] at hcl; have HU2 := Aside0.mk (hU.out.then HV.out); have HB2 := Aside0.mk (hB.out.up HV.out); clear hy0 hy1 hy2 hy3; go_wp2_with fail; refine hcl.mono ?_; clear hcl hx0 hx1; rintro e w2 ⟨rfl, hb⟩; have HU3 := Aside0.mk (HU2.out.then hb); have HB3 := Aside0.mk (HB2.out.up hb); clear hb
    by_cases he : roadE (dSt d) (dWg d) = 0
    ·have he2 : (roadE (toSt d.f0) (toWg d.f1) != 0) = false := by simpa [dSt, dWg] using he
     have HC2 : Aside0 (coCheck l = coCheck (l.drop (k + 1))) := ⟨by rw [hC.out, HS.out, if_pos he]⟩; clear he; go_wp2_with fail
     go_roundw
     case rel => exact ⟨k + 1, by omega, by go_num, rfl, HC2, HB3, HU3⟩
     case measure => simp [intOf]; omega
    ·have he2 : (roadE (toSt d.f0) (toWg d.f1) != 0) = true := by simpa [dSt, dWg] using he
     have HC2 : Aside0 (coCheck l = roadE (toSt d.f0) (toWg d.f1)) := ⟨by rw [hC.out, HS.out, if_neg he]; rfl⟩; have HE : Aside0 (coE l = roadE (toSt d.f0) (toWg d.f1)) := ⟨by rw [coE, if_neg H5.out, if_neg (by rw [HC2.out]; exact he), HC2.out]⟩; have HL : Aside0 (coR l = []) := ⟨by rw [coR, if_neg (by rw [HE.out]; exact he)]⟩; clear he; go_wp2_with fail
     go_ret2
     exact ⟨.slice none 0 0, by rw [HE.out]; rfl, by rw [HL.out]; exact ⟨rfl, .inl ⟨rfl, rfl⟩⟩, HU3.out⟩
   ·obtain rfl : k = l.length := by omega
    have HC0 : Aside0 (coCheck l = 0) := ⟨by rw [hC.out, List.drop_length]; rfl⟩
    have hct := contains_rd 84 #[.pointer (some ⟨w.heap.size, 0, none⟩)] (fun d => (d.f0.length : Int) != ((rd_T25 l 0).f0.length : Int)) A c l wr (C_up HR.out hU.out) hc (by intro a w; kernel_rfl) (by
     intro hl0 x A0 c0 A1 c1 W hu; obtain ⟨ad, A0', c0', A1', c1', e, hx0, _⟩ := at_T25 (C_up HR.out (hU.out.then hu)) 0 (by omega) (by omega)
     cases e
     exact com1_ x (rd_T25 l 0) A0 A1 A0' c0 c1 c0' c l.length w.heap.size ad W (hB.out.up hu) hl0 hx0)
    have HLN : Aside0 ((l.any fun d => (d.f0.length : Int) != ((rd_T25 l 0).f0.length : Int)) = coLens l) := ⟨rfl⟩; have hqb := hB.out.cell
    go_wp2_with fail
    refine hct.mono ?_; clear hct hqb; rintro e w2 ⟨rfl, hb⟩; rw [HLN.out]; have HU2 := Aside0.mk (hU.out.then hb); have HB2 := Aside0.mk (hB.out.up hb); clear hb hU hB
    cases hln : coLens l
    ·have hqb := HB2.out.cell
     go_wp2_with fail
     clear hqb; go_loopw [2, 7, 33] (fun v2 v7 i wr => ∃ (k : Nat), k ≤ l.length ∧ i = .int .i64 (k : Int) ∧ v7 = .bool (coN l k).2 ∧ (coN l k).1.length ≤ 5 ∧ Aside0 (wr.ownsRow w.heap.size 3 1 v2 (coN l k).1.length (nums .i64 (coN l k).1)) ∧ Aside0 (Bx wr w.heap.size #[.slice A l.length c] 58) ∧ Aside0 (Up w wr)) (fun _ _ i _ => l.length - (intOf i).toNat)
     case atStart => exact ⟨0, by omega, rfl, rfl, by simp [coN], ⟨⟨by simp [coN, nums], .inl ⟨rfl, rfl⟩⟩⟩, HB2, HU2⟩
     case round =>
      clear HB2 HU2; obtain ⟨k, hk, rfl, rfl, hn5, hO, hB, hU⟩ := hrel
      by_cases hlt : k < l.length
      ·have hk1 : (k : Int) < (l.length : Int) := by omega
       have hwk : IntKind.i64.wrap ((k : Int) + 1) = (k : Int) + 1 := IntWalk.i64_in _ (by omega); obtain ⟨ad, A0, c0, A1, c1, e, hx0, hx1, hy0, hy1, hy2, hy3⟩ := at_T25 (C_up HR.out hU.out) k (by omega) (by omega)
       cases e
       have hu := Tryd.underlying25; simp only [Int.toNat_natCast] at hx0 hx1; have HS := Aside0.mk (coN_succ l k hlt); have HRD := Aside0.mk (road_ok (coCheck_ok HC0.out _ (rd_mem hlt)))
       generalize rd_T25 l k = d at *
       obtain ⟨W1, hW1⟩ : ∃ W, W = wr.alloc (.cells #[.slice A0 d.f0.length c0, .slice A1 d.f1.length c1] 25) := ⟨_, rfl⟩; have HV : Aside0 (Up wr W1) := ⟨by rw [hW1]; exact (Up.refl wr).alloc _⟩; have HY1 := Aside0.mk (toSt_C (C_up hy1 HV.out)); have HY3 := Aside0.mk (toWg_C (C_up hy3 HV.out)); have HY0 := Aside0.mk (toSt_c hy0); have HY2 := Aside0.mk (toWg_c hy2); have hcl := openWhere_ A0 c0 (toSt d.f0) A1 c1 (toWg d.f1) W1 (HGL.out.up (hU.out.then HV.out)) HY1.out HY0.out HY3.out HY2.out; rw [toSt_len, toWg_len] at hcl; have HU1 := Aside0.mk (hU.out.then HV.out); have HO1 := Aside0.mk (own_up hO.out HV.out); have HB1 := Aside0.mk (hB.out.up HV.out); rw [hW1] at hcl; clear hy0 hy1 hy2 hy3; go_wp2_with fail; refine hcl.mono ?_; clear hcl hx0 hx1; rintro e w2 ⟨v3, rfl, hown, hb⟩; rw [← hW1] at hown hb; have HU3 := Aside0.mk (HU1.out.then hb); have HV3 := Aside0.mk (HV.out.then hb); have HW3 := Aside0.mk hb; have HB3 := Aside0.mk (HB1.out.up hb); have HO3 := Aside0.mk (own_up HO1.out hb); have HOS := Aside0.mk hown; obtain ⟨A3, c3, rfl, hc3, _⟩ := ownF_slice hown; clear hb hown hW1; obtain ⟨L, hL⟩ : ∃ L, L = owL (toSt d.f0) (toWg d.f1) := ⟨_, rfl⟩; rw [← hL] at HOS hc3; rw [← hL]; have HL0 : Aside0 (owL (dSt d) (dWg d) = L) := ⟨hL.symm⟩; clear hL; obtain ⟨W4, hW4⟩ : ∃ W, W = ((w2.alloc (.cells #[.slice A0 d.f0.length c0, .slice A1 d.f1.length c1] 95)).alloc (.cells #[.slice A3 L.length c3] 45)) := ⟨_, rfl⟩; have HX4 : Aside0 (Up w2 W4) := ⟨by rw [hW4]; exact ((Up.refl w2).alloc _).alloc _⟩; have HB11 : Aside0 (Bx W4 (w2.heap.size + 1) #[.slice A3 L.length c3] 45) := ⟨by rw [hW4]; have h9 := Bx.new (w2.alloc (.cells #[.slice A0 d.f0.length c0, .slice A1 d.f1.length c1] 95)) #[.slice A3 L.length c3] 45; simpa using h9⟩; have HB10 : Aside0 (Bx W4 w2.heap.size #[.slice A0 d.f0.length c0, .slice A1 d.f1.length c1] 95) := ⟨by rw [hW4]; exact (Bx.new w2 _ _).up ((Up.refl _).alloc _)⟩; have HU4 := Aside0.mk (HU3.out.then HX4.out); have HV4 := Aside0.mk (HV3.out.then HX4.out); have HB4 := Aside0.mk (HB3.out.up HX4.out); have HO4 := Aside0.mk (own_up HO3.out HX4.out); have HS4 := Aside0.mk (own_up HOS.out HX4.out); have HZ4 : Aside0 (wr.heap.size ≤ W1.heap.size) := ⟨HV.out.le⟩; have hcw := where_ A0 c0 (toSt d.f0) A1 c1 (toWg d.f1) W4 (HGL.out.up HU4.out) (C_up HY1.out (HW3.out.then HX4.out)) HY0.out (C_up HY3.out (HW3.out.then HX4.out)) HY2.out HRD.out.1; rw [toSt_len, toWg_len] at hcw; have hwl : (whereL (dSt d) (dWg d)).length ≤ 5 := Nat.le_trans (whereL_len _ _) HRD.out.2.2.1
       have hE : ∀ (args : Array Value) (w : World), (callFunc 87 args).run Tryd.prog w = .ok (.enter 87 args) w := by intro a w; kernel_rfl
       have hwz : w2.heap.size + 1 < W4.heap.size := HB11.out.lt; have hq10 := HB10.out.cell; rw [hW4] at hcw hq10; simp only [coStep, HL0.out] at HS
       by_cases h6 : owE (dSt d) (dWg d) = 6
       ·have h6b : (owE (toSt d.f0) (toWg d.f1) == 6) = true := by simpa [dSt, dWg] using h6
        have HS2 : Aside0 (coN l (k + 1) = coN l k) := ⟨by rw [HS.out, if_pos h6]⟩; clear hcw hq10 h6; go_wp2_with fail; rw [← hW4]
        go_roundw
        case rel => exact ⟨k + 1, by omega, by go_num, by rw [HS2.out], by rw [HS2.out]; exact hn5, ⟨by rw [HS2.out]; exact HO4.out⟩, HB4, HU4⟩
        case measure => simp [intOf]; omega
       ·have h6b : (owE (toSt d.f0) (toWg d.f1) == 6) = false := by simpa [dSt, dWg] using h6
        have HS0 : Aside0 (coN l (k + 1) = ((if (coN l k).2 then (coN l k).1 else whereL (dSt d) (dWg d)).filter (fun s => hasB s L), true)) := ⟨by rw [HS.out, if_neg h6]⟩; clear h6 HS; obtain ⟨x, hx⟩ : ∃ x, x = coN l k := ⟨_, rfl⟩; rw [← hx] at hO hn5 HO3 HO4 HS0 HO1; rw [← hx]; clear hx; obtain ⟨r, b⟩ := x
        cases b
        ·have HS2 : Aside0 (coN l (k + 1) = ((whereL (dSt d) (dWg d)).filter (fun s => hasB s L), true)) := HS0
         go_wp2_with fail
         refine hcw.mono ?_; clear hcw hq10; rintro e w5 ⟨v5, rfl, hown, hnil, hb⟩; rw [← hW4] at hown hb; have HU5 := Aside0.mk (HU4.out.then hb); have HB5 := Aside0.mk (HB4.out.up hb); have HB15 := Aside0.mk (HB11.out.up hb); have HS5 := Aside0.mk (own_up HS4.out hb); have HO5 := Aside0.mk hown; have HZ5 : Aside0 (w.heap.size ≤ W4.heap.size) := ⟨HU4.out.le⟩
         have HD := delete_ 87 #[.pointer (some ⟨w2.heap.size + 1, 0, none⟩)] (fun s => !hasB s L) W4.heap.size v5 (whereL (dSt d) (dWg d)) w5 hown (by omega) hE (by
          intro s W hg
          have h8 : L.length ≤ 5 := by
           rw [← HL0.out, owL]
           split
           ·exact hwl
           ·simp
          obtain ⟨A9, c9, hv9, hc9, hC9⟩ := own_C_int (own_kept2 HS5.out hg (fun k1 hk1 => by
           intro hk2; have g1 := (own_lt HO5.out hk1).1; have g2 := (own_lt HS4.out hk2).2
           omega)) (by omega)
          cases hv9
          exact com2_ s (w2.heap.size + 1) A3 c3 L W (HB15.out.grown HO5.out (by decide) hg) hC9 hc9)
         clear hown hnil hb hwl; go_wp2_with fail; refine HD.mono ?_; clear HD; rintro e w6 ⟨v6, rfl, hown, hg⟩; have HU6 := Aside0.mk (HU5.out.grown HO5.out HZ5.out hg); have HB6 := Aside0.mk (HB5.out.grown HO5.out (by decide) hg); have HO6 : Aside0 (w6.ownsRow w.heap.size 3 1 v6 ((whereL (dSt d) (dWg d)).filter (fun s => hasB s L)).length (nums .i64 ((whereL (dSt d) (dWg d)).filter (fun s => hasB s L)))) := ⟨by have h9 := own_mono hown HZ5.out; simpa only [Bool.not_not] using h9⟩; clear hown hg; go_wp2_with fail
         go_roundw
         case rel => exact ⟨k + 1, by omega, by go_num, by rw [HS2.out], by rw [HS2.out]; exact Nat.le_trans (List.length_filter_le _ _) (Nat.le_trans (whereL_len _ _) HRD.out.2.2.1), ⟨by rw [HS2.out]; exact HO6.out⟩, HB6, HU6⟩
         case measure => simp [intOf]; omega
        ·have HS2 : Aside0 (coN l (k + 1) = (r.filter (fun s => hasB s L), true)) := HS0
         simp only at hn5 hO HO4
         have HD := delete_ 87 #[.pointer (some ⟨w2.heap.size + 1, 0, none⟩)] (fun s => !hasB s L) w.heap.size u2 r W4 HO4.out (by omega) hE (by
          intro s W hg
          have h8 : L.length ≤ 5 := by
           rw [← HL0.out, owL]
           split
           ·exact hwl
           ·simp
          obtain ⟨A9, c9, hv9, hc9, hC9⟩ := own_C_int (own_kept2 HS4.out hg (fun k1 hk1 => by
           intro hk2; have g1 := (own_lt hO.out hk1).2; have g2 := (own_lt HS4.out hk2).1; have g3 := HZ4.out
           omega)) (by omega)
          cases hv9
          exact com2_ s (w2.heap.size + 1) A3 c3 L W (HB11.out.grown HO4.out (by decide) hg) hC9 hc9)
         rw [hW4] at HD; clear hcw hq10 hwl; go_wp2_with fail; refine HD.mono ?_; clear HD; rintro e w6 ⟨v6, rfl, hown, hg⟩; rw [← hW4] at hg; have HU6 := Aside0.mk (HU4.out.grown HO4.out (Nat.le_refl _) hg); have HB6 := Aside0.mk (HB4.out.grown HO4.out (by decide) hg); have HO6 : Aside0 (w6.ownsRow w.heap.size 3 1 v6 (r.filter (fun s => hasB s L)).length (nums .i64 (r.filter (fun s => hasB s L)))) := ⟨by simpa only [Bool.not_not] using hown⟩; clear hown hg hW4; go_wp2_with fail
         go_roundw
         case rel => exact ⟨k + 1, by omega, by go_num, by rw [HS2.out], by rw [HS2.out]; exact Nat.le_trans (List.length_filter_le _ _) hn5, ⟨by rw [HS2.out]; exact HO6.out⟩, HB6, HU6⟩
         case measure => simp [intOf]; omega
      ·obtain rfl : k = l.length := by omega
       cases hst : (coN l l.length).2
       ·have HE : Aside0 (coE l = 6) := ⟨by rw [coE, if_neg H5.out, if_pos HC0.out, hln, hst]; rfl⟩
        have HL : Aside0 (coR l = []) := ⟨by rw [coR, HE.out]; rfl⟩
        go_wp2_with fail
        go_ret2
        exact ⟨.slice none 0 0, by rw [HE.out]; rfl, by rw [HL.out]; exact ⟨rfl, .inl ⟨rfl, rfl⟩⟩, hU.out⟩
       ·by_cases hz : (coN l l.length).1 = []
        ·have HE : Aside0 (coE l = 9) := ⟨by rw [coE, if_neg H5.out, if_pos HC0.out, hln, hst, if_pos hz]; rfl⟩
         have HL : Aside0 (coR l = []) := ⟨by rw [coR, HE.out]; rfl⟩; obtain ⟨A4, c4, rfl, _, _⟩ := ownF_slice hO.out
         have hz2 : (((coN l l.length).1.length : Nat) : Int) = 0 := by rw [hz]; rfl
         go_wp2_with fail
         go_ret2
         exact ⟨.slice none 0 0, by rw [HE.out]; rfl, by rw [HL.out]; exact ⟨rfl, .inl ⟨rfl, rfl⟩⟩, hU.out⟩
        ·have HE : Aside0 (coE l = 0) := ⟨by rw [coE, if_neg H5.out, if_pos HC0.out, hln, hst, if_neg hz]; rfl⟩
         have HL : Aside0 (coR l = (coN l l.length).1) := ⟨by rw [coR, HE.out]; rfl⟩; obtain ⟨A4, c4, rfl, _, _⟩ := ownF_slice hO.out
         have hz2 : (((((coN l l.length).1.length : Nat) : Int)) == 0) = false := by
          have := List.length_pos_iff.2 hz; exact beq_eq_false_iff_ne.2 (by omega)
         go_wp2_with fail
         go_ret2
         exact ⟨_, by rw [HE.out]; rfl, by rw [HL.out]; exact hO.out, hU.out⟩
    ·have HE : Aside0 (coE l = 3) := ⟨by rw [coE, if_neg H5.out, if_pos HC0.out, hln]; rfl⟩
     have HL : Aside0 (coR l = []) := ⟨by rw [coR, HE.out]; rfl⟩
     go_wp2_with fail
     go_ret2
     exact ⟨.slice none 0 0, by rw [HE.out]; rfl, by rw [HL.out]; exact ⟨rfl, .inl ⟨rfl, rfl⟩⟩, HU2.out⟩
end Go.Proofs.YtemingmeidmjkaaDoor.Q
namespace Go.Proofs.YtemingmeidmjkaaDoor.Q
open Go.RowKit Go.Shelf Go.Proofs.YtemingmeidmjkaaDoorW.PrintWords Go.Proofs.YtemingmeidmjkaaDoorW.PrintLast
set_option linter.unusedVariables false
set_option linter.unusedSimpArgs false
def exW : List Sp := [⟨198, 199⟩, ⟨158, 159⟩, ⟨150, 151⟩]
def exF : List Sp := [⟨39, 40⟩, ⟨7, 8⟩]
theorem exWl : ohL exSt (exWg 150 []) = exW := by kernel_rfl
theorem exWe : ohE exSt (exWg 150 []) = 0 := by kernel_rfl
theorem exFl : flocksL exSt (exWg 150 []) = exF := by kernel_rfl
theorem exM1 : msS exSt (exWg 150 []) = ⟨0, 33⟩ := by kernel_rfl
theorem exM1e : msE exSt (exWg 150 []) = 0 := by kernel_rfl
theorem exM2 : msS exSt (exWg 140 []) = ⟨9, 43⟩ := by kernel_rfl
theorem exM2e : msE exSt (exWg 140 []) = 0 := by kernel_rfl
theorem exO : owL exSt (exWg 140 []) = [0, 1] := by kernel_rfl
theorem exOe : owE exSt (exWg 140 []) = 0 := by kernel_rfl
theorem exA : amS exSt (exWg 140 []) 0 = ⟨9, 43⟩ := by kernel_rfl
theorem exAe : amE exSt (exWg 140 []) 0 = 0 := by kernel_rfl
theorem exR : wrR exSt (exWg 140 []) = [0] := by kernel_rfl
theorem exRe : wrE exSt (exWg 140 []) = 0 := by kernel_rfl
theorem exL : lkA exSt (exWg 140 []) 0 = (1, 1) := by kernel_rfl
theorem exLe : lkE exSt (exWg 140 []) 0 = 0 := by kernel_rfl
theorem exN : ndR exSt (exWg 150 []) 150 = 198 := by kernel_rfl
theorem exNe : ndE exSt (exWg 150 []) 150 = 0 := by kernel_rfl
def exDays : List S25 := [⟨ofSp exSt, ofWg (exWg 140 [])⟩, ⟨ofSp exSt, ofWg (exWg 140 [⟨1, 148, 0⟩])⟩]
theorem exC : coR exDays = [0] := by kernel_rfl
theorem exCe : coE exDays = 0 := by kernel_rfl
theorem kroad0 (last : Int) (w : World) : Calls Tryd.prog 54 #[.int .i64 last, .slice none 0 0] w fun e w' => ∃ A1 A2 c2, e = .returned (.agg #[.slice A1 2 2, .slice A2 2 c2]) ∧ Kd.C kSp w' A1 2 exSt ∧ Kd.C kWg w' A2 2 (exWg last []) ∧ 2 ≤ c2 ∧ Up w w' :=
 kroad_ last [] none 0 0 w ⟨rfl, by decide, fun h => absurd h (by decide)⟩ (by decide)
theorem kroad1 (w : World) (b : Nat) (hb : b = w.heap.size) : Calls Tryd.prog 54 #[.int .i64 140, .slice (some ⟨b, 0, none⟩) 1 1] (w.alloc (.cells #[.int .i64 1, .int .i64 148, .int .i64 0] 80)) fun e w' => ∃ A1 A2 c2, e = .returned (.agg #[.slice A1 2 2, .slice A2 3 c2]) ∧ Kd.C kSp w' A1 2 exSt ∧ Kd.C kWg w' A2 3 (exWg 140 [⟨1, 148, 0⟩]) ∧ 3 ≤ c2 ∧ Up w w' := by
 refine (kroad_ 140 [⟨1, 148, 0⟩] (some ⟨b, 0, none⟩) 1 1 _ (C_newK kWg encWg kWg_mk (fun _ => rfl) w 80 [⟨1, 148, 0⟩] _ 1 b hb rfl rfl (by decide)) (by decide)).mono ?_; rintro e w' ⟨A1, A2, c2, rfl, h1, h2, h3, h4⟩; exact ⟨A1, A2, c2, rfl, h1, h2, h3, ((Up.refl w).alloc _).then h4⟩
theorem kWeights (A1 A2 : Option Addr) (c2 : Nat) (w : World) (hG : GL w) (hr : Kd.C kSp w A1 2 exSt) (hr2 : Kd.C kWg w A2 2 (exWg 150 [])) (hc2 : 2 ≤ c2) :
  Calls Tryd.prog 20 #[.agg #[.slice A1 2 2, .slice A2 2 c2]] w fun e w' => ∃ A c, e = .returned (.tuple #[.slice A 3 c, .int .i64 0]) ∧ 3 ≤ c ∧ Kd.C kSp w' A 3 exW ∧ Up w w' := by
 refine (weights_ A1 2 exSt A2 c2 (exWg 150 []) w hG hr (by decide) hr2 hc2).mono ?_; rintro e w' ⟨v, rfl, h1, h2⟩; rw [exWl] at h1; obtain ⟨A, c, rfl, h3, h4⟩ := own_C_Sp h1 (by decide); rw [exWe]; exact ⟨A, c, rfl, h3, h4, h2⟩
theorem kFlocks (A1 A2 : Option Addr) (c2 : Nat) (w : World) (hG : GL w) (hr : Kd.C kSp w A1 2 exSt) (hr2 : Kd.C kWg w A2 2 (exWg 150 [])) (hc2 : 2 ≤ c2) :
  Calls Tryd.prog 21 #[.agg #[.slice A1 2 2, .slice A2 2 c2]] w fun e w' => ∃ A c, e = .returned (.tuple #[.slice A 2 c, .int .i64 0]) ∧ 2 ≤ c ∧ Kd.C kSp w' A 2 exF ∧ Up w w' := by
 refine (flocks_ A1 2 exSt A2 c2 (exWg 150 []) w hG hr (by decide) hr2 hc2).mono ?_; rintro e w' ⟨v, rfl, h1, h2⟩; rw [exFl] at h1; obtain ⟨A, c, rfl, h3, h4⟩ := own_C_Sp h1 (by decide); rw [exWe]; exact ⟨A, c, rfl, h3, h4, h2⟩
theorem kMiss1 (A1 A2 : Option Addr) (c2 : Nat) (w : World) (hG : GL w) (hr : Kd.C kSp w A1 2 exSt) (hr2 : Kd.C kWg w A2 2 (exWg 150 [])) (hc2 : 2 ≤ c2) :
  Calls Tryd.prog 29 #[.agg #[.slice A1 2 2, .slice A2 2 c2]] w fun e w' => e = .returned (.tuple #[.agg #[.int .i64 0, .int .i64 33], .int .i64 0]) ∧ Up w w' := by
 have h := missing_ A1 2 exSt A2 c2 (exWg 150 []) w hG hr (by decide) hr2 hc2; rw [exM1, exM1e] at h; exact h
theorem kMiss2 (A1 A2 : Option Addr) (c2 : Nat) (w : World) (hG : GL w) (hr : Kd.C kSp w A1 2 exSt) (hr2 : Kd.C kWg w A2 2 (exWg 140 [])) (hc2 : 2 ≤ c2) :
  Calls Tryd.prog 29 #[.agg #[.slice A1 2 2, .slice A2 2 c2]] w fun e w' => e = .returned (.tuple #[.agg #[.int .i64 9, .int .i64 43], .int .i64 0]) ∧ Up w w' := by
 have h := missing_ A1 2 exSt A2 c2 (exWg 140 []) w hG hr (by decide) hr2 hc2; rw [exM2, exM2e] at h; exact h
theorem kWhere (A1 A2 : Option Addr) (c2 : Nat) (w : World) (hG : GL w) (hr : Kd.C kSp w A1 2 exSt) (hr2 : Kd.C kWg w A2 2 (exWg 140 [])) (hc2 : 2 ≤ c2) :
  Calls Tryd.prog 31 #[.agg #[.slice A1 2 2, .slice A2 2 c2]] w fun e w' => ∃ A c, e = .returned (.tuple #[.slice A 2 c, .int .i64 0]) ∧ 2 ≤ c ∧ Kd.C (Kd.int .i64) w' A 2 [0, 1] ∧ Up w w' := by
 refine (Where_ A1 2 exSt A2 c2 (exWg 140 []) w hG hr (by decide) hr2 hc2).mono ?_; rintro e w' ⟨v, rfl, h1, h2⟩; rw [exO] at h1; obtain ⟨A, c, rfl, h3, h4⟩ := own_C_int h1 (by decide); rw [exOe]; exact ⟨A, c, rfl, h3, h4, h2⟩
theorem kAmount (A1 A2 : Option Addr) (c2 : Nat) (w : World) (hG : GL w) (hr : Kd.C kSp w A1 2 exSt) (hr2 : Kd.C kWg w A2 2 (exWg 140 [])) (hc2 : 2 ≤ c2) :
  Calls Tryd.prog 32 #[.agg #[.slice A1 2 2, .slice A2 2 c2], .int .i64 0] w fun e w' => e = .returned (.tuple #[.agg #[.int .i64 9, .int .i64 43], .int .i64 0]) ∧ Up w w' := by
 have h := amount_ A1 2 exSt A2 c2 (exWg 140 []) 0 w hG hr (by decide) hr2 hc2; rw [exA, exAe] at h; exact h
theorem kWrong (A1 A2 : Option Addr) (c2 : Nat) (w : World) (hG : GL w) (hr : Kd.C kSp w A1 2 exSt) (hr2 : Kd.C kWg w A2 2 (exWg 140 [])) (hc2 : 2 ≤ c2) :
  Calls Tryd.prog 37 #[.agg #[.slice A1 2 2, .slice A2 2 c2]] w fun e w' => ∃ A c, e = .returned (.tuple #[.slice A 1 c, .int .i64 0]) ∧ 1 ≤ c ∧ Kd.C (Kd.int .i64) w' A 1 [0] ∧ Up w w' := by
 refine (wrong_ A1 2 exSt A2 c2 (exWg 140 []) w hG hr (by decide) hr2 hc2).mono ?_; rintro e w' ⟨v, rfl, h1, h2⟩; rw [exR] at h1; obtain ⟨A, c, rfl, h3, h4⟩ := own_C_int h1 (by decide); rw [exRe]; exact ⟨A, c, rfl, h3, h4, h2⟩
theorem kLook (A1 A2 : Option Addr) (c2 : Nat) (w : World) (hG : GL w) (hr : Kd.C kSp w A1 2 exSt) (hr2 : Kd.C kWg w A2 2 (exWg 140 [])) (hc2 : 2 ≤ c2) :
  Calls Tryd.prog 39 #[.agg #[.slice A1 2 2, .slice A2 2 c2], .int .i64 0] w fun e w' => e = .returned (.tuple #[.int .i64 1, .int .i64 1, .int .i64 0]) ∧ Up w w' := by
 have h := look_ A1 2 exSt A2 c2 (exWg 140 []) 0 w hG hr (by decide) hr2 hc2; rw [exL, exLe] at h; exact h
theorem kNeed (A1 A2 : Option Addr) (c2 : Nat) (w : World) (hr : Kd.C kSp w A1 2 exSt) (hr2 : Kd.C kWg w A2 2 (exWg 150 [])) (hc2 : 2 ≤ c2) :
  Calls Tryd.prog 43 #[.agg #[.slice A1 2 2, .slice A2 2 c2], .int .i64 150] w fun e w' => e = .returned (.tuple #[.int .i64 198, .int .i64 0]) ∧ Up w w' := by
 have h := need_ A1 2 exSt A2 c2 (exWg 150 []) 150 w hr (by decide) hr2 hc2; rw [exN, exNe] at h; exact h
theorem days_new (w : World) (b : Nat) (hb : b = w.heap.size) (A1 A2 A3 A4 : Option Addr) (c2 c4 : Nat) (h1 : Kd.C kSp w A1 2 exSt) (h2 : Kd.C kWg w A2 2 (exWg 140 [])) (hc2 : 2 ≤ c2) (h3 : Kd.C kSp w A3 2 exSt) (h4 : Kd.C kWg w A4 3 (exWg 140 [⟨1, 148, 0⟩])) (hc4 : 3 ≤ c4) :
  Kd.C k25 (w.alloc (.cells #[.slice A1 2 2, .slice A2 2 c2, .slice A3 2 2, .slice A4 3 c4] 25)) (some ⟨b, 0, none⟩) 2 exDays := by
 subst hb; have hu : Up w (w.alloc (.cells #[.slice A1 2 2, .slice A2 2 c2, .slice A3 2 2, .slice A4 3 c4] 25)) := (Up.refl w).alloc _; have hq := (Bx.new w #[.slice A1 2 2, .slice A2 2 c2, .slice A3 2 2, .slice A4 3 c4] 25).cell; refine ⟨rfl, by decide, fun _ => ⟨_, rfl, fun j x hj => ?_⟩⟩
 match j, hj with
 | 0, hj =>
  simp only [exDays, List.getElem?_cons_zero, Option.some.injEq] at hj; subst hj; refine ⟨[.slice A1 2 2, .slice A2 2 c2], rfl, k25_mk _ _ (by decide) (ofSp_C (C_up h1 hu)) hc2 (ofWg_C (C_up h2 hu)), fun i u hi => ?_⟩; rw [add_plain, hq]
  match i, hi with
  | 0, hi => exact hi
  | 1, hi => exact hi
 | 1, hj =>
  simp only [exDays, List.getElem?_cons_succ, List.getElem?_cons_zero, Option.some.injEq] at hj; subst hj; refine ⟨[.slice A3 2 2, .slice A4 3 c4], rfl, k25_mk _ _ (by decide) (ofSp_C (C_up h3 hu)) hc4 (ofWg_C (C_up h4 hu)), fun i u hi => ?_⟩; rw [add_plain, hq]
  match i, hi with
  | 0, hi => exact hi
  | 1, hi => exact hi
theorem kCommon (w : World) (b : Nat) (hb : b = w.heap.size) (hG : GL w) (A1 A2 A3 A4 : Option Addr) (c2 c4 : Nat) (h1 : Kd.C kSp w A1 2 exSt) (h2 : Kd.C kWg w A2 2 (exWg 140 [])) (hc2 : 2 ≤ c2) (h3 : Kd.C kSp w A3 2 exSt) (h4 : Kd.C kWg w A4 3 (exWg 140 [⟨1, 148, 0⟩])) (hc4 : 3 ≤ c4) :
  Calls Tryd.prog 41 #[.slice (some ⟨b, 0, none⟩) 2 2] (w.alloc (.cells #[.slice A1 2 2, .slice A2 2 c2, .slice A3 2 2, .slice A4 3 c4] 25)) fun e w' => ∃ A c, e = .returned (.tuple #[.slice A 1 c, .int .i64 0]) ∧ 1 ≤ c ∧ Kd.C (Kd.int .i64) w' A 1 [0] ∧ Up w w' := by
 refine (common_ _ 2 exDays _ (hG.up ((Up.refl w).alloc _)) (days_new w b hb A1 A2 A3 A4 c2 c4 h1 h2 hc2 h3 h4 hc4) (by decide)).mono ?_; rintro e w' ⟨v, rfl, g1, g2⟩; rw [exC] at g1; obtain ⟨A, c, rfl, g3, g4⟩ := own_C_int g1 (by decide); rw [exCe]; exact ⟨A, c, rfl, g3, g4, ((Up.refl w).alloc _).then g2⟩
theorem spEq (a b : List Sp) (k : Nat) (A A2 : Option Addr) (n c c2 : Nat) (w : World) (ha : a.length = n) (hb : b.length = n) (h1 : Kd.C kSp w A n a) (hc : n ≤ c) (h2 : Kd.C kSp w A2 n b) (hc2 : n ≤ c2) (h : rf_Spans.f k (ofSp a) (ofSp b) = some true) :
  Calls Tryd.prog 26 #[.slice A n c, .slice A2 n c2] w fun e w' => e = .returned (.bool true) ∧ Up w w' := by
 have h9 := rf_Spans.calls k A c (ofSp a) A2 c2 (ofSp b) true w (ofSp_C h1) (by rw [ofSp_len]; omega) (ofSp_C h2) (by rw [ofSp_len]; omega) h; rw [ofSp_len, ofSp_len, ha, hb] at h9
 exact h9.mono fun e w' h => ⟨h.1, Up.ofDrawn h.2⟩
theorem kSp3 (A : Option Addr) (c b : Nat) (w : World) (hb : b = w.heap.size) (h1 : Kd.C kSp w A 3 exW) (hc : 3 ≤ c) :
  Calls Tryd.prog 26 #[.slice A 3 c, .slice (some ⟨b, 0, none⟩) 3 3] (w.alloc (.cells #[.int .i64 198, .int .i64 199, .int .i64 158, .int .i64 159, .int .i64 150, .int .i64 151] 41)) fun e w' => e = .returned (.bool true) ∧ Up w w' :=
 (spEq exW exW 20 A _ 3 c 3 _ rfl rfl (C_up h1 ((Up.refl w).alloc _)) hc (C_newK kSp encSp kSp_mk (fun _ => rfl) w 41 exW _ 3 b hb rfl rfl (by decide)) (by decide) sqF).mono fun e w' h => ⟨h.1, ((Up.refl w).alloc _).then h.2⟩
theorem kSp2 (A : Option Addr) (c b : Nat) (w : World) (hb : b = w.heap.size) (h1 : Kd.C kSp w A 2 exF) (hc : 2 ≤ c) :
  Calls Tryd.prog 26 #[.slice A 2 c, .slice (some ⟨b, 0, none⟩) 2 2] (w.alloc (.cells #[.int .i64 39, .int .i64 40, .int .i64 7, .int .i64 8] 41)) fun e w' => e = .returned (.bool true) ∧ Up w w' :=
 (spEq exF exF 20 A _ 2 c 2 _ rfl rfl (C_up h1 ((Up.refl w).alloc _)) hc (C_newK kSp encSp kSp_mk (fun _ => rfl) w 41 exF _ 2 b hb rfl rfl (by decide)) (by decide) sqF).mono fun e w' h => ⟨h.1, ((Up.refl w).alloc _).then h.2⟩
theorem kInts2 (A : Option Addr) (c b : Nat) (w : World) (hb : b = w.heap.size) (h1 : Kd.C (Kd.int .i64) w A 2 [0, 1]) (hc : 2 ≤ c) :
  Calls Tryd.prog 34 #[.slice A 2 c, .slice (some ⟨b, 0, none⟩) 2 2] (w.alloc (.cells #[.int .i64 0, .int .i64 1] 3)) fun e w' => e = .returned (.bool true) ∧ Up w w' :=
 (rf_Ints.calls 20 A c [0, 1] (some ⟨b, 0, none⟩) 2 [0, 1] true _ (C_up h1 ((Up.refl w).alloc _)) hc (C_newK (Kd.int .i64) encInt (fun _ _ => rfl) (fun _ => rfl) w 3 [0, 1] _ 2 b hb rfl rfl (by decide)) (by decide) sqF).mono fun e w' h => ⟨h.1, ((Up.refl w).alloc _).then (Up.ofDrawn h.2)⟩
theorem kInts1 (A : Option Addr) (c b : Nat) (w : World) (hb : b = w.heap.size) (h1 : Kd.C (Kd.int .i64) w A 1 [0]) (hc : 1 ≤ c) :
  Calls Tryd.prog 34 #[.slice A 1 c, .slice (some ⟨b, 0, none⟩) 1 1] (w.alloc (.cells #[.int .i64 0] 3)) fun e w' => e = .returned (.bool true) ∧ Up w w' :=
 (rf_Ints.calls 20 A c [0] (some ⟨b, 0, none⟩) 1 [0] true _ (C_up h1 ((Up.refl w).alloc _)) hc (C_newK (Kd.int .i64) encInt (fun _ _ => rfl) (fun _ => rfl) w 3 [0] _ 1 b hb rfl rfl (by decide)) (by decide) sqF).mono fun e w' h => ⟨h.1, ((Up.refl w).alloc _).then (Up.ofDrawn h.2)⟩
theorem nes1 (w : World) : (binOp .neq 41 (.agg #[.int .i64 0, .int .i64 33]) (.agg #[.int .i64 0, .int .i64 33])).run Tryd.prog w = .ok (.bool false) w := by kernel_rfl
theorem nes2 (w : World) : (binOp .neq 41 (.agg #[.int .i64 9, .int .i64 43]) (.agg #[.int .i64 9, .int .i64 43])).run Tryd.prog w = .ok (.bool false) w := by kernel_rfl
set_option maxRecDepth 100000 in
set_option maxHeartbeats 8000000 in
theorem known_ (w : World) (hG : GL w) : Calls Tryd.prog 17 #[] w fun e w' => e = .returned (.bool true) ∧ Up w w' := by
 have HGL := Aside0.mk hG; clear hG; go_enter Tryd.func17, Tryd.ntmps17
 go_wp2_with fail
 refine (kroad0 150 _).mono ?_; rintro e wWa ⟨AW1, AW2, cW2, rfl, h1, h2, hcW2, hb⟩; have HRW1 := Aside0.mk h1; have HRW2 := Aside0.mk h2; have HVWa := Aside0.mk hb; clear h1 h2 hb; go_wp2_with fail; refine (kWeights AW1 AW2 cW2 _ (HGL.out.up upA) HRW1.out HRW2.out hcW2).mono ?_; rintro e wW ⟨AW, cW, rfl, hcW, h1, hb⟩; have HCW := Aside0.mk h1; have HVW := Aside0.mk hb; clear h1 hb; go_wp2_with fail; refine (kroad0 150 _).mono ?_; rintro e wFa ⟨AF1, AF2, cF2, rfl, h1, h2, hcF2, hb⟩; have HRF1 := Aside0.mk h1; have HRF2 := Aside0.mk h2; have HVFa := Aside0.mk hb; clear h1 h2 hb; go_wp2_with fail; refine (kFlocks AF1 AF2 cF2 _ (HGL.out.up upA) HRF1.out HRF2.out hcF2).mono ?_; rintro e wF ⟨AF, cF, rfl, hcF, h1, hb⟩; have HCF := Aside0.mk h1; have HVF := Aside0.mk hb; clear h1 hb; go_wp2_with fail; refine (kroad0 150 _).mono ?_; rintro e wMa ⟨AM1, AM2, cM2, rfl, h1, h2, hcM2, hb⟩; have HRM1 := Aside0.mk h1; have HRM2 := Aside0.mk h2; have HVMa := Aside0.mk hb; clear h1 h2 hb; go_wp2_with fail; refine (kMiss1 AM1 AM2 cM2 _ (HGL.out.up upA) HRM1.out HRM2.out hcM2).mono ?_; rintro e wM ⟨rfl, hb⟩; have HVM := Aside0.mk hb; clear hb; have HBM : Aside0 (Bx (wM.alloc (.cells #[.int .i64 0, .int .i64 33] 41)) wM.heap.size #[.int .i64 0, .int .i64 33] 41) := ⟨Bx.new wM _ _⟩
 go_wp2_with fail
 refine (kroad0 140 _).mono ?_; rintro e wNa ⟨AN1, AN2, cN2, rfl, h1, h2, hcN2, hb⟩; have HRN1 := Aside0.mk h1; have HRN2 := Aside0.mk h2; have HVNa := Aside0.mk hb; clear h1 h2 hb; go_wp2_with fail; refine (kMiss2 AN1 AN2 cN2 _ (HGL.out.up upA) HRN1.out HRN2.out hcN2).mono ?_; rintro e wN ⟨rfl, hb⟩; have HVN := Aside0.mk hb; clear hb; have HBN : Aside0 (Bx (wN.alloc (.cells #[.int .i64 9, .int .i64 43] 41)) wN.heap.size #[.int .i64 9, .int .i64 43] 41) := ⟨Bx.new wN _ _⟩
 go_wp2_with fail
 refine (kroad0 140 _).mono ?_; rintro e wOa ⟨AO1, AO2, cO2, rfl, h1, h2, hcO2, hb⟩; have HRO1 := Aside0.mk h1; have HRO2 := Aside0.mk h2; have HVOa := Aside0.mk hb; clear h1 h2 hb; go_wp2_with fail; refine (kWhere AO1 AO2 cO2 _ (HGL.out.up upA) HRO1.out HRO2.out hcO2).mono ?_; rintro e wO ⟨AO, cO, rfl, hcO, h1, hb⟩; have HCO := Aside0.mk h1; have HVO := Aside0.mk hb; clear h1 hb; go_wp2_with fail; refine (kroad0 140 _).mono ?_; rintro e wPa ⟨AP1, AP2, cP2, rfl, h1, h2, hcP2, hb⟩; have HRP1 := Aside0.mk h1; have HRP2 := Aside0.mk h2; have HVPa := Aside0.mk hb; clear h1 h2 hb; go_wp2_with fail; refine (kAmount AP1 AP2 cP2 _ (HGL.out.up upA) HRP1.out HRP2.out hcP2).mono ?_; rintro e wP ⟨rfl, hb⟩; have HVP := Aside0.mk hb; clear hb; have HBP : Aside0 (Bx (wP.alloc (.cells #[.int .i64 9, .int .i64 43] 41)) wP.heap.size #[.int .i64 9, .int .i64 43] 41) := ⟨Bx.new wP _ _⟩
 go_wp2_with fail
 refine (kroad0 140 _).mono ?_; rintro e wRa ⟨AR1, AR2, cR2, rfl, h1, h2, hcR2, hb⟩; have HRR1 := Aside0.mk h1; have HRR2 := Aside0.mk h2; have HVRa := Aside0.mk hb; clear h1 h2 hb; go_wp2_with fail; refine (kWrong AR1 AR2 cR2 _ (HGL.out.up upA) HRR1.out HRR2.out hcR2).mono ?_; rintro e wR ⟨AR, cR, rfl, hcR, h1, hb⟩; have HCR := Aside0.mk h1; have HVR := Aside0.mk hb; clear h1 hb; go_wp2_with fail; refine (kroad0 140 _).mono ?_; rintro e wLa ⟨AL1, AL2, cL2, rfl, h1, h2, hcL2, hb⟩; have HRL1 := Aside0.mk h1; have HRL2 := Aside0.mk h2; have HVLa := Aside0.mk hb; clear h1 h2 hb; go_wp2_with fail; refine (kLook AL1 AL2 cL2 _ (HGL.out.up upA) HRL1.out HRL2.out hcL2).mono ?_; rintro e wL ⟨rfl, hb⟩; have HVL := Aside0.mk hb; clear hb; go_wp2_with fail; refine (kroad0 140 _).mono ?_; rintro e wCa ⟨AC1, AC2, cC2, rfl, h1, h2, hcC2, hb⟩; have HRC1 := Aside0.mk h1; have HRC2 := Aside0.mk h2; have HVCa := Aside0.mk hb; clear h1 h2 hb; go_wp2_with fail; refine (kroad1 wCa _ rfl).mono ?_; rintro e wCb ⟨AC3, AC4, cC4, rfl, h1, h2, hcC4, hb⟩; have HRC3 := Aside0.mk h1; have HRC4 := Aside0.mk h2; have HVCb := Aside0.mk hb; clear h1 h2 hb; go_wp2_with fail; refine (kCommon wCb _ rfl (HGL.out.up upA) AC1 AC2 AC3 AC4 cC2 cC4 (C_up HRC1.out upA) (C_up HRC2.out upA) hcC2 HRC3.out HRC4.out hcC4).mono ?_; rintro e wC ⟨AC, cC, rfl, hcC, h1, hb⟩; have HCC := Aside0.mk h1; have HVC := Aside0.mk hb; clear h1 hb; go_wp2_with fail; refine (kroad0 150 _).mono ?_; rintro e wDa ⟨AD1, AD2, cD2, rfl, h1, h2, hcD2, hb⟩; have HRD1 := Aside0.mk h1; have HRD2 := Aside0.mk h2; have HVDa := Aside0.mk hb; clear h1 h2 hb; go_wp2_with fail; refine (kNeed AD1 AD2 cD2 _ HRD1.out HRD2.out hcD2).mono ?_; rintro e wD ⟨rfl, hb⟩; have HVD := Aside0.mk hb; clear hb; have hnes1 := nes1; have hnes2 := nes2; have HBM2 := Aside0.mk (HBM.out.up (w' := wD) upA); have HBN2 := Aside0.mk (HBN.out.up (w' := wD) upA); have HBP2 := Aside0.mk (HBP.out.up (w' := wD) upA)
 go_wp2_with fail
 -- EV known
 obtain ⟨BM, hBM⟩ : ∃ b, b = wM.heap.size := ⟨_, rfl⟩; obtain ⟨BN, hBN⟩ : ∃ b, b = wN.heap.size := ⟨_, rfl⟩; obtain ⟨BP, hBP⟩ : ∃ b, b = wP.heap.size := ⟨_, rfl⟩; rw [← hBM] at HBM2 ⊢; rw [← hBN] at HBN2 ⊢; rw [← hBP] at HBP2 ⊢; clear hBM hBN hBP; have hall : Up wW wD ∧ Up wF wD ∧ Up wO wD ∧ Up wR wD ∧ Up wC wD ∧ Up w wD := ⟨upA, upA, upA, upA, upA, upA⟩; have HWD : Aside0 (Up wW wD) := ⟨hall.1⟩; have HFD : Aside0 (Up wF wD) := ⟨hall.2.1⟩; have HOD : Aside0 (Up wO wD) := ⟨hall.2.2.1⟩; have HRD : Aside0 (Up wR wD) := ⟨hall.2.2.2.1⟩; have HCD : Aside0 (Up wC wD) := ⟨hall.2.2.2.2.1⟩; have H0D : Aside0 (Up w wD) := ⟨hall.2.2.2.2.2⟩; clear hall; have HS13 : Aside0 (∀ W' : World, Up wD W' → W'.cell? ⟨BM, 0, none⟩ = some (.int .i64 0) ∧ W'.cell? ⟨BM, 1, none⟩ = some (.int .i64 33) ∧ W'.cell? ⟨BN, 0, none⟩ = some (.int .i64 9) ∧ W'.cell? ⟨BN, 1, none⟩ = some (.int .i64 43) ∧ W'.cell? ⟨BP, 0, none⟩ = some (.int .i64 9) ∧ W'.cell? ⟨BP, 1, none⟩ = some (.int .i64 43)) := ⟨fun W' hu => ⟨(HBM2.out.up hu).cell 0, (HBM2.out.up hu).cell 1, (HBN2.out.up hu).cell 0, (HBN2.out.up hu).cell 1, (HBP2.out.up hu).cell 0, (HBP2.out.up hu).cell 1⟩⟩; refine start_ (n := 42) (S := fun W' => W'.cell? ⟨BM, 0, none⟩ = some (.int .i64 0) ∧ W'.cell? ⟨BM, 1, none⟩ = some (.int .i64 33) ∧ W'.cell? ⟨BN, 0, none⟩ = some (.int .i64 9) ∧ W'.cell? ⟨BN, 1, none⟩ = some (.int .i64 43) ∧ W'.cell? ⟨BP, 0, none⟩ = some (.int .i64 9) ∧ W'.cell? ⟨BP, 1, none⟩ = some (.int .i64 43)) (ds := []) (bm 42 0) sqF rfl rfl (HS13.out _ ((Up.refl wD).drew)) (fun hHeld => ?_); refine pure_ (i := 0) (N := (some 115)) (v := ?_) (a' := ?_) (bm 42 1) rfl rfl sqF (fun _ _ _ h => h) (Or.inl ⟨by rfl, ?_⟩) ?_ ?_
 rotate_left
 ·intro w'
  go_simp; with_reducible rfl
 rotate_left
 ·simp only [Act.put, sqA, i64_w, i32_w]; rfl
 refine one_ (i := 1) (N := (some 116)) (bm 42 3) rfl rfl sqF (by decide) (fun K hK => ?_); refine goes_ Tryd.func52 sqF rfl #[.int .i64 198, .int .i64 199] (by rfl) rfl rfl sqM ?_; refine (kspan_ 198 199 _).mono ?_; rintro e x1 ⟨rfl, hb⟩; have HK1 : Aside0 (Up wD x1) := ⟨(((Up.refl wD).drew)).then hb⟩; clear hb; refine ⟨_, rfl, ?_⟩; refine hK.out _ _ (HS13.out _ HK1.out) (fun hHeld => ?_); clear hK K; refine norm_ (a' := ?_) ?_ ?_
 rotate_left
 ·show Act.put _ (some 116) _ = _
  simp only [Act.put, sqA, i64_w, i32_w]; rfl
 refine one_ (i := 2) (N := (some 117)) (bm 42 7) rfl rfl sqF (by decide) (fun K hK => ?_); refine goes_ Tryd.func52 sqF rfl #[.int .i64 158, .int .i64 159] (by rfl) rfl rfl sqM ?_; refine (kspan_ 158 159 _).mono ?_; rintro e x2 ⟨rfl, hb⟩; have HK2 : Aside0 (Up wD x2) := ⟨(HK1.out).then hb⟩; clear hb; refine ⟨_, rfl, ?_⟩; refine hK.out _ _ (HS13.out _ HK2.out) (fun hHeld => ?_); clear hK K; refine norm_ (a' := ?_) ?_ ?_
 rotate_left
 ·show Act.put _ (some 117) _ = _
  simp only [Act.put, sqA, i64_w, i32_w]; rfl
 refine one_ (i := 3) (N := (some 118)) (bm 42 15) rfl rfl sqF (by decide) (fun K hK => ?_); refine goes_ Tryd.func52 sqF rfl #[.int .i64 150, .int .i64 151] (by rfl) rfl rfl sqM ?_; refine (kspan_ 150 151 _).mono ?_; rintro e x3 ⟨rfl, hb⟩; have HK3 : Aside0 (Up wD x3) := ⟨(HK2.out).then hb⟩; clear hb; refine ⟨_, rfl, ?_⟩; refine hK.out _ _ (HS13.out _ HK3.out) (fun hHeld => ?_); clear hK K; refine norm_ (a' := ?_) ?_ ?_
 rotate_left
 ·show Act.put _ (some 118) _ = _
  simp only [Act.put, sqA, i64_w, i32_w]; rfl
 refine one_ (i := 4) (N := (some 119)) (bm 42 31) rfl rfl sqF (by decide) (fun K hK => ?_); refine value_ (v := ?_) (w1 := (x3.alloc (.cells #[.int .i64 198, .int .i64 199, .int .i64 158, .int .i64 159, .int .i64 150, .int .i64 151] 41))) (by rfl) rfl ?_ ?_
 rotate_left
 ·go_simp
  rfl
 have HK4 : Aside0 (Up wD (x3.alloc (.cells #[.int .i64 198, .int .i64 199, .int .i64 158, .int .i64 159, .int .i64 150, .int .i64 151] 41))) := ⟨(HK3.out).alloc _⟩; refine hK.out _ _ (HS13.out _ HK4.out) (fun hHeld => ?_); clear hK K; refine norm_ (a' := ?_) ?_ ?_
 rotate_left
 ·show Act.put _ (some 119) _ = _
  simp only [Act.put, sqA, i64_w, i32_w]; rfl
 refine one_ (i := 5) (N := (some 120)) (bm 42 63) rfl rfl sqF (by decide) (fun K hK => ?_); refine goes_ Tryd.func26 sqF rfl #[.slice AW 3 cW, .slice (some ⟨x3.heap.size, 0, none⟩) 3 3] (by rfl) rfl rfl sqM ?_; refine (kSp3 AW cW _ x3 rfl (C_up HCW.out ((HWD.out).then HK3.out)) hcW).mono ?_; rintro e x5 ⟨rfl, hb⟩; have HK5 : Aside0 (Up wD x5) := ⟨(HK3.out).then hb⟩; clear hb; refine ⟨_, rfl, ?_⟩; refine hK.out _ _ (HS13.out _ HK5.out) (fun hHeld => ?_); clear hK K; refine norm_ (a' := ?_) ?_ ?_
 rotate_left
 ·show Act.put _ (some 120) _ = _
  simp only [Act.put, sqA, i64_w, i32_w]; rfl
 refine pure_ (i := 6) (N := (some 121)) (v := ?_) (a' := ?_) (bm 42 127) rfl rfl sqF (fun _ _ _ h => h) (Or.inl ⟨by rfl, ?_⟩) ?_ ?_
 rotate_left
 ·intro w'
  go_simp; with_reducible rfl
 rotate_left
 ·simp only [Act.put, sqA, i64_w, i32_w]; rfl
 refine pure_ (i := 7) (N := (some 122)) (v := ?_) (a' := ?_) (bm 42 255) rfl rfl sqF (fun _ _ _ h => h) (Or.inl ⟨by rfl, ?_⟩) ?_ ?_
 rotate_left
 ·intro w'
  go_simp; with_reducible rfl
 rotate_left
 ·simp only [Act.put, sqA, i64_w, i32_w]; rfl
 refine pure_ (i := 8) (N := (some 123)) (v := ?_) (a' := ?_) (bm 42 511) rfl rfl sqF (fun _ _ _ h => h) (Or.inl ⟨by rfl, ?_⟩) ?_ ?_
 rotate_left
 ·intro w'
  go_simp; with_reducible rfl
 rotate_left
 ·simp only [Act.put, sqA, i64_w, i32_w]; rfl
 refine one_ (i := 9) (N := (some 124)) (bm 42 1023) rfl rfl sqF (by decide) (fun K hK => ?_); refine goes_ Tryd.func52 sqF rfl #[.int .i64 39, .int .i64 40] (by rfl) rfl rfl sqM ?_; refine (kspan_ 39 40 _).mono ?_; rintro e x6 ⟨rfl, hb⟩; have HK6 : Aside0 (Up wD x6) := ⟨(HK5.out).then hb⟩; clear hb; refine ⟨_, rfl, ?_⟩; refine hK.out _ _ (HS13.out _ HK6.out) (fun hHeld => ?_); clear hK K; refine norm_ (a' := ?_) ?_ ?_
 rotate_left
 ·show Act.put _ (some 124) _ = _
  simp only [Act.put, sqA, i64_w, i32_w]; rfl
 refine one_ (i := 10) (N := (some 125)) (bm 42 2047) rfl rfl sqF (by decide) (fun K hK => ?_); refine goes_ Tryd.func52 sqF rfl #[.int .i64 7, .int .i64 8] (by rfl) rfl rfl sqM ?_; refine (kspan_ 7 8 _).mono ?_; rintro e x7 ⟨rfl, hb⟩; have HK7 : Aside0 (Up wD x7) := ⟨(HK6.out).then hb⟩; clear hb; refine ⟨_, rfl, ?_⟩; refine hK.out _ _ (HS13.out _ HK7.out) (fun hHeld => ?_); clear hK K; refine norm_ (a' := ?_) ?_ ?_
 rotate_left
 ·show Act.put _ (some 125) _ = _
  simp only [Act.put, sqA, i64_w, i32_w]; rfl
 refine one_ (i := 11) (N := (some 126)) (bm 42 4095) rfl rfl sqF (by decide) (fun K hK => ?_); refine value_ (v := ?_) (w1 := (x7.alloc (.cells #[.int .i64 39, .int .i64 40, .int .i64 7, .int .i64 8] 41))) (by rfl) rfl ?_ ?_
 rotate_left
 ·go_simp
  rfl
 have HK8 : Aside0 (Up wD (x7.alloc (.cells #[.int .i64 39, .int .i64 40, .int .i64 7, .int .i64 8] 41))) := ⟨(HK7.out).alloc _⟩; refine hK.out _ _ (HS13.out _ HK8.out) (fun hHeld => ?_); clear hK K; refine norm_ (a' := ?_) ?_ ?_
 rotate_left
 ·show Act.put _ (some 126) _ = _
  simp only [Act.put, sqA, i64_w, i32_w]; rfl
 refine one_ (i := 12) (N := (some 127)) (bm 42 8191) rfl rfl sqF (by decide) (fun K hK => ?_); refine goes_ Tryd.func26 sqF rfl #[.slice AF 2 cF, .slice (some ⟨x7.heap.size, 0, none⟩) 2 2] (by rfl) rfl rfl sqM ?_; refine (kSp2 AF cF _ x7 rfl (C_up HCF.out ((HFD.out).then HK7.out)) hcF).mono ?_; rintro e x9 ⟨rfl, hb⟩; have HK9 : Aside0 (Up wD x9) := ⟨(HK7.out).then hb⟩; clear hb; refine ⟨_, rfl, ?_⟩; refine hK.out _ _ (HS13.out _ HK9.out) (fun hHeld => ?_); clear hK K; refine norm_ (a' := ?_) ?_ ?_
 rotate_left
 ·show Act.put _ (some 127) _ = _
  simp only [Act.put, sqA, i64_w, i32_w]; rfl
 refine pure_ (i := 13) (N := (some 128)) (v := ?_) (a' := ?_) (bm 42 16383) rfl rfl sqF (fun _ _ _ h => h) (Or.inl ⟨by rfl, ?_⟩) ?_ ?_
 rotate_left
 ·intro w'
  go_simp; with_reducible rfl
 rotate_left
 ·simp only [Act.put, sqA, i64_w, i32_w]; rfl
 refine pure_ (i := 14) (N := (some 129)) (v := ?_) (a' := ?_) (bm 42 32767) rfl rfl sqF (fun _ _ _ h => h) (Or.inl ⟨by rfl, ?_⟩) ?_ ?_
 rotate_left
 ·intro w'
  go_simp; with_reducible rfl
 rotate_left
 ·simp only [Act.put, sqA, i64_w, i32_w]; rfl
 refine pure_ (i := 15) (N := (some 130)) (v := ?_) (a' := ?_) (bm 42 65535) rfl rfl sqF (fun _ _ _ h => h) (Or.inl ⟨by rfl, ?_⟩) ?_ ?_
 rotate_left
 ·intro w'
  go_simp; with_reducible rfl
 rotate_left
 ·simp only [Act.put, sqA, i64_w, i32_w]; rfl
 refine take_ (i := 16) (N := (some 131)) (v := ?_) (a' := ?_) (bm 42 131071) rfl rfl sqF (fun _ _ _ h => h) (Or.inl ⟨by rfl, ?_⟩) hHeld ?_ ?_
 rotate_left
 ·rintro w' ⟨s0, s1, s2, s3, s4, s5⟩
  go_simp; with_reducible rfl
 rotate_left
 ·simp only [Act.put, sqA, i64_w, i32_w]; rfl
 refine one_ (i := 17) (N := (some 132)) (bm 42 262143) rfl rfl sqF (by decide) (fun K hK => ?_); refine goes_ Tryd.func52 sqF rfl #[.int .i64 0, .int .i64 33] (by rfl) rfl rfl sqM ?_; refine (kspan_ 0 33 _).mono ?_; rintro e x10 ⟨rfl, hb⟩; have HK10 : Aside0 (Up wD x10) := ⟨(HK9.out).then hb⟩; clear hb; refine ⟨_, rfl, ?_⟩; refine hK.out _ _ (HS13.out _ HK10.out) (fun hHeld => ?_); clear hK K; refine norm_ (a' := ?_) ?_ ?_
 rotate_left
 ·show Act.put _ (some 132) _ = _
  simp only [Act.put, sqA, i64_w, i32_w]; rfl
 refine pure_ (i := 18) (N := (some 133)) (v := ?_) (a' := ?_) (bm 42 524287) rfl rfl sqF (fun _ _ _ h => h) (Or.inl ⟨by rfl, ?_⟩) ?_ ?_
 rotate_left
 ·intro w'
  go_simp; with_reducible rfl
 rotate_left
 ·simp only [Act.put, sqA, i64_w, i32_w]; rfl
 refine pure_ (i := 19) (N := (some 134)) (v := ?_) (a' := ?_) (bm 42 1048575) rfl rfl sqF (fun _ _ _ h => h) (Or.inl ⟨by rfl, ?_⟩) ?_ ?_
 rotate_left
 ·intro w'
  go_simp; with_reducible rfl
 rotate_left
 ·simp only [Act.put, sqA, i64_w, i32_w]; rfl
 refine pure_ (i := 20) (N := (some 135)) (v := ?_) (a' := ?_) (bm 42 2097151) rfl rfl sqF (fun _ _ _ h => h) (Or.inl ⟨by rfl, ?_⟩) ?_ ?_
 rotate_left
 ·intro w'
  go_simp; with_reducible rfl
 rotate_left
 ·simp only [Act.put, sqA, i64_w, i32_w]; rfl
 refine take_ (i := 21) (N := (some 136)) (v := ?_) (a' := ?_) (bm 42 4194303) rfl rfl sqF (fun _ _ _ h => h) (Or.inl ⟨by rfl, ?_⟩) hHeld ?_ ?_
 rotate_left
 ·rintro w' ⟨s0, s1, s2, s3, s4, s5⟩
  go_simp; with_reducible rfl
 rotate_left
 ·simp only [Act.put, sqA, i64_w, i32_w]; rfl
 refine one_ (i := 22) (N := (some 137)) (bm 42 8388607) rfl rfl sqF (by decide) (fun K hK => ?_); refine goes_ Tryd.func52 sqF rfl #[.int .i64 9, .int .i64 43] (by rfl) rfl rfl sqM ?_; refine (kspan_ 9 43 _).mono ?_; rintro e x11 ⟨rfl, hb⟩; have HK11 : Aside0 (Up wD x11) := ⟨(HK10.out).then hb⟩; clear hb; refine ⟨_, rfl, ?_⟩; refine hK.out _ _ (HS13.out _ HK11.out) (fun hHeld => ?_); clear hK K; refine norm_ (a' := ?_) ?_ ?_
 rotate_left
 ·show Act.put _ (some 137) _ = _
  simp only [Act.put, sqA, i64_w, i32_w]; rfl
 refine pure_ (i := 23) (N := (some 138)) (v := ?_) (a' := ?_) (bm 42 16777215) rfl rfl sqF (fun _ _ _ h => h) (Or.inl ⟨by rfl, ?_⟩) ?_ ?_
 rotate_left
 ·intro w'
  go_simp; with_reducible rfl
 rotate_left
 ·simp only [Act.put, sqA, i64_w, i32_w]; rfl
 refine pure_ (i := 24) (N := (some 139)) (v := ?_) (a' := ?_) (bm 42 33554431) rfl rfl sqF (fun _ _ _ h => h) (Or.inl ⟨by rfl, ?_⟩) ?_ ?_
 rotate_left
 ·intro w'
  go_simp; with_reducible rfl
 rotate_left
 ·simp only [Act.put, sqA, i64_w, i32_w]; rfl
 refine pure_ (i := 25) (N := (some 140)) (v := ?_) (a' := ?_) (bm 42 67108863) rfl rfl sqF (fun _ _ _ h => h) (Or.inl ⟨by rfl, ?_⟩) ?_ ?_
 rotate_left
 ·intro w'
  go_simp; with_reducible rfl
 rotate_left
 ·simp only [Act.put, sqA, i64_w, i32_w]; rfl
 refine pure_ (i := 26) (N := (some 141)) (v := ?_) (a' := ?_) (bm 42 134217727) rfl rfl sqF (fun _ _ _ h => h) (Or.inl ⟨by rfl, ?_⟩) ?_ ?_
 rotate_left
 ·intro w'
  go_simp; with_reducible rfl
 rotate_left
 ·simp only [Act.put, sqA, i64_w, i32_w]; rfl
 refine one_ (i := 27) (N := (some 142)) (bm 42 268435455) rfl rfl sqF (by decide) (fun K hK => ?_); refine value_ (v := ?_) (w1 := (x11.alloc (.cells #[.int .i64 0, .int .i64 1] 3))) (by rfl) rfl ?_ ?_
 rotate_left
 ·go_simp
  rfl
 have HK12 : Aside0 (Up wD (x11.alloc (.cells #[.int .i64 0, .int .i64 1] 3))) := ⟨(HK11.out).alloc _⟩; refine hK.out _ _ (HS13.out _ HK12.out) (fun hHeld => ?_); clear hK K; refine norm_ (a' := ?_) ?_ ?_
 rotate_left
 ·show Act.put _ (some 142) _ = _
  simp only [Act.put, sqA, i64_w, i32_w]; rfl
 refine one_ (i := 28) (N := (some 143)) (bm 42 536870911) rfl rfl sqF (by decide) (fun K hK => ?_); refine goes_ Tryd.func34 sqF rfl #[.slice AO 2 cO, .slice (some ⟨x11.heap.size, 0, none⟩) 2 2] (by rfl) rfl rfl sqM ?_; refine (kInts2 AO cO _ x11 rfl (C_up HCO.out ((HOD.out).then HK11.out)) hcO).mono ?_; rintro e x13 ⟨rfl, hb⟩; have HK13 : Aside0 (Up wD x13) := ⟨(HK11.out).then hb⟩; clear hb; refine ⟨_, rfl, ?_⟩; refine hK.out _ _ (HS13.out _ HK13.out) (fun hHeld => ?_); clear hK K; refine norm_ (a' := ?_) ?_ ?_
 rotate_left
 ·show Act.put _ (some 143) _ = _
  simp only [Act.put, sqA, i64_w, i32_w]; rfl
 refine pure_ (i := 29) (N := (some 144)) (v := ?_) (a' := ?_) (bm 42 1073741823) rfl rfl sqF (fun _ _ _ h => h) (Or.inl ⟨by rfl, ?_⟩) ?_ ?_
 rotate_left
 ·intro w'
  go_simp; with_reducible rfl
 rotate_left
 ·simp only [Act.put, sqA, i64_w, i32_w]; rfl
 refine pure_ (i := 30) (N := (some 145)) (v := ?_) (a' := ?_) (bm 42 2147483647) rfl rfl sqF (fun _ _ _ h => h) (Or.inl ⟨by rfl, ?_⟩) ?_ ?_
 rotate_left
 ·intro w'
  go_simp; with_reducible rfl
 rotate_left
 ·simp only [Act.put, sqA, i64_w, i32_w]; rfl
 refine pure_ (i := 31) (N := (some 146)) (v := ?_) (a' := ?_) (bm 42 4294967295) rfl rfl sqF (fun _ _ _ h => h) (Or.inl ⟨by rfl, ?_⟩) ?_ ?_
 rotate_left
 ·intro w'
  go_simp; with_reducible rfl
 rotate_left
 ·simp only [Act.put, sqA, i64_w, i32_w]; rfl
 refine take_ (i := 32) (N := (some 147)) (v := ?_) (a' := ?_) (bm 42 8589934591) rfl rfl sqF (fun _ _ _ h => h) (Or.inl ⟨by rfl, ?_⟩) hHeld ?_ ?_
 rotate_left
 ·rintro w' ⟨s0, s1, s2, s3, s4, s5⟩
  go_simp; with_reducible rfl
 rotate_left
 ·simp only [Act.put, sqA, i64_w, i32_w]; rfl
 refine take_ (i := 33) (N := (some 148)) (v := ?_) (a' := ?_) (bm 42 17179869183) rfl rfl sqF (fun _ _ _ h => h) (Or.inl ⟨by rfl, ?_⟩) hHeld ?_ ?_
 rotate_left
 ·rintro w' ⟨s0, s1, s2, s3, s4, s5⟩
  go_simp; with_reducible rfl
 rotate_left
 ·simp only [Act.put, sqA, i64_w, i32_w]; rfl
 refine pure_ (i := 34) (N := (some 149)) (v := ?_) (a' := ?_) (bm 42 34359738367) rfl rfl sqF (fun _ _ _ h => h) (Or.inl ⟨by rfl, ?_⟩) ?_ ?_
 rotate_left
 ·intro w'
  go_simp; with_reducible rfl
 rotate_left
 ·simp only [Act.put, sqA, i64_w, i32_w]; rfl
 refine pure_ (i := 35) (N := (some 150)) (v := ?_) (a' := ?_) (bm 42 68719476735) rfl rfl sqF (fun _ _ _ h => h) (Or.inl ⟨by rfl, ?_⟩) ?_ ?_
 rotate_left
 ·intro w'
  go_simp; with_reducible rfl
 rotate_left
 ·simp only [Act.put, sqA, i64_w, i32_w]; rfl
 refine pure_ (i := 36) (N := (some 151)) (v := ?_) (a' := ?_) (bm 42 137438953471) rfl rfl sqF (fun _ _ _ h => h) (Or.inl ⟨by rfl, ?_⟩) ?_ ?_
 rotate_left
 ·intro w'
  go_simp; with_reducible rfl
 rotate_left
 ·simp only [Act.put, sqA, i64_w, i32_w]; rfl
 refine pure_ (i := 37) (N := (some 152)) (v := ?_) (a' := ?_) (bm 42 274877906943) rfl rfl sqF (fun _ _ _ h => h) (Or.inl ⟨by rfl, ?_⟩) ?_ ?_
 rotate_left
 ·intro w'
  go_simp; with_reducible rfl
 rotate_left
 ·simp only [Act.put, sqA, i64_w, i32_w]; rfl
 refine one_ (i := 38) (N := (some 153)) (bm 42 549755813887) rfl rfl sqF (by decide) (fun K hK => ?_); refine value_ (v := ?_) (w1 := (x13.alloc (.cells #[.int .i64 0] 3))) (by rfl) rfl ?_ ?_
 rotate_left
 ·go_simp
  rfl
 have HK14 : Aside0 (Up wD (x13.alloc (.cells #[.int .i64 0] 3))) := ⟨(HK13.out).alloc _⟩; refine hK.out _ _ (HS13.out _ HK14.out) (fun hHeld => ?_); clear hK K; refine norm_ (a' := ?_) ?_ ?_
 rotate_left
 ·show Act.put _ (some 153) _ = _
  simp only [Act.put, sqA, i64_w, i32_w]; rfl
 refine one_ (i := 39) (N := (some 154)) (bm 42 1099511627775) rfl rfl sqF (by decide) (fun K hK => ?_); refine goes_ Tryd.func34 sqF rfl #[.slice AR 1 cR, .slice (some ⟨x13.heap.size, 0, none⟩) 1 1] (by rfl) rfl rfl sqM ?_; refine (kInts1 AR cR _ x13 rfl (C_up HCR.out ((HRD.out).then HK13.out)) hcR).mono ?_; rintro e x15 ⟨rfl, hb⟩; have HK15 : Aside0 (Up wD x15) := ⟨(HK13.out).then hb⟩; clear hb; refine ⟨_, rfl, ?_⟩; refine hK.out _ _ (HS13.out _ HK15.out) (fun hHeld => ?_); clear hK K; refine norm_ (a' := ?_) ?_ ?_
 rotate_left
 ·show Act.put _ (some 154) _ = _
  simp only [Act.put, sqA, i64_w, i32_w]; rfl
 refine pure_ (i := 40) (N := (some 155)) (v := ?_) (a' := ?_) (bm 42 2199023255551) rfl rfl sqF (fun _ _ _ h => h) (Or.inl ⟨by rfl, ?_⟩) ?_ ?_
 rotate_left
 ·intro w'
  go_simp; with_reducible rfl
 rotate_left
 ·simp only [Act.put, sqA, i64_w, i32_w]; rfl
 refine pure_ (i := 41) (N := (some 156)) (v := ?_) (a' := ?_) (bm 42 4398046511103) rfl rfl sqF (fun _ _ _ h => h) (Or.inl ⟨by rfl, ?_⟩) ?_ ?_
 rotate_left
 ·intro w'
  go_simp; with_reducible rfl
 rotate_left
 ·simp only [Act.put, sqA, i64_w, i32_w]; rfl
 refine done_ sqF ?_
 go_wp2_with fail
 refine (kInts1 AC cC _ x15 rfl (C_up HCC.out ((HCD.out).then HK15.out)) hcC).mono ?_; rintro e wZ ⟨rfl, hb⟩; have HZ := Aside0.mk hb; clear hb; go_wp2_with fail
 go_ret
 exact ⟨rfl, (H0D.out.then HK15.out).then HZ.out⟩
 -- END known
end Go.Proofs.YtemingmeidmjkaaDoor.Q
