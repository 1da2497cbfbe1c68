/- The walks of this program's functions. No condition. -/
import Derived.Test.YtemingmeidmjkaaDoorX0
import Derived.Test.YtemingmeidmjkaaDoorX1
set_option linter.unusedVariables false
set_option linter.unusedSimpArgs false
namespace Go.Proofs.YtemingmeidmjkaaDoor.Q
open Go.RowKit Go.Shelf Go.Proofs.YtemingmeidmjkaaDoorW.PrintWords Go.Proofs.YtemingmeidmjkaaDoorW.PrintLast
set_option linter.unusedVariables false
set_option linter.unusedSimpArgs false
attribute [local go_sem] bi_max2 bi_min2 bi_max_two bi_min_two
abbrev OM (W : World) (b n : Nat) (D : DataW Unit) : Prop := W.ownsMap Tryd.prog 3 R_S b n D
def m0 (s : Sp) (j : Nat) : Int → Option Sp := fun v => if s.lo ≤ v ∧ v < s.lo + (j : Int) then some ⟨0, 0⟩ else none
theorem m0_zero (s : Sp) : m0 s 0 = fun _ => none := by
 funext v
 rw [m0, if_neg (by omega)]
theorem m0_succ (s : Sp) (j : Nat) : upd (m0 s j) (s.lo + (j : Int)) ⟨0, 0⟩ = m0 s (j + 1) := by
 funext v
 unfold upd m0
 by_cases h : v = s.lo + (j : Int)
 ·rw [if_pos h, if_neg (by omega), if_pos (by omega)]
  rfl
 ·rw [if_neg h]
  by_cases h2 : s.lo ≤ v ∧ v < s.lo + (j : Int)
  ·rw [if_pos h2, if_pos (by omega)]
  ·rw [if_neg h2, if_neg (by omega)]
theorem m0_end (st : List Sp) (wg : List Wg) : m0 (seenS wg 0) (spN (seenS wg 0)) = msN st wg 0 := rfl
set_option maxRecDepth 100000 in
set_option maxHeartbeats 2000000 in
theorem missing_ (A : Option Addr) (c : Nat) (st : List Sp) (A2 : Option Addr) (c2 : Nat) (wg : List Wg) (w : World) (hG : GL w) (hr : Kd.C kSp w A st.length st) (hc : st.length ≤ c) (hr2 : Kd.C kWg w A2 wg.length wg) (hc2 : wg.length ≤ c2) :
  Calls Tryd.prog 29 #[.agg #[.slice A st.length c, .slice A2 wg.length c2]] w fun e w' => e = .returned (.tuple #[.agg #[.int .i64 (msS st wg).lo, .int .i64 (msS st wg).hi], .int .i64 (msE st wg)]) ∧ Up w w' := by
 have HR := Aside0.mk hr; have HR2 := Aside0.mk hr2; have HGL := Aside0.mk hG; clear hr hr2 hG; have hmm := @run_makeMap Tryd.prog; have HU0 : Aside0 (Up w ((w.alloc (.cells #[.slice A st.length c, .slice A2 wg.length c2] 25)).alloc (.cells #[.int .i64 0, .int .i64 0] 41))) := ⟨upA⟩; have HB2 : Aside0 (Bx ((w.alloc (.cells #[.slice A st.length c, .slice A2 wg.length c2] 25)).alloc (.cells #[.int .i64 0, .int .i64 0] 41)) (w.heap.size + 1) #[.int .i64 0, .int .i64 0] 41) := ⟨by have h9 := Bx.new (w.alloc (.cells #[.slice A st.length c, .slice A2 wg.length c2] 25)) #[.int .i64 0, .int .i64 0] 41; simpa using h9⟩; have hcall := open_ A c st A2 c2 wg _ (C_up HR.out HU0.out) hc (C_up HR2.out HU0.out) hc2
 have hbe : (roadE st wg != 0) = !decide (roadE st wg = 0) := by by_cases h : roadE st wg = 0 <;> simp [h]
 go_enter Tryd.func29, Tryd.ntmps29
 go_wp2_with fail
 generalize ((w.alloc (.cells #[.slice A st.length c, .slice A2 wg.length c2] 25)).alloc (.cells #[.int .i64 0, .int .i64 0] 41)) = W0 at *
 refine hcall.mono ?_; clear hcall; rintro e w1 ⟨rfl, hb⟩; have HU1 := Aside0.mk ((HU0.out.then hb).alloc (.cells #[.slice A st.length c, .slice A2 wg.length c2] 95)); have HB3 := Aside0.mk ((HB2.out.up hb).up ((Up.refl w1).alloc (.cells #[.slice A st.length c, .slice A2 wg.length c2] 95))); have HB4 : Aside0 (Bx (w1.alloc (.cells #[.slice A st.length c, .slice A2 wg.length c2] 95)) w1.heap.size #[.slice A st.length c, .slice A2 wg.length c2] 95) := ⟨Bx.new w1 _ _⟩; have HW1 : Aside0 (w.heap.size ≤ w1.heap.size) := ⟨(HU0.out.then hb).le⟩; clear hb HB2
 by_cases he : roadE st wg = 0
 ·have hd : (roadE st wg != 0) = false := by simp [he]
  have HE := Aside0.mk he; clear he hbe; have hok := road_ok HE.out; have HOK := Aside0.mk hok.1; have hs5 := hok.2.2.1; have hso := seenS_ok wg 0; have hM := World.ownsMap_made (H := Unit) (w1.alloc (.cells #[.slice A st.length c, .slice A2 wg.length c2] 95)) Tryd.prog 3 R_S; obtain ⟨W2, hW2⟩ : ∃ W, W = ((w1.alloc (.cells #[.slice A st.length c, .slice A2 wg.length c2] 95)).alloc (.map #[] 0)) := ⟨_, rfl⟩; have HX2 : Aside0 (Up (w1.alloc (.cells #[.slice A st.length c, .slice A2 wg.length c2] 95)) W2) := ⟨by rw [hW2]; exact (Up.refl _).alloc _⟩; have HM2 : Aside0 (OM W2 (w1.heap.size + 1) 0 (.map [])) := ⟨by rw [hW2]; simpa using hM⟩; have HU2 := Aside0.mk (HU1.out.then HX2.out); have HB3' := Aside0.mk (HB3.out.up HX2.out); have HB4' := Aside0.mk (HB4.out.up HX2.out); have hsc := seen_ A c st A2 c2 wg 0 W2 (HGL.out.up HU2.out) (C_up HR2.out HU2.out) hc2 HOK.out.wgs; have hq4 := HB4'.out.cell; rw [hW2] at hsc hq4; obtain ⟨f, hf⟩ : ∃ f, f = seenS wg 0 := ⟨_, rfl⟩; rw [← hf] at hsc hso; have HF := Aside0.mk hf; clear hf hok hM; go_wp2_with fail; refine hsc.mono ?_; clear hsc hq4; rintro e w3 ⟨rfl, hb⟩; rw [← hW2] at hb; have HV := Aside0.mk (hb.alloc (.cells #[.int .i64 f.lo, .int .i64 f.hi] 100)); have HU4 := Aside0.mk (HU2.out.then HV.out); have HB3 := Aside0.mk (HB3'.out.up HV.out); have HB4 := Aside0.mk (HB4'.out.up HV.out); have HM4 : Aside0 (OM (w3.alloc (.cells #[.int .i64 f.lo, .int .i64 f.hi] 100)) (w1.heap.size + 1) 0 (.map [])) := ⟨HM2.out.kept (up_grown HV.out none) (by simp)⟩; have HB6 : Aside0 (Bx (w3.alloc (.cells #[.int .i64 f.lo, .int .i64 f.hi] 100)) w3.heap.size #[.int .i64 f.lo, .int .i64 f.hi] 100) := ⟨Bx.new w3 _ _⟩; have hq6 := HB6.out.cell; clear hb HB3' HB4'; go_wp2_with fail; clear hq6; obtain ⟨b0, hb0⟩ : ∃ b, b = w1.heap.size + 1 := ⟨_, rfl⟩; have HWb : Aside0 (w.heap.size ≤ b0) := ⟨by rw [hb0]; have := HW1.out; omega⟩; obtain ⟨B4, hB4⟩ : ∃ b, b = w1.heap.size := ⟨_, rfl⟩; have HWB : Aside0 (w.heap.size ≤ B4) := ⟨by rw [hB4]; exact HW1.out⟩; rw [← hb0] at HM4; rw [← hb0]; rw [← hB4] at HB4; rw [← hB4]; obtain ⟨B6, hB6⟩ : ∃ b, b = w3.heap.size := ⟨_, rfl⟩; rw [← hB6] at HB6; rw [← hB6]; clear hb0 hB4 hB6 hW2; go_loopw [7] (fun v7 wr => ∃ (j n : Nat) (D : DataW Unit), j ≤ spN f ∧ n ≤ j ∧ v7 = .int .i64 (f.lo + (j : Int)) ∧ Aside0 (OM wr b0 n D ∧ Mf D (m0 f j)) ∧ Aside0 (Bx wr (w.heap.size + 1) #[.int .i64 0, .int .i64 0] 41) ∧ Aside0 (Bx wr B4 #[.slice A st.length c, .slice A2 wg.length c2] 95) ∧ Aside0 (Bx wr B6 #[.int .i64 f.lo, .int .i64 f.hi] 100) ∧ Aside0 (Up w wr)) (fun v7 _ => (f.hi + 1 - intOf v7).toNat)
  case atStart => exact ⟨0, 0, _, Nat.zero_le _, Nat.le_refl _, by simp, ⟨HM4.out, by rw [m0_zero]; exact Mf.empty⟩, HB3, HB4, HB6, HU4⟩
  case round =>
   clear HM4 HB3 HB4 HB6 HU4 HV HM2 HX2 HU2; obtain ⟨j, n, D, hj, hn, rfl, hM, hB2, hB4, hB6, hU⟩ := hrel; have hq6 := hB6.out.cell
   by_cases hle : f.lo + (j : Int) ≤ f.hi
   ·have hjs : j < spN f := by unfold spN; omega
    have hwx : IntKind.i64.wrap (f.lo + (j : Int) + 1) = f.lo + (j : Int) + 1 := IntWalk.i64_in _ (by omega); have hca := add_ b0 n D (m0 f j) (f.lo + (j : Int)) ⟨0, 0⟩ wr hM.out.1 hM.out.2 (by unfold spN at hjs; omega) (wf_small (by omega))
    go_wp2_with fail
    refine hca.mono ?_; clear hca hq6; rintro e w4 ⟨rfl, ⟨D', hown, hMf⟩, hg⟩; rw [m0_succ] at hMf; have HM5 : Aside0 (OM w4 b0 (n + 1) D' ∧ Mf D' (m0 f (j + 1))) := ⟨hown, hMf⟩; have HB2 := Aside0.mk (bx_map hB2.out hM.out.1 hg); have HB4 := Aside0.mk (bx_map hB4.out hM.out.1 hg); have HB6 := Aside0.mk (bx_map hB6.out hM.out.1 hg); have HU5 := Aside0.mk (up_some hU.out HWb.out hg); clear hown hMf hg; go_wp2_with fail
    go_roundw
    case rel => exact ⟨j + 1, n + 1, D', by omega, by omega, by go_num, HM5, HB2, HB4, HB6, HU5⟩
    case measure => simp [intOf]; omega
   ·have hjN : j = spN f := by unfold spN at *; omega
    subst hjN; have HM5 : Aside0 (OM wr b0 n D ∧ Mf D (msN st wg 0)) := ⟨hM.out.1, by rw [← m0_end]; have h9 := hM.out.2; rwa [HF.out] at h9⟩
    have hn1 : n ≤ 401 := by unfold spN at hn; omega
    have hq4 := hB4.out.cell; clear hM hn hj; go_wp2_with fail; clear hq6 hq4; go_loopw [5, 46] (fun v5 i wr => ∃ (k n b : Nat) (D : DataW Unit), k ≤ st.length ∧ n ≤ 401 ^ (k + 1) ∧ v5 = .map (some b) ∧ i = .int .i64 (k : Int) ∧ w.heap.size ≤ b ∧ Aside0 (OM wr b n D ∧ Mf D (msN st wg k)) ∧ Aside0 (Bx wr (w.heap.size + 1) #[.int .i64 0, .int .i64 0] 41) ∧ Aside0 (Bx wr B4 #[.slice A st.length c, .slice A2 wg.length c2] 95) ∧ Aside0 (Up w wr)) (fun _ i _ => st.length - (intOf i).toNat)
    case atStart => exact ⟨0, n, b0, D, Nat.zero_le _, by simpa using hn1, rfl, rfl, HWb.out, HM5, hB2, hB4, hU⟩
    case round =>
     clear HM5 hB2 hB4 hB6 hU HF hle hn1; obtain ⟨k, n, b, D, hk, hn, rfl, rfl, hwb, hM, hB2, hB4, hU⟩ := hrel
     by_cases hlt : k < st.length
     ·have hk1 : (k : Int) < (st.length : Int) := by omega
      have hwk : IntKind.i64.wrap ((k : Int) + 1) = (k : Int) + 1 := IntWalk.i64_in _ (by omega); have hnb : n ≤ 10368641602001 := Nat.le_trans hn (Nat.le_trans (Nat.pow_le_pow_right (n := 401) (by omega) (show k + 1 ≤ 5 by omega)) (by decide)); have HPW : Aside0 (n * 401 ≤ 401 ^ (k + 1 + 1)) := ⟨by rw [Nat.pow_succ]; exact Nat.mul_le_mul_right _ hn⟩; have HOKM := Aside0.mk (msN_ok HOK.out k (by omega)); have HST := Aside0.mk (HOK.out.at (k : Int) (by omega) hk1); have hso := seenS_ok wg (k : Int); have hse := seenS_ok wg ((k : Int) + 1); have HMS : Aside0 (msN st wg (k + 1) = msStep (rdS st k) (seenS wg (k : Int)) (seenS wg ((k : Int) + 1)) (msN st wg k)) := ⟨rfl⟩; obtain ⟨wo, rfl⟩ : ∃ wo, wo = wr := ⟨_, rfl⟩; have hMN := World.ownsMap_made (H := Unit) wo Tryd.prog 3 R_S; obtain ⟨W1, hW1⟩ : ∃ W, W = wo.alloc (.map #[] 0) := ⟨_, rfl⟩; have HV1 : Aside0 (Up wo W1) := ⟨by rw [hW1]; exact (Up.refl wo).alloc _⟩; have hsc := seen_ A c st A2 c2 wg ((k : Int) + 1) W1 (HGL.out.up (hU.out.then HV1.out)) (C_up HR2.out (hU.out.then HV1.out)) hc2 HOK.out.wgs; have HN1 : Aside0 (OM W1 wo.heap.size 0 (.map [])) := ⟨by rw [hW1]; exact hMN⟩; have hq4 := (hB4.out.up HV1.out).cell; rw [hW1] at hsc hq4
      generalize seenS wg ((k : Int) + 1) = seen at *
      generalize seenS wg (k : Int) = sp at *
      generalize msN st wg k = M at *
      clear hMN hn; go_wp2_with fail; refine hsc.mono ?_; clear hsc hq4; rintro e w2 ⟨rfl, hb⟩; rw [← hW1] at hb; obtain ⟨W3, hW3⟩ : ∃ W, W = w2.alloc (.cells #[.int .i64 seen.lo, .int .i64 seen.hi] 100) := ⟨_, rfl⟩; have HV3 : Aside0 (Up W1 W3) := ⟨by rw [hW3]; exact hb.alloc _⟩; have HU3 := Aside0.mk (hU.out.then (HV1.out.then HV3.out)); have HB2 := Aside0.mk (hB2.out.up (HV1.out.then HV3.out)); have HB4 := Aside0.mk (hB4.out.up (HV1.out.then HV3.out)); have HB10 : Aside0 (Bx W3 w2.heap.size #[.int .i64 seen.lo, .int .i64 seen.hi] 100) := ⟨by rw [hW3]; exact Bx.new w2 _ _⟩; have HM3 : Aside0 (OM W3 b n D ∧ Mf D M) := ⟨hM.out.1.kept (up_grown (HV1.out.then HV3.out) none) (by simp), hM.out.2⟩; have HN3 : Aside0 (OM W3 wo.heap.size 0 (.map [])) := ⟨HN1.out.kept (up_grown HV3.out none) (by simp)⟩
      have hrz : W3.heap.size = w2.heap.size + 1 := by rw [hW3]; simp
      have HWN : Aside0 (w.heap.size ≤ wo.heap.size ∧ wo.heap.size ≠ b ∧ wo.heap.size < W3.heap.size ∧ b < W3.heap.size) := ⟨hU.out.le, fun e => by have := hM.out.1.lt; omega, HN3.out.lt, HM3.out.1.lt⟩; have hM3' := HM3.out.1; rw [hW3] at hM3'; clear hb; go_wp2_with (first | (at_range; refine wpList_range_own _ rfl _ 111 rfl 3 100 kInt Tryd.underlying111 R_S b n D rfl hM3' ?_; intro w0 hrg0 hg0 hs0) | go_in)
      (try go_frame)
      rw [← hW3] at hrg0 hg0 hs0 ⊢; obtain ⟨r, hrr⟩ : ∃ r, r = W3.heap.size := ⟨_, rfl⟩; obtain ⟨b2, hb2⟩ : ∃ b, b = wo.heap.size := ⟨_, rfl⟩; obtain ⟨B10, hB10⟩ : ∃ b, b = w2.heap.size := ⟨_, rfl⟩; rw [← hrr] at hrg0 hs0 ⊢; rw [← hb2] at HN3 HWN ⊢; rw [← hB10] at HB10 ⊢; have HRG : Aside0 (w0.ranges Tryd.prog 3 R_S b r n D (Maps.has D) (Maps.size D)) := ⟨hrg0⟩; have HN0 : Aside0 (OM w0 b2 0 (.map [])) := ⟨HN3.out.kept hg0 (by simp)⟩; have HB2 := Aside0.mk (bx_none HB2.out hg0); have HB4 := Aside0.mk (bx_none HB4.out hg0); have HB10 := Aside0.mk (bx_none HB10.out hg0); have HU0' := Aside0.mk (up_none HU3.out hg0); have HNE : Aside0 (w.heap.size ≤ r ∧ r ≠ b ∧ r ≠ b2 ∧ w.heap.size ≤ b2 ∧ b2 ≠ b) := ⟨by have := HWN.out; have := HU3.out.le; omega, by have := HWN.out; omega, by have := HWN.out; omega, HWN.out.1, HWN.out.2.1⟩; have HMf := Aside0.mk hM.out.2; have HSZ := Aside0.mk (size_le hM.out.1); have HP0 : Aside0 (pL (rdS st k) sp seen M (Maps.has D) = fun _ => none) := ⟨pL_start (fun j hj => hM.out.2.has _ (wf_small (by unfold spN at hj; omega)))⟩; clear hrg0 hg0 hs0 hrr hb2 hB10 hM hB2 hB4 hU hM3' hrz hW3 hW1 HM3 HN3 HN1 HV1 HV3 HU3 HWN; go_loopw [11] (fun _ wr => ∃ (left : Lit → Bool) (cnt n2 : Nat) (D2 : DataW Unit), n2 + cnt * 401 ≤ Maps.size D * 401 ∧ Aside0 (wr.ranges Tryd.prog 3 R_S b r n D left cnt) ∧ Aside0 (OM wr b2 n2 D2 ∧ Mf D2 (pL (rdS st k) sp seen M left)) ∧ Aside0 (Bx wr (w.heap.size + 1) #[.int .i64 0, .int .i64 0] 41) ∧ Aside0 (Bx wr B4 #[.slice A st.length c, .slice A2 wg.length c2] 95) ∧ Aside0 (Bx wr B10 #[.int .i64 seen.lo, .int .i64 seen.hi] 100) ∧ Aside0 (Up w wr)) (fun _ wr => wr.rangeLeft b r)
      case atStart => exact ⟨_, _, 0, _, by omega, HRG, ⟨HN0.out, by rw [HP0.out]; exact Mf.empty⟩, HB2, HB4, HB10, HU0'⟩
      case round =>
       clear HRG HN0 HP0 HB2 HB4 HB10 HU0'; obtain ⟨left, cnt, n2, D2, hn2, hrg, hN, hB2, hB4, hB10, hU⟩ := hrel; obtain ⟨wp, rfl⟩ : ∃ wp, wp = wr := ⟨_, rfl⟩
       go_wp2_with (first | (at_next; refine wpList_next_ranges _ rfl _ rfl 3 kInt R_S (Value.int .i64) eS (fun key kl h => by obtain ⟨x, hx, _⟩ := Maps.keyOf_int_inv Tryd.underlying3 h; exact ⟨x, hx⟩) R_S_inv b r n D left cnt rfl hrg.out ?_ ?_) | go_in)
       ·intro hc0 hl0
        have HE5 : Aside0 (OM wp b2 n2 D2 ∧ Mf D2 (msN st wg (k + 1))) := ⟨hN.out.1, by rw [HMS.out, ← pL_end (fun kl => hl0 kl)]; exact hN.out.2⟩; have HN5 : Aside0 (n2 ≤ 401 ^ (k + 1 + 1)) := ⟨Nat.le_trans (by have := HSZ.out; omega) HPW.out⟩; clear hc0 hl0 hN; go_wp2_with fail
        go_roundw
        case rel => exact ⟨k + 1, n2, b2, D2, by omega, HN5.out, rfl, by go_num, HNE.out.2.2.2.1, HE5, hB2, hB4, hU⟩
        case measure => simp [intOf]; omega
       ·intro x c1 kl y1 y2 w1' cnt1 hkey hlk hv hat hrg1 hlt1 hg1 hs1 hen
        obtain ⟨x', ex, rfl, hwx⟩ := Maps.keyOf_int_inv Tryd.underlying3 hkey
        cases ex
        have hMx := entry_is HMf.out hwx hv hat; obtain ⟨hxr, hbd⟩ := HOKM.out x c1 hMx; obtain ⟨hbd1, hbd2⟩ := hbd; have hen2 : (Instr.entry (.pointer (some ⟨r, 0, none⟩))).run Tryd.prog w1' = .ok (.tuple #[.int .i64 x, .agg #[.int .i64 c1.lo, .int .i64 c1.hi]]) w1' := hen; have HLK := Aside0.mk hlk; have HWX := Aside0.mk hwx; have HMX := Aside0.mk hMx; obtain ⟨left', hleft⟩ : ∃ l : Lit → Bool, l = (fun z => left z && !z.sameKey (.int .i64 x)) := ⟨_, rfl⟩; have HLF := Aside0.mk hleft; rw [← hleft] at hrg1; have HN1 : Aside0 (OM w1' b2 n2 D2 ∧ Mf D2 (pL (rdS st k) sp seen M left)) := ⟨hN.out.1.kept hg1 (by have := HNE.out; intro e; cases e; omega), hN.out.2⟩; have HB2a := Aside0.mk (bx_iter hB2.out hrg.out hg1); have HB4a := Aside0.mk (bx_iter hB4.out hrg.out hg1); have HB10a := Aside0.mk (bx_iter hB10.out hrg.out hg1); have HUa := Aside0.mk (up_some hU.out HNE.out.1 hg1); have HRGa := Aside0.mk hrg1; have HLE := Aside0.mk hrg.out.left_eq; obtain ⟨W5, hW5⟩ : ∃ W, W = w1'.alloc (.cells #[.int .i64 c1.lo, .int .i64 c1.hi] 100) := ⟨_, rfl⟩; have HV5 : Aside0 (Up w1' W5) := ⟨by rw [hW5]; exact (Up.refl _).alloc _⟩; have HB12a : Aside0 (Bx W5 w1'.heap.size #[.int .i64 c1.lo, .int .i64 c1.hi] 100) := ⟨by rw [hW5]; exact Bx.new w1' _ _⟩; have hq4 := (HB4a.out.up HV5.out).cell; have hcl := left_ A c st A2 c2 wg (k : Int) x W5 (C_up HR.out (HUa.out.then HV5.out)) hc (C_up HR2.out (HUa.out.then HV5.out)) hc2 (by omega) hk1 HST.out ⟨by omega, by omega⟩; have g1 := hiS_le HST.out (w := x) (by omega); have g2 := loS_hiS HST.out (w := x) (by omega); have g3 := loS_nn HST.out (w := x) (by omega)
        have hk5 : 400 * (k : Int) ≤ 2000 := by omega
        rw [hW5] at hcl hq4; clear hkey hlk hv hat hrg1 hg1 hs1 hen hwx hMx hleft hN hB2 hB4 hB10 hU hrg; go_wp2_with fail; refine hcl.mono ?_; clear hcl hq4 hen2; rintro e w5 ⟨rfl, hb⟩; rw [← hW5] at hb; obtain ⟨p, hp⟩ : ∃ p, p = loS (rdS st k) x := ⟨_, rfl⟩; obtain ⟨q, hq⟩ : ∃ q, q = hiS (rdS st k) x := ⟨_, rfl⟩; rw [← hp, ← hq]; rw [← hq] at g1 g2; rw [← hp] at g2 g3; have HPQ := Aside0.mk (And.intro hp hq); clear hp hq; obtain ⟨W6, hW6⟩ : ∃ W, W = w5.alloc (.cells #[.int .i64 p, .int .i64 q] 100) := ⟨_, rfl⟩; have HV6 : Aside0 (Up w1' W6) := ⟨by rw [hW6]; exact (HV5.out.then hb).alloc _⟩; have HV56 : Aside0 (Up W5 W6) := ⟨by rw [hW6]; exact hb.alloc _⟩; have HB13 : Aside0 (Bx W6 w5.heap.size #[.int .i64 p, .int .i64 q] 100) := ⟨by rw [hW6]; exact Bx.new w5 _ _⟩; have HB12 := Aside0.mk (HB12a.out.up HV56.out); have HB2 := Aside0.mk (HB2a.out.up HV6.out); have HB4 := Aside0.mk (HB4a.out.up HV6.out); have HB10 := Aside0.mk (HB10a.out.up HV6.out); have HU6 := Aside0.mk (HUa.out.then HV6.out); have HN6 : Aside0 (OM W6 b2 n2 D2 ∧ Mf D2 (pL (rdS st k) sp seen M left)) := ⟨HN1.out.1.kept (up_grown HV6.out none) (by simp), HN1.out.2⟩; have HRG6 := Aside0.mk (HRGa.out.kept (up_grown HV6.out none) (by simp) (by simp)); have hq10 := HB10.out.cell; rw [hW6] at hq10; obtain ⟨B12, hB12⟩ : ∃ b, b = w1'.heap.size := ⟨_, rfl⟩; obtain ⟨B13, hB13⟩ : ∃ b, b = w5.heap.size := ⟨_, rfl⟩; have HP := Aside0.mk (show ∀ v, pL (rdS st k) sp seen M left' v = mo (pL (rdS st k) sp seen M left v) (con (rdS st k) seen v x (some c1)) from fun v => by rw [HLF.out, pL_step HWX.out hxr.1 hxr.2 HLK.out, HMX.out]); clear hb HB2a HB4a HB10a HB12a HN1 HRGa; go_wp2_with fail; rw [← hW6]; rw [← hB12, ← hB13]; rw [← hB12] at HB12; rw [← hB13] at HB13; clear hq10 hW6 hB12 hB13 hW5; generalize hPP : pL (rdS st k) sp seen M left = P at *; clear hPP; go_loopw [14] (fun v14 wr => ∃ (j n3 : Nat) (D3 : DataW Unit), n3 ≤ n2 + j ∧ j ≤ 401 ∧ (j = 0 ∨ seen.lo + (j : Int) ≤ min seen.hi q + 1) ∧ v14 = .int .i64 (seen.lo + (j : Int)) ∧ Aside0 (OM wr b2 n3 D3 ∧ Mf D3 (qL (rdS st k) seen P x c1 j)) ∧ Aside0 (wr.ranges Tryd.prog 3 R_S b r n D left' cnt1) ∧ Aside0 (Bx wr (w.heap.size + 1) #[.int .i64 0, .int .i64 0] 41) ∧ Aside0 (Bx wr B4 #[.slice A st.length c, .slice A2 wg.length c2] 95) ∧ Aside0 (Bx wr B10 #[.int .i64 seen.lo, .int .i64 seen.hi] 100) ∧ Aside0 (Bx wr B12 #[.int .i64 c1.lo, .int .i64 c1.hi] 100) ∧ Aside0 (Bx wr B13 #[.int .i64 p, .int .i64 q] 100) ∧ Aside0 (Up w wr)) (fun v14 _ => (402 - intOf v14).toNat)
        case atStart => exact ⟨0, n2, D2, by omega, by omega, .inl rfl, by simp, ⟨HN6.out.1, by rw [qL_zero]; exact HN6.out.2⟩, HRG6, HB2, HB4, HB10, HB12, HB13, HU6⟩
        case round =>
         clear HN6 HRG6 HB2 HB4 HB10 HB12 HB13 HU6; obtain ⟨j, n3, D3, hn3, hj4, hjq, rfl, hN, hrg, hB2, hB4, hB10, hB12, hB13, hU⟩ := hrel; have hq10 := hB10.out.cell; have hq12 := hB12.out.cell; have hq13 := hB13.out.cell; obtain ⟨v, hv⟩ : ∃ v, v = seen.lo + (j : Int) := ⟨_, rfl⟩; rw [← hv] at hjq ⊢; have HVJ := Aside0.mk hv
         have hv0 : seen.lo ≤ v := by omega
         have hv1 : v ≤ min seen.hi q → j + 1 ≤ 401 := by omega
         clear hv
         by_cases hle : v ≤ min seen.hi q
         ·have hw1 : IntKind.i64.wrap (p - v) = p - v := IntWalk.i64_in _ (by omega)
          have hw2 : IntKind.i64.wrap (c1.lo + max 0 (p - v)) = c1.lo + max 0 (p - v) := IntWalk.i64_in _ (by omega); have hw3 : IntKind.i64.wrap (c1.hi + q) = c1.hi + q := IntWalk.i64_in _ (by omega); have hw4 : IntKind.i64.wrap (c1.hi + q - v) = c1.hi + q - v := IntWalk.i64_in _ (by omega); have hw5 : IntKind.i64.wrap (v + 1) = v + 1 := IntWalk.i64_in _ (by omega); have hj5 : j + 1 ≤ 401 := hv1 hle; have hca := add_ b2 n3 D3 (qL (rdS st k) seen P x c1 j) v ⟨c1.lo + max 0 (p - v), c1.hi + q - v⟩ wr hN.out.1 hN.out.2 (by have := HSZ.out; omega) (wf_small (by omega)); have HQ : Aside0 (upd (qL (rdS st k) seen P x c1 j) v ⟨c1.lo + max 0 (p - v), c1.hi + q - v⟩ = qL (rdS st k) seen P x c1 (j + 1)) := ⟨by rw [HVJ.out, HPQ.out.1, HPQ.out.2]; refine qL_succ ?_; rw [← HPQ.out.2, ← HVJ.out]; exact hle⟩; clear hv1; go_wp2_with fail; refine hca.mono ?_; clear hca hq10 hq12 hq13; rintro e w7 ⟨rfl, ⟨D', hown, hMf⟩, hg⟩; rw [HQ.out] at hMf; have HN7 : Aside0 (OM w7 b2 (n3 + 1) D' ∧ Mf D' (qL (rdS st k) seen P x c1 (j + 1))) := ⟨hown, hMf⟩; have HR7 := Aside0.mk (hrg.out.kept hg (by have := HNE.out; intro e; cases e; omega) (by have := HNE.out; intro e; cases e; omega)); have HB2 := Aside0.mk (bx_map hB2.out hN.out.1 hg); have HB4 := Aside0.mk (bx_map hB4.out hN.out.1 hg); have HB10 := Aside0.mk (bx_map hB10.out hN.out.1 hg); have HB12 := Aside0.mk (bx_map hB12.out hN.out.1 hg); have HB13 := Aside0.mk (bx_map hB13.out hN.out.1 hg); have HU7 := Aside0.mk (up_some hU.out HNE.out.2.2.2.1 hg); clear hown hMf hg; go_wp2_with fail
          go_roundw
          case rel => exact ⟨j + 1, n3 + 1, D', by omega, by omega, .inr (by have := HVJ.out; omega), by have := HVJ.out; go_num, HN7, HR7, HB2, HB4, HB10, HB12, HB13, HU7⟩
          case measure => have := HVJ.out; simp [intOf]; omega
         ·have HN7 : Aside0 (OM wr b2 n3 D3 ∧ Mf D3 (pL (rdS st k) sp seen M left')) := ⟨hN.out.1, by
           have e1 : pL (rdS st k) sp seen M left' = qL (rdS st k) seen P x c1 j := by
            rw [qL_end (by rw [← HPQ.out.2, ← HVJ.out]; exact hle) (by rw [← HPQ.out.2, ← HVJ.out]; exact hjq)]
            funext v
            exact HP.out v
           rw [e1]
           exact hN.out.2⟩
          have HLE2 := Aside0.mk hrg.out.left_eq; clear hN; go_wp2_with fail
          go_roundw
          case rel => exact ⟨left', cnt1, n3, D3, by omega, hrg, HN7, hB2, hB4, hB10, hU⟩
          case measure => rw [HLE2.out, HLE.out]; exact hlt1
     ·obtain rfl : k = st.length := by omega
      have HOKM := Aside0.mk (msN_ok HOK.out st.length (Nat.le_refl _)); have hso := seenS_ok wg (st.length : Int); have HAL : Aside0 (msAll st wg = fo (fun j => msN st wg st.length ((seenS wg (st.length : Int)).lo + (j : Int))) (spN (seenS wg (st.length : Int)))) := ⟨rfl⟩
      generalize msN st wg st.length = M at *
      generalize seenS wg (st.length : Int) = sp at *
      clear hn
      by_cases hz : Maps.size D = 0
      ·have HZ : Aside0 (msAll st wg = none) := ⟨by rw [HAL.out]; exact fo_none (fun j hj => size_zero hM.out.2 hz _ (wf_small (by unfold spN at hj; omega)))⟩
       have HE2 : Aside0 (msE st wg = 9) := ⟨by rw [msE, if_pos HE.out, if_pos HZ.out]⟩; have HS2 : Aside0 (msS st wg = ⟨0, 0⟩) := ⟨by rw [msS, HE2.out]; rfl⟩
       have hzi : ((Maps.size D : Nat) : Int) = 0 := by omega
       have hq2 := hB2.out.cell; have hf2 := hB2.out.frozen
       go_wp2_with (first | (at_len; refine wpList_len_own _ rfl _ 111 rfl 3 100 Tryd.underlying111 R_S b n D rfl hM.out.1 ?_) | go_in)
       have HB5 := Aside0.mk ((hB2.out.set 0 (.int .i64 0)).set 1 (.int .i64 0)); have HU5 := Aside0.mk ((hU.out.set ⟨w.heap.size + 1, 0, none⟩ (.int .i64 0) (by simp)).set ⟨w.heap.size + 1, 1, none⟩ (.int .i64 0) (by simp)); have hq5 := HB5.out.cell; refine bodyPost_ret (v := .tuple #[.agg #[.int .i64 0, .int .i64 0], .int .i64 9]) ?_ rfl ⟨by rw [HE2.out, HS2.out], HU5.out⟩; clear hq2 hf2; simp [results, Tryd.results29, go_sem, hq5]
      ·have HZ : Aside0 (msAll st wg ≠ none) := ⟨by
        intro h0; rw [HAL.out, fo_isNone] at h0; obtain ⟨x, hx, hh⟩ := own_key hM.out.1 hz; rw [hM.out.2.has x hx] at hh; obtain ⟨s, hs⟩ := Option.isSome_iff_exists.1 hh; obtain ⟨h1, _⟩ := HOKM.out x s hs; have h2 := h0 (x - sp.lo).toNat (by unfold spN; omega); rw [show sp.lo + (((x - sp.lo).toNat : Nat) : Int) = x by omega, hs] at h2
        cases h2⟩
       have HE2 : Aside0 (msE st wg = 0) := ⟨by rw [msE, if_pos HE.out, if_neg HZ.out]⟩; have HS2 : Aside0 (msS st wg = totS (msAll st wg)) := ⟨by rw [msS, HE2.out]; rfl⟩; have hzi : (((Maps.size D : Nat) : Int) == 0) = false := beq_eq_false_iff_ne.2 (by omega); obtain ⟨wo, rfl⟩ : ∃ wo, wo = wr := ⟨_, rfl⟩; have HV1 : Aside0 (Up wo (wo.alloc (.cells #[.int .i64 400, .int .i64 0] 100))) := ⟨(Up.refl wo).alloc _⟩; have HU1' := Aside0.mk (hU.out.then HV1.out); have HB2 := Aside0.mk (hB2.out.up HV1.out); have HB15 : Aside0 (Bx (wo.alloc (.cells #[.int .i64 400, .int .i64 0] 100)) wo.heap.size #[.int .i64 400, .int .i64 0] 100) := ⟨Bx.new wo _ _⟩; have hM3 := hM.out.1.alloc (.cells #[.int .i64 400, .int .i64 0] 100)
       have hrz : (wo.alloc (.cells #[.int .i64 400, .int .i64 0] 100)).heap.size = wo.heap.size + 1 := by simp
       go_wp2_with (first | (at_len; refine wpList_len_own _ rfl _ 111 rfl 3 100 Tryd.underlying111 R_S b n D rfl hM.out.1 ?_) | (at_range; refine wpList_range_own _ rfl _ 111 rfl 3 100 kInt Tryd.underlying111 R_S b n D rfl hM3 ?_; intro w0 hrg0 hg0 hs0) | go_in)
       (try go_frame)
       rw [hrz] at hrg0 hs0 ⊢; obtain ⟨r, hrr⟩ : ∃ r, r = wo.heap.size + 1 := ⟨_, rfl⟩; rw [← hrr] at hrg0 hs0 ⊢; obtain ⟨B15, hB15⟩ : ∃ b, b = wo.heap.size := ⟨_, rfl⟩; rw [← hB15] at HB15 ⊢; have HRG : Aside0 (w0.ranges Tryd.prog 3 R_S b r n D (Maps.has D) (Maps.size D)) := ⟨hrg0⟩; have HB2 := Aside0.mk (bx_none HB2.out hg0); have HB15 := Aside0.mk (bx_none HB15.out hg0); have HU0' := Aside0.mk (up_none HU1'.out hg0); have HNE : Aside0 (w.heap.size ≤ r ∧ r ≠ b ∧ w.heap.size ≤ B15 ∧ B15 ≠ b ∧ B15 ≠ w.heap.size + 1) := ⟨by have := hU.out.le; omega, by have := hM.out.1.lt; omega, by have := hU.out.le; omega, by have := hM.out.1.lt; omega, by have := hB2.out.lt; omega⟩; have HNE2 : Aside0 (r ≠ B15) := ⟨by omega⟩; have HMf := Aside0.mk hM.out.2; have HP0 : Aside0 (tL sp M (Maps.has D) = none) := ⟨tL_start (fun j hj => hM.out.2.has _ (wf_small (by unfold spN at hj; omega)))⟩; clear hrg0 hg0 hs0 hrr hB15 hM hB2 hB4 hU hM3 hrz HV1 HU1' hz hzi; go_loopw [17] (fun _ wr => ∃ (left : Lit → Bool) (cnt : Nat), Aside0 (wr.ranges Tryd.prog 3 R_S b r n D left cnt) ∧ Aside0 (Bx wr (w.heap.size + 1) #[.int .i64 0, .int .i64 0] 41) ∧ Aside0 (Bx wr B15 #[.int .i64 (totS (tL sp M left)).lo, .int .i64 (totS (tL sp M left)).hi] 100) ∧ Aside0 (Up w wr)) (fun _ wr => wr.rangeLeft b r)
       case atStart => exact ⟨_, _, HRG, HB2, ⟨by rw [HP0.out]; exact HB15.out⟩, HU0'⟩
       case round =>
        clear HRG HP0 HB2 HB15 HU0'; obtain ⟨left, cnt, hrg, hB2, hB15, hU⟩ := hrel; obtain ⟨wp, rfl⟩ : ∃ wp, wp = wr := ⟨_, rfl⟩
        go_wp2_with (first | (at_next; refine wpList_next_ranges _ rfl _ rfl 3 kInt R_S (Value.int .i64) eS (fun key kl h => by obtain ⟨x, hx, _⟩ := Maps.keyOf_int_inv Tryd.underlying3 h; exact ⟨x, hx⟩) R_S_inv b r n D left cnt rfl hrg.out ?_ ?_) | go_in)
        ·intro hc0 hl0
         have HT : Aside0 (tL sp M left = msAll st wg) := ⟨by rw [HAL.out]; exact tL_end hl0⟩; rw [HT.out] at hB15; have hq15 := hB15.out.cell; obtain ⟨u, hu⟩ : ∃ u, u = totS (msAll st wg) := ⟨_, rfl⟩; rw [← hu] at hq15 HS2; clear hc0 hl0 hu hrg; go_wp2_with fail; refine (span_ u _).mono ?_; clear hq15; rintro e w6 ⟨rfl, hb⟩; have HU6 := Aside0.mk (hU.out.then hb); have HB6 := Aside0.mk (hB2.out.up hb); have hq2 := HB6.out.cell; have hf2 := HB6.out.frozen; clear hb hB15; go_wp2_with fail; have HB5 := Aside0.mk ((HB6.out.set 0 (.int .i64 u.lo)).set 1 (.int .i64 u.hi)); have HU5 := Aside0.mk ((HU6.out.set ⟨w.heap.size + 1, 0, none⟩ (.int .i64 u.lo) (by simp)).set ⟨w.heap.size + 1, 1, none⟩ (.int .i64 u.hi) (by simp)); have hq5 := HB5.out.cell; refine bodyPost_ret (v := .tuple #[.agg #[.int .i64 u.lo, .int .i64 u.hi], .int .i64 0]) ?_ rfl ⟨by rw [HE2.out, HS2.out], HU5.out⟩; clear hq2 hf2; simp [results, Tryd.results29, go_sem, hq5]
        ·intro x c1 kl y1 y2 w1' cnt1 hkey hlk hv hat hrg1 hlt1 hg1 hs1 hen
         obtain ⟨x', ex, rfl, hwx⟩ := Maps.keyOf_int_inv Tryd.underlying3 hkey
         cases ex
         have hMx := entry_is HMf.out hwx hv hat; obtain ⟨hxr, _⟩ := HOKM.out x c1 hMx; have hen2 : (Instr.entry (.pointer (some ⟨r, 0, none⟩))).run Tryd.prog w1' = .ok (.tuple #[.int .i64 x, .agg #[.int .i64 c1.lo, .int .i64 c1.hi]]) w1' := hen; obtain ⟨left', hleft⟩ : ∃ l : Lit → Bool, l = (fun z => left z && !z.sameKey (.int .i64 x)) := ⟨_, rfl⟩; have HT : Aside0 (totS (tL sp M left') = ⟨min (totS (tL sp M left)).lo c1.lo, max (totS (tL sp M left)).hi c1.hi⟩) := ⟨by rw [hleft, tL_step hwx hxr.1 hxr.2 hlk, hMx, totS_mo]⟩; rw [← hleft] at hrg1; have HB2a := Aside0.mk (bx_iter hB2.out hrg.out hg1); have HB15a := Aside0.mk (bx_iter hB15.out hrg.out hg1); have HUa := Aside0.mk (up_some hU.out HNE.out.1 hg1); have HRGa := Aside0.mk hrg1; have HLE := Aside0.mk hrg.out.left_eq
         generalize totS (tL sp M left) = u at *
         have HV5 : Aside0 (Up w1' (w1'.alloc (.cells #[.int .i64 c1.lo, .int .i64 c1.hi] 100))) := ⟨(Up.refl _).alloc _⟩; have HB17 : Aside0 (Bx (w1'.alloc (.cells #[.int .i64 c1.lo, .int .i64 c1.hi] 100)) w1'.heap.size #[.int .i64 c1.lo, .int .i64 c1.hi] 100) := ⟨Bx.new w1' _ _⟩; have HB15b := Aside0.mk (HB15a.out.up HV5.out); have hq15 := HB15a.out.cell; have hf15 := HB15a.out.frozen; have hq17 := HB17.out.cell; have hfw : B15 < w1'.heap.size := HB15a.out.lt; clear hkey hlk hv hat hrg1 hg1 hs1 hen hwx hMx hleft hB2 hB15 hU hrg; go_wp2_with fail
         go_roundw
         case rel =>
          refine ⟨left', cnt1, ⟨?_⟩, ⟨((HB2a.out.far (by have := HNE.out; omega) _ _).far (by have := HNE.out; omega) _ _).up ((Up.refl _).alloc _)⟩, ⟨by rw [HT.out]; exact ((HB15a.out.set 0 _).set 1 _).up ((Up.refl _).alloc _)⟩, ⟨((HUa.out.set _ _ HNE.out.2.2.1).set _ _ HNE.out.2.2.1).alloc _⟩⟩; exact ((HRGa.out.kept (grown_set B15 0 _) (by have := HNE.out; intro e; cases e; omega) (by have := HNE2.out; intro e; cases e; omega)).kept (grown_set B15 1 _) (by have := HNE.out; intro e; cases e; omega) (by have := HNE2.out; intro e; cases e; omega)).alloc _
         case measure =>
          have h9 := ((HRGa.out.kept (grown_set B15 0 (.int .i64 (min u.lo c1.lo))) (by have := HNE.out; intro e; cases e; omega) (by have := HNE2.out; intro e; cases e; omega)).kept (grown_set B15 1 (.int .i64 (max u.hi c1.hi))) (by have := HNE.out; intro e; cases e; omega) (by have := HNE2.out; intro e; cases e; omega)).alloc (.cells #[.int .i64 c1.lo, .int .i64 c1.hi] 100); rw [h9.left_eq, HLE.out]; exact hlt1
 ·have hd : (roadE st wg != 0) = true := by simp [he]
  have HE2 : Aside0 (msE st wg = roadE st wg) := ⟨by simp [msE, he]⟩; have HS2 : Aside0 (msS st wg = ⟨0, 0⟩) := ⟨by simp [msS, HE2.out, he]⟩; clear he hbe; have hq2 := HB3.out.cell; have hf2 := HB3.out.frozen
  go_wp2_with fail
  have HB5 := Aside0.mk ((HB3.out.set 0 (.int .i64 0)).set 1 (.int .i64 0)); have HU5 := Aside0.mk ((HU1.out.set ⟨w.heap.size + 1, 0, none⟩ (.int .i64 0) (by simp)).set ⟨w.heap.size + 1, 1, none⟩ (.int .i64 0) (by simp)); have hq5 := HB5.out.cell; refine bodyPost_ret (v := .tuple #[.agg #[.int .i64 0, .int .i64 0], .int .i64 (roadE st wg)]) ?_ rfl ⟨by rw [HE2.out, HS2.out], HU5.out⟩; clear hq2 hf2; simp [results, Tryd.results29, go_sem, hq5]
end Go.Proofs.YtemingmeidmjkaaDoor.Q
namespace Go.Proofs.YtemingmeidmjkaaDoor.Q
open Go.RowKit Go.Proofs.YtemingmeidmjkaaDoorW.PrintWords Go.Proofs.YtemingmeidmjkaaDoorW.PrintLast Go.Proofs.YtemingmeidmjkaaDoorW.PrintMore
attribute [local go_sem] max2_int min2_int max_two min_two max_three min_three max_four min_four   -- for this text's walks alone
set_option linter.unusedVariables false
set_option linter.unusedSimpArgs false
theorem eqA41 (d : Nat) (w : World) (x0 y0 : Int) (x1 y1 : Int) :
  (Op.equalIn (d + 2) 41 (.agg #[.int .i64 x0, .int .i64 x1]) (.agg #[.int .i64 y0, .int .i64 y1])).run Tryd.prog w = .ok (x0 == y0 && (x1 == y1)) w := by
 refine eqA_of Tryd.underlying41 sqF ?_; refine eqf_cons (by rfl) (by go_simp; rfl) (by go_simp; rfl) (by go_simp) ?_; exact eqf_last (by rfl) (by go_simp; rfl) (by go_simp; rfl) (by go_simp)
end Go.Proofs.YtemingmeidmjkaaDoor.Q
namespace Go.Proofs.YtemingmeidmjkaaDoor.Q
open Go.RowKit Go.Proofs.YtemingmeidmjkaaDoorW.PrintWords Go.Proofs.YtemingmeidmjkaaDoorW.PrintLast Go.Proofs.YtemingmeidmjkaaDoorW.PrintMore
attribute [local go_sem] max2_int min2_int max_two min_two max_three min_three max_four min_four   -- for this text's walks alone
set_option linter.unusedVariables false
set_option linter.unusedSimpArgs false
attribute [local go_sem high] eqA41
def rf_Spans.l0 : Nat → List (S41) → List (S41) → Int → Option (Bool)
 | 0, _, _, _ => none
 | k + 1, x0, x1, x5 => if x5 < (x0.length : Int) then (if 0 ≤ x5 then (if x5 < (x1.length : Int) then (if (!(((rd_T41 x0 x5).f0) == ((rd_T41 x1 x5).f0)) || (!(((rd_T41 x0 x5).f1) == ((rd_T41 x1 x5).f1)))) = true then (some false) else (rf_Spans.l0 k x0 x1 (wrap64 (x5 + 1)))) else (none)) else (none)) else (some true)
def rf_Spans.f (k : Nat) (l0 : List (S41)) (l1 : List (S41)) : Option (Bool) := if (l0.length : Int) = (l1.length : Int) then (rf_Spans.l0 k l0 l1 0) else (some false)
set_option maxHeartbeats 8000000 in
set_option maxRecDepth 100000 in
theorem rf_Spans.calls (k : Nat) (A0 : Option Addr) (c0 : Nat) (l0 : List (S41)) (A1 : Option Addr) (c1 : Nat) (l1 : List (S41)) (r : Bool) (w : World) (hr0 : Kd.C k41 w A0 l0.length l0) (hc0 : l0.length ≤ c0) (hr1 : Kd.C k41 w A1 l1.length l1) (hc1 : l1.length ≤ c1) (h : rf_Spans.f k l0 l1 = some r) :
  Calls Tryd.prog 26 #[.slice A0 l0.length c0, .slice A1 l1.length c1] w fun e w' => e = .returned (.bool r) ∧ Drawn0 w w' := by
 have hu41 := Tryd.underlying41; have HR0 := Aside0.mk hr0; have HC0 := Aside0.mk hc0; clear hr0 hc0; have HR1 := Aside0.mk hr1; have HC1 := Aside0.mk hc1; clear hr1 hc1; have H : (if (l0.length : Int) = (l1.length : Int) then (rf_Spans.l0 k l0 l1 0) else (some false)) = some r := h; clear h
 by_cases c3 : (l0.length : Int) = (l1.length : Int)
 ·rw [if_pos c3] at H
  have c3b0 : ((l0.length : Int) == (l1.length : Int)) = true := beq_iff_eq.mpr c3; have c3b1 : ((l0.length : Int) != (l1.length : Int)) = false := bne_eq_false_iff_eq.mpr c3
  have c3b2 : (l0.length == l1.length) = true := by first | simpa using c3 | (simp at c3 ⊢; omega)
  clear c3; have H' := Aside0.mk H; clear H; go_enter Tryd.func26, Tryd.ntmps26
  go_wp2
  repeat (go_quiet (fail); try go_wp2)
  go_loopg [5] k (fun kq v5 w' => ∃ (x5_1 : Int), v5 = .int .i64 x5_1 ∧ Aside0 (rf_Spans.l0 kq l0 l1 x5_1 = some r) ∧ Aside0 (kq ≤ k) ∧ Drawn0 w w')
  case atStart => exact ⟨(0), sqE, H', ⟨Nat.le_refl _⟩, by repeat (first | exact Drawn0.refl _ | apply Drawn0.step)⟩
  case round =>
   clear H'; try clear c1
   (try clear c3b0); (try clear c3b1); (try clear c3b2); obtain ⟨x5_1, rfl, HA, HK1, ⟨m1, rfl⟩⟩ := hrel
   cases gk with
   | zero => exact absurd HA.out (by simp [rf_Spans.l0])
   | succ k1 =>
    have H := HA.out; clear HA; simp only [rf_Spans.l0] at H
    by_cases c4 : x5_1 < (l0.length : Int)
    ·rw [if_pos c4] at H
     have c4b0 : decide (x5_1 < (l0.length : Int)) = true := decide_eq_true c4; clear c4
     by_cases c5 : 0 ≤ x5_1
     ·rw [if_pos c5] at H
      have c5b0 : decide (0 ≤ x5_1) = true := decide_eq_true c5; clear c5
      by_cases c6 : x5_1 < (l1.length : Int)
      ·rw [if_pos c6] at H
       have c6b0 : decide (x5_1 < (l1.length : Int)) = true := decide_eq_true c6; clear c6
       by_cases c7 : (!(((rd_T41 l0 x5_1).f0) == ((rd_T41 l1 x5_1).f0)) || (!(((rd_T41 l0 x5_1).f1) == ((rd_T41 l1 x5_1).f1)))) = true
       ·rw [if_pos c7] at H
        have c7b0 : (!(((rd_T41 l0 x5_1).f0) == ((rd_T41 l1 x5_1).f0)) || (!(((rd_T41 l0 x5_1).f1) == ((rd_T41 l1 x5_1).f1)))) = true := c7; clear c7; obtain rfl := Option.some.inj H; have p176 : 0 ≤ (x5_1 : Int) := sqD; have q176 : x5_1 < (l0.length : Int) := sqD; obtain ⟨ad176, e176, hx176_0, hx176_1⟩ := at_T41 HR0.out x5_1 p176 q176
        cases e176
        replace p176 := eq_true p176; replace q176 := eq_true q176; have p177 : 0 ≤ (x5_1 : Int) := sqD; have q177 : x5_1 < (l1.length : Int) := sqD; obtain ⟨ad177, e177, hx177_0, hx177_1⟩ := at_T41 HR1.out x5_1 p177 q177
        cases e177
        replace p177 := eq_true p177; replace q177 := eq_true q177
        go_wp2
        repeat (go_quiet (fail); try go_wp2)
        go_ret
        exact ⟨by first | rfl | (simp; done) | (simp [*]; done), by repeat (first | exact Drawn0.refl _ | apply Drawn0.step)⟩
       ·rw [if_neg c7] at H
        have c7b0 : (!(((rd_T41 l0 x5_1).f0) == ((rd_T41 l1 x5_1).f0)) || (!(((rd_T41 l0 x5_1).f1) == ((rd_T41 l1 x5_1).f1)))) = false := by simpa using c7
        clear c7; have H' := Aside0.mk H; clear H; have p176 : 0 ≤ (x5_1 : Int) := sqD; have q176 : x5_1 < (l0.length : Int) := sqD; obtain ⟨ad176, e176, hx176_0, hx176_1⟩ := at_T41 HR0.out x5_1 p176 q176
        cases e176
        replace p176 := eq_true p176; replace q176 := eq_true q176; have p177 : 0 ≤ (x5_1 : Int) := sqD; have q177 : x5_1 < (l1.length : Int) := sqD; obtain ⟨ad177, e177, hx177_0, hx177_1⟩ := at_T41 HR1.out x5_1 p177 q177
        cases e177
        replace p177 := eq_true p177; replace q177 := eq_true q177
        go_wp2
        repeat (go_quiet (fail); try go_wp2)
        go_roundg k1
        case measure => have := HK1.out; omega
        case rel => exact ⟨(wrap64 (x5_1 + 1)), sqE, H', ⟨by have := HK1.out; omega⟩, by repeat (first | exact Drawn0.refl _ | apply Drawn0.step)⟩
      ·rw [if_neg c6] at H
       exact absurd H (by simp)
     ·rw [if_neg c5] at H
      exact absurd H (by simp)
    ·rw [if_neg c4] at H
     have c4b0 : decide (x5_1 < (l0.length : Int)) = false := decide_eq_false c4; clear c4; obtain rfl := Option.some.inj H
     go_wp2
     repeat (go_quiet (fail); try go_wp2)
     go_ret
     exact ⟨by first | rfl | (simp; done) | (simp [*]; done), by repeat (first | exact Drawn0.refl _ | apply Drawn0.step)⟩
 ·rw [if_neg c3] at H
  have c3b0 : ((l0.length : Int) == (l1.length : Int)) = false := beq_eq_false_iff_ne.mpr c3; have c3b1 : ((l0.length : Int) != (l1.length : Int)) = true := bne_iff_ne.mpr c3
  have c3b2 : (l0.length == l1.length) = false := by first | simpa using c3 | (simp at c3 ⊢; omega)
  obtain rfl := Option.some.inj H
  go_enter Tryd.func26, Tryd.ntmps26
  go_wp2
  repeat (go_quiet (fail); try go_wp2)
  go_ret
  exact ⟨by first | rfl | (simp; done) | (simp [*]; done), by repeat (first | exact Drawn0.refl _ | apply Drawn0.step)⟩
end Go.Proofs.YtemingmeidmjkaaDoor.Q
namespace Go.Proofs.YtemingmeidmjkaaDoor.Q
open Go.RowKit Go.Proofs.YtemingmeidmjkaaDoorW.PrintWords Go.Proofs.YtemingmeidmjkaaDoorW.PrintLast Go.Proofs.YtemingmeidmjkaaDoorW.PrintMore
attribute [local go_sem] max2_int min2_int max_two min_two max_three min_three max_four min_four   -- for this text's walks alone
set_option linter.unusedVariables false
set_option linter.unusedSimpArgs false
def rf_Ints.l0 : Nat → List Int → List Int → Int → Option (Bool)
 | 0, _, _, _ => none
 | k + 1, x0, x1, x5 => if x5 < (x0.length : Int) then (if 0 ≤ x5 then (if x5 < (x1.length : Int) then (if (rd x0 x5) = (rd x1 x5) then (rf_Ints.l0 k x0 x1 (wrap64 (x5 + 1))) else (some false)) else (none)) else (none)) else (some true)
def rf_Ints.f (k : Nat) (l0 : List Int) (l1 : List Int) : Option (Bool) := if (l0.length : Int) = (l1.length : Int) then (rf_Ints.l0 k l0 l1 0) else (some false)
set_option maxHeartbeats 8000000 in
set_option maxRecDepth 100000 in
theorem rf_Ints.calls (k : Nat) (A0 : Option Addr) (c0 : Nat) (l0 : List Int) (A1 : Option Addr) (c1 : Nat) (l1 : List Int) (r : Bool) (w : World) (hr0 : Kd.C (Kd.int .i64) w A0 l0.length l0) (hc0 : l0.length ≤ c0) (hr1 : Kd.C (Kd.int .i64) w A1 l1.length l1) (hc1 : l1.length ≤ c1) (h : rf_Ints.f k l0 l1 = some r) :
  Calls Tryd.prog 34 #[.slice A0 l0.length c0, .slice A1 l1.length c1] w fun e w' => e = .returned (.bool r) ∧ Drawn0 w w' := by
 have HR0 := Aside0.mk hr0; have HC0 := Aside0.mk hc0; clear hr0 hc0; have HR1 := Aside0.mk hr1; have HC1 := Aside0.mk hc1; clear hr1 hc1; have H : (if (l0.length : Int) = (l1.length : Int) then (rf_Ints.l0 k l0 l1 0) else (some false)) = some r := h; clear h
 by_cases c3 : (l0.length : Int) = (l1.length : Int)
 ·rw [if_pos c3] at H
  have c3b0 : ((l0.length : Int) == (l1.length : Int)) = true := beq_iff_eq.mpr c3; have c3b1 : ((l0.length : Int) != (l1.length : Int)) = false := bne_eq_false_iff_eq.mpr c3
  have c3b2 : (l0.length == l1.length) = true := by first | simpa using c3 | (simp at c3 ⊢; omega)
  clear c3; have H' := Aside0.mk H; clear H; go_enter Tryd.func34, Tryd.ntmps34
  go_wp2
  repeat (go_quiet (fail); try go_wp2)
  go_loopg [5] k (fun kq v5 w' => ∃ (x5_1 : Int), v5 = .int .i64 x5_1 ∧ Aside0 (rf_Ints.l0 kq l0 l1 x5_1 = some r) ∧ Aside0 (kq ≤ k) ∧ Drawn0 w w')
  case atStart => exact ⟨(0), sqE, H', ⟨Nat.le_refl _⟩, by repeat (first | exact Drawn0.refl _ | apply Drawn0.step)⟩
  case round =>
   clear H'; try clear c1
   (try clear c3b0); (try clear c3b1); (try clear c3b2); obtain ⟨x5_1, rfl, HA, HK1, ⟨m1, rfl⟩⟩ := hrel
   cases gk with
   | zero => exact absurd HA.out (by simp [rf_Ints.l0])
   | succ k1 =>
    have H := HA.out; clear HA; simp only [rf_Ints.l0] at H
    by_cases c4 : x5_1 < (l0.length : Int)
    ·rw [if_pos c4] at H
     have c4b0 : decide (x5_1 < (l0.length : Int)) = true := decide_eq_true c4; clear c4
     by_cases c5 : 0 ≤ x5_1
     ·rw [if_pos c5] at H
      have c5b0 : decide (0 ≤ x5_1) = true := decide_eq_true c5; clear c5
      by_cases c6 : x5_1 < (l1.length : Int)
      ·rw [if_pos c6] at H
       have c6b0 : decide (x5_1 < (l1.length : Int)) = true := decide_eq_true c6; clear c6
       by_cases c7 : (rd l0 x5_1) = (rd l1 x5_1)
       ·rw [if_pos c7] at H
        have c7b0 : ((rd l0 x5_1) == (rd l1 x5_1)) = true := beq_iff_eq.mpr c7; have c7b1 : ((rd l0 x5_1) != (rd l1 x5_1)) = false := bne_eq_false_iff_eq.mpr c7; clear c7; have H' := Aside0.mk H; clear H; have p398 : 0 ≤ (x5_1 : Int) := sqD; have q398 : x5_1 < (l0.length : Int) := sqD; obtain ⟨ad398, e398, hx398_0⟩ := Kd.at_int HR0.out x5_1 p398 q398
        cases e398
        replace p398 := eq_true p398; replace q398 := eq_true q398; have p399 : 0 ≤ (x5_1 : Int) := sqD; have q399 : x5_1 < (l1.length : Int) := sqD; obtain ⟨ad399, e399, hx399_0⟩ := Kd.at_int HR1.out x5_1 p399 q399
        cases e399
        replace p399 := eq_true p399; replace q399 := eq_true q399
        go_wp2
        repeat (go_quiet (fail); try go_wp2)
        go_roundg k1
        case measure => have := HK1.out; omega
        case rel => exact ⟨(wrap64 (x5_1 + 1)), sqE, H', ⟨by have := HK1.out; omega⟩, by repeat (first | exact Drawn0.refl _ | apply Drawn0.step)⟩
       ·rw [if_neg c7] at H
        have c7b0 : ((rd l0 x5_1) == (rd l1 x5_1)) = false := beq_eq_false_iff_ne.mpr c7; have c7b1 : ((rd l0 x5_1) != (rd l1 x5_1)) = true := bne_iff_ne.mpr c7; obtain rfl := Option.some.inj H; have p398 : 0 ≤ (x5_1 : Int) := sqD; have q398 : x5_1 < (l0.length : Int) := sqD; obtain ⟨ad398, e398, hx398_0⟩ := Kd.at_int HR0.out x5_1 p398 q398
        cases e398
        replace p398 := eq_true p398; replace q398 := eq_true q398; have p399 : 0 ≤ (x5_1 : Int) := sqD; have q399 : x5_1 < (l1.length : Int) := sqD; obtain ⟨ad399, e399, hx399_0⟩ := Kd.at_int HR1.out x5_1 p399 q399
        cases e399
        replace p399 := eq_true p399; replace q399 := eq_true q399
        go_wp2
        repeat (go_quiet (fail); try go_wp2)
        go_ret
        exact ⟨by first | rfl | (simp; done) | (simp [*]; done), by repeat (first | exact Drawn0.refl _ | apply Drawn0.step)⟩
      ·rw [if_neg c6] at H
       exact absurd H (by simp)
     ·rw [if_neg c5] at H
      exact absurd H (by simp)
    ·rw [if_neg c4] at H
     have c4b0 : decide (x5_1 < (l0.length : Int)) = false := decide_eq_false c4; clear c4; obtain rfl := Option.some.inj H
     go_wp2
     repeat (go_quiet (fail); try go_wp2)
     go_ret
     exact ⟨by first | rfl | (simp; done) | (simp [*]; done), by repeat (first | exact Drawn0.refl _ | apply Drawn0.step)⟩
 ·rw [if_neg c3] at H
  have c3b0 : ((l0.length : Int) == (l1.length : Int)) = false := beq_eq_false_iff_ne.mpr c3; have c3b1 : ((l0.length : Int) != (l1.length : Int)) = true := bne_iff_ne.mpr c3
  have c3b2 : (l0.length == l1.length) = false := by first | simpa using c3 | (simp at c3 ⊢; omega)
  obtain rfl := Option.some.inj H
  go_enter Tryd.func34, Tryd.ntmps34
  go_wp2
  repeat (go_quiet (fail); try go_wp2)
  go_ret
  exact ⟨by first | rfl | (simp; done) | (simp [*]; done), by repeat (first | exact Drawn0.refl _ | apply Drawn0.step)⟩
end Go.Proofs.YtemingmeidmjkaaDoor.Q
namespace Go.Proofs.YtemingmeidmjkaaDoor.Q
open Go.RowKit Go.Shelf Go.Proofs.YtemingmeidmjkaaDoorW.PrintWords Go.Proofs.YtemingmeidmjkaaDoorW.PrintLast
set_option linter.unusedVariables false
set_option linter.unusedSimpArgs false
theorem C_newK {α : Type} (d : Kd α) (enc : α → List Value) (hK : ∀ w x, d.K w x (enc x)) (hl : ∀ x, (enc x).length = d.sz) (w : World) (T : TypeId) (xs : List α) (cs : Array Value) (n b : Nat) (hb : b = w.heap.size) (hcs : cs = (xs.flatMap enc).toArray) (hn : n = xs.length) (hm : xs.length ≤ 9223372036854775807) :
  Kd.C d (w.alloc (.cells cs T)) (some ⟨b, 0, none⟩) n xs := by
 subst hcs hn hb; refine ⟨rfl, hm, fun hp => ⟨_, rfl, fun j x hj => ⟨enc x, hl x, hK _ x, fun i u hu => ?_⟩⟩⟩
 have hi : i < d.sz := by rw [← hl x]; exact (List.getElem?_eq_some_iff.1 hu).1
 rw [add_plain, (Bx.new w _ T).cell, List.getElem?_toArray, flat_get enc d.sz hl xs j x i hj hi]; exact hu
def encWg (x : Wg) : List Value := [.int .i64 x.p, .int .i64 x.r, .int .i64 x.o]
def encSp (x : Sp) : List Value := [.int .i64 x.lo, .int .i64 x.hi]
def encInt (x : Int) : List Value := [.int .i64 x]
theorem kspan_ (a b : Int) (w : World) : Calls Tryd.prog 52 #[.int .i64 a, .int .i64 b] w fun e w' => e = .returned (.agg #[.int .i64 a, .int .i64 b]) ∧ Up w w' := by
 go_enter Tryd.func52, Tryd.ntmps52
 go_wp2_with fail
 refine bodyPost_ret (v := .agg #[.int .i64 a, .int .i64 b]) ?_ rfl ⟨rfl, upA⟩
 simp [results, Tryd.results52, go_sem]
theorem own_C_Wg2 {w : World} {base e : Nat} {v : Value} {xs : List Wg} (h : w.ownsRow base e 3 v xs.length (cellsW xs)) (hm : xs.length ≤ 9223372036854775807) : ∃ A c, v = .slice A xs.length c ∧ xs.length ≤ c ∧ Kd.C kWg w A xs.length xs :=
 own_Kd kWg encWg (fun w x => kWg_mk w x) (fun _ => rfl) h hm
def exSt : List Sp := [⟨100, 200⟩, ⟨0, 50⟩]
def exWg (last : Int) (more : List Wg) : List Wg := [⟨0, 200, 2⟩, ⟨2, last, 1⟩] ++ more
set_option maxRecDepth 100000 in
theorem kroad_ (last : Int) (more : List Wg) (A : Option Addr) (m c : Nat) (w : World) (hr : Kd.C kWg w A m more) (hm : m ≤ 1) :
  Calls Tryd.prog 54 #[.int .i64 last, .slice A m c] w fun e w' => ∃ A1 A2 c2, e = .returned (.agg #[.slice A1 2 2, .slice A2 (2 + m) c2]) ∧ Kd.C kSp w' A1 2 exSt ∧ Kd.C kWg w' A2 (2 + m) (exWg last more) ∧ 2 + m ≤ c2 ∧ Up w w' := by
 have HR := Aside0.mk hr; have hml : m = more.length := hr.1.symm; have HML := Aside0.mk hml; clear hr hml; have HB4 : Aside0 (Bx (w.alloc (.cells #[.slice none 0 0, .slice none 0 0] 25)) w.heap.size #[.slice none 0 0, .slice none 0 0] 25) := ⟨Bx.new w _ _⟩; have HU0 : Aside0 (Up w (w.alloc (.cells #[.slice none 0 0, .slice none 0 0] 25))) := ⟨upA⟩
 go_enter Tryd.func54, Tryd.ntmps54
 go_wp2_with fail
 refine (kspan_ 100 200 _).mono ?_; rintro e w1 ⟨rfl, hb⟩; have HU1 := Aside0.mk (HU0.out.then hb); have HB1 := Aside0.mk (HB4.out.up hb); clear hb; go_wp2_with fail; refine (kspan_ 0 50 _).mono ?_; rintro e w2 ⟨rfl, hb⟩; have HU2 := Aside0.mk (HU1.out.then hb); have HB2 := Aside0.mk (HB1.out.up hb); clear hb; obtain ⟨W3, hW3⟩ : ∃ W, W = ((w2.alloc (.cells #[.int .i64 100, .int .i64 200, .int .i64 0, .int .i64 50] 41)).alloc (.cells #[.int .i64 0, .int .i64 200, .int .i64 2, .int .i64 2, .int .i64 last, .int .i64 1] 80)) := ⟨_, rfl⟩; have HV3 : Aside0 (Up w2 W3) := ⟨by rw [hW3]; exact ((Up.refl w2).alloc _).alloc _⟩; have HU3 := Aside0.mk (HU2.out.then HV3.out); have HB3 := Aside0.mk (HB2.out.up HV3.out); have HOS : Aside0 (W3.ownsRow w.heap.size 41 2 (.slice (some ⟨w2.heap.size, 0, none⟩) 2 2) 2 (cellsS exSt)) := ⟨by rw [hW3]; exact own_up (World.ownsRow_lit w2 _ 2 HU2.out.le (by decide) rfl) ((Up.refl _).alloc _)⟩
 have HOW : Aside0 (W3.ownsRow w.heap.size 80 3 (.slice (some ⟨w2.heap.size + 1, 0, none⟩) 2 2) 2 (cellsW [⟨0, 200, 2⟩, ⟨2, last, 1⟩])) := ⟨by
  rw [hW3]; have h9 := World.ownsRow_lit (e := 80) (size := 3) (base := w.heap.size) (w2.alloc (.cells #[.int .i64 100, .int .i64 200, .int .i64 0, .int .i64 50] 41)) #[.int .i64 0, .int .i64 200, .int .i64 2, .int .i64 2, .int .i64 last, .int .i64 1] 2 (Nat.le_trans HU2.out.le (by simp)) (by decide) rfl
  simpa [cellsW] using h9⟩
 have HRC : Aside0 (0 < m → ∃ ad', A = some ad' ∧ ∀ j u, (cellsW more)[j]? = some u → W3.cell? (ad'.add j) = some u) := ⟨fun h0 => by
  have h9 := cells_Kd kWg encWg (fun w x cs h => by rw [kWg_open h]; rfl) (fun _ => rfl) (by decide) (show Kd.C kWg W3 A more.length more from HML.out ▸ C_up HR.out HU3.out) (by have := HML.out; omega)
  exact h9⟩
 have HC1 : Aside0 (∀ u ∈ cellsW more, u.oneCell' = true) := ⟨flat_mem encWg (fun x u hu => by simp [encWg] at hu; rcases hu with rfl | rfl | rfl <;> rfl) more⟩; have HLN : Aside0 ((cellsW more).length = m * 3) := ⟨by have h9 := flat_len encWg 3 (fun _ => rfl) more; rw [HML.out]; exact h9⟩; have hb4 := HB3.out.cell; have hf4 := HB3.out.frozen; have hOW := HOW.out; have hRC := HRC.out; rw [hW3] at hOW hRC; have HOW' := Aside0.mk hOW; have HRC' := Aside0.mk hRC; have HSZ : Aside0 (w.heap.size ≤ ((w2.alloc (.cells #[.int .i64 100, .int .i64 200, .int .i64 0, .int .i64 50] 41)).alloc (.cells #[.int .i64 0, .int .i64 200, .int .i64 2, .int .i64 2, .int .i64 last, .int .i64 1] 80)).heap.size) := ⟨by have := HU2.out.le; simp; omega⟩; clear hOW hRC hb4 hf4; go_wp2_with (at_builtin; refine append_all w.heap.size rfl _ _ 23 80 (.agg #[.int .i64 0, .int .i64 0, .int .i64 0]) 3 24 rfl Tryd.underlying23 info_wg rfl (by decide) (by decide) _ 2 (cellsW [⟨0, 200, 2⟩, ⟨2, last, 1⟩]) (cellsW more) A m c rfl rfl HOW'.out HLN.out HRC'.out HC1.out HSZ.out ?qa5 ?_)
 case qa5 => omega
 intro v3 w3 hown hgrow; rw [← hW3] at hgrow; have HU4 := Aside0.mk (HU3.out.grown HOW.out (Nat.le_refl _) hgrow); have HB4 := Aside0.mk (HB3.out.grown HOW.out (by decide) hgrow); have HS4 := Aside0.mk (own_grown HOS.out HOW.out (by decide) hgrow); have HO4 := Aside0.mk hown; obtain ⟨A4, c4, rfl, hc4, _⟩ := ownF_slice hown; clear hown hgrow hW3; have hb4 := HB4.out.cell; have hf4 := HB4.out.frozen
 go_wp2_with fail
 have HU5 := Aside0.mk ((HU4.out.set ⟨w.heap.size, 0, none⟩ (.slice (some ⟨w2.heap.size, 0, none⟩) 2 2) (by simp)).set ⟨w.heap.size, 1, none⟩ (.slice A4 (2 + m) c4) (by simp)); have HB5 := Aside0.mk ((HB4.out.set 0 (.slice (some ⟨w2.heap.size, 0, none⟩) 2 2)).set 1 (.slice A4 (2 + m) c4)); have HS5 := Aside0.mk (own_far (own_far HS4.out HB4.out (by decide) 0 (.slice (some ⟨w2.heap.size, 0, none⟩) 2 2)) (HB4.out.set 0 (.slice (some ⟨w2.heap.size, 0, none⟩) 2 2)) (by decide) 1 (.slice A4 (2 + m) c4)); have HO5 := Aside0.mk (own_far (own_far HO4.out HB4.out (by decide) 0 (.slice (some ⟨w2.heap.size, 0, none⟩) 2 2)) (HB4.out.set 0 (.slice (some ⟨w2.heap.size, 0, none⟩) 2 2)) (by decide) 1 (.slice A4 (2 + m) c4)); have hq5 := HB5.out.cell; obtain ⟨A6, c6, hv6, hc6, hC6⟩ := own_C_Sp (xs := exSt) HS5.out (by decide)
 cases hv6
 have HO6 : Aside0 (((w3.setCell ⟨w.heap.size, 0, none⟩ (.slice (some ⟨w2.heap.size, 0, none⟩) 2 2)).setCell ⟨w.heap.size, 1, none⟩ (.slice A4 (2 + m) c4)).ownsRow w.heap.size 80 3 (.slice A4 (2 + m) c4) (exWg last more).length (cellsW (exWg last more))) := ⟨by
  have h9 := HO5.out; rw [← cellsW_append] at h9
  have e1 : (exWg last more).length = 2 + m := by rw [HML.out]; simp [exWg]; omega
  rw [e1]
  exact h9⟩
 obtain ⟨A7, c7, hv7, hc7, hC7⟩ := own_C_Wg2 HO6.out (by have := HML.out; simp [exWg]; omega)
 have e1 : (exWg last more).length = 2 + m := by rw [HML.out]; simp [exWg]; omega
 rw [e1] at hv7 hC7
 cases hv7
 refine bodyPost_ret (v := .agg #[.slice (some ⟨w2.heap.size, 0, none⟩) 2 2, .slice A4 (2 + m) c4]) ?_ rfl ⟨_, A4, c4, rfl, hC6, hC7, hc4, HU5.out⟩; clear hb4 hf4; simp [results, Tryd.results54, go_sem, hq5]
end Go.Proofs.YtemingmeidmjkaaDoor.Q
namespace Go.Proofs.YtemingmeidmjkaaDoor.Q
open Go.RowKit Go.Shelf Go.Proofs.YtemingmeidmjkaaDoorW.PrintWords Go.Proofs.YtemingmeidmjkaaDoorW.PrintLast
set_option linter.unusedVariables false
set_option linter.unusedSimpArgs false
attribute [local go_sem] bi_max2 bi_min2 bi_max_two bi_min_two
def flkStep (t s2 x : Sp) (w : Int) : Sp := ⟨min x.lo (w - (andS ⟨loS t w, hiS t w⟩ s2).hi), max x.hi (w - (andS ⟨loS t w, hiS t w⟩ s2).lo)⟩
def flkN (t s s2 : Sp) (n : Nat) : Sp := (List.range n).foldl (fun x (j : Nat) => flkStep t s2 x (s.lo + (j : Int))) ⟨400, 0⟩
def flk (t s s2 : Sp) : Sp := flkN t s s2 (s.hi + 1 - s.lo).toNat
def flocksL (st : List Sp) (wg : List Wg) : List Sp := if ohE st wg = 0 then (List.range st.length).map fun (i : Nat) => flk (rdS st i) (rdS (honL st wg) i) (rdS (honL st wg) ((i + 1 : Nat) : Int)) else []
theorem flkN_succ (t s s2 : Sp) (n : Nat) : flkN t s s2 (n + 1) = flkStep t s2 (flkN t s s2 n) (s.lo + (n : Int)) := by
 simp only [flkN, List.range_succ, List.foldl_append, List.foldl_cons, List.foldl_nil]
def fullS (s : Sp) : Prop := 0 ≤ s.lo ∧ s.lo ≤ s.hi ∧ s.hi ≤ 400
theorem trimLo_ok (st after : Sp) : ∀ (n : Nat) (s : Sp), okS s → okS (trimLo st after n s)
 | 0, s, h => h
 | n + 1, s, h => by
  unfold trimLo
  split
  ·exact h
  ·split
   ·refine trimLo_ok st after n _ ?_
    unfold okS at *
    simp only; omega
   ·exact h
theorem trimHi_ok (st after : Sp) : ∀ (n : Nat) (s : Sp), okS s → okS (trimHi st after n s)
 | 0, s, h => h
 | n + 1, s, h => by
  unfold trimHi
  split
  ·exact h
  ·split
   ·refine trimHi_ok st after n _ ?_
    unfold okS at *
    simp only; omega
   ·exact h
theorem backS_ok (st : Sp) {s after : Sp} (hs : okS s) (ha : okS after) : okS (backS st s after) := by
 unfold backS
 split
 ·exact ha
 ·exact trimHi_ok _ _ _ _ (trimLo_ok _ _ _ _ hs)
theorem goL_ok : ∀ (ts l : List Sp), (∀ s ∈ l, okS s) → ∀ s ∈ goL ts l, okS s
 | [], [], h => by simp [goL]
 | [], s :: l, h => by simpa [goL] using h
 | t :: ts, [], h => by simp [goL]
 | t :: ts, s :: l, h => by
  have ih := goL_ok ts l (fun x hx => h x (by simp [hx])); intro x hx; rw [goL, List.mem_cons] at hx
  rcases hx with rfl | hx
  ·refine backS_ok t (h s (by simp)) ?_
   cases hg : goL ts l with
   | nil => exact .inr ⟨by simp [z_Sp], by simp [z_Sp]⟩
   | cons y ys => exact ih y (by rw [hg]; simp)
  ·exact ih x hx
theorem honL_full {st : List Sp} {wg : List Wg} (h : ohE st wg = 0) : ∀ i : Nat, i ≤ st.length → fullS (rdS (honL st wg) i) := by
 intro i hi
 have h0 : roadE st wg = 0 := by
  unfold ohE at h
  by_cases h1 : roadE st wg = 0
  ·exact h1
  ·rw [if_neg h1] at h; exact absurd h h1
 have h1 : honB st wg = true := by
  unfold ohE at h
  rw [if_pos h0] at h
  cases hb : honB st wg
  ·rw [hb] at h; simp at h
  ·rfl
 have hlt : i < (honL st wg).length := by rw [honL_len]; omega
 rw [rdS_nat _ _ hlt]; have hm := List.getElem_mem hlt; have h2 := goL_ok st (comeL st wg) (comeL_ok (road_ok h0).1) _ hm
 have h3 : ¬ ((honL st wg)[i].lo > (honL st wg)[i].hi) := by
  unfold honB at h1
  simp only [Bool.not_eq_true', List.any_eq_false] at h1; have := h1 _ hm
  simpa [noneB] using this
 unfold okS at h2
 unfold fullS
 omega
set_option maxRecDepth 100000 in
set_option maxHeartbeats 1000000 in
theorem flocks_ (A : Option Addr) (c : Nat) (st : List Sp) (A2 : Option Addr) (c2 : Nat) (wg : List Wg) (w : World) (hG : GL w) (hr : Kd.C kSp w A st.length st) (hc : st.length ≤ c) (hr2 : Kd.C kWg w A2 wg.length wg) (hc2 : wg.length ≤ c2) :
  Calls Tryd.prog 21 #[.agg #[.slice A st.length c, .slice A2 wg.length c2]] w fun e w' => ∃ v, e = .returned (.tuple #[v, .int .i64 (ohE st wg)]) ∧ w'.ownsRow w.heap.size 41 2 v (flocksL st wg).length (cellsS (flocksL st wg)) ∧ Up w w' := by
 have HR := Aside0.mk hr; have HR2 := Aside0.mk hr2; have HGL := Aside0.mk hG; clear hr hr2 hG; have HU0 : Aside0 (Up w (w.alloc (.cells #[.slice A st.length c, .slice A2 wg.length c2] 25))) := ⟨upA⟩; have hcall := openHonest_ A c st A2 c2 wg (w.alloc (.cells #[.slice A st.length c, .slice A2 wg.length c2] 25)) (HGL.out.up HU0.out) (C_up HR.out HU0.out) hc (C_up HR2.out HU0.out) hc2
 by_cases he : ohE st wg = 0
 ·have h0 : roadE st wg = 0 := by
   unfold ohE at he
   by_cases h1 : roadE st wg = 0
   ·exact h1
   ·rw [if_neg h1] at he; exact absurd he h1
  have hok := road_ok h0; have hl5 := hok.2.2.1; have hl1 := hok.2.1
  have hd : (ohE st wg != 0) = false := by simp [he]
  have HOK := Aside0.mk hok.1; have HFU := Aside0.mk (honL_full he); have HFL : Aside0 (flocksL st wg = (List.range st.length).map fun (i : Nat) => flk (rdS st i) (rdS (honL st wg) i) (rdS (honL st wg) ((i + 1 : Nat) : Int))) := ⟨by rw [flocksL, if_pos he]⟩; have HOL : Aside0 (ohL st wg = honL st wg) := ⟨by rw [ohL, if_pos he]⟩; have HE := Aside0.mk he; clear hok h0 he; go_enter Tryd.func21, Tryd.ntmps21
  go_wp2_with fail
  generalize (w.alloc (.cells #[.slice A st.length c, .slice A2 wg.length c2] 25)) = W0 at *
  refine hcall.mono ?_; clear hcall; rintro e w1 ⟨v1, rfl, hown, hb⟩; rw [HOL.out] at hown; obtain ⟨H, hH⟩ : ∃ H, H = honL st wg := ⟨_, rfl⟩
  have hHl : H.length = st.length + 1 := by rw [hH, honL_len]
  have hHl2 : (st.length : Int) < (H.length : Int) := by omega
  have HHL := Aside0.mk hHl; rw [← hH] at hown HFU HFL; have HH := Aside0.mk hH; obtain ⟨g5, c5, rfl, hg5, hc5, _⟩ := Spc.ofOwn hown (by omega); have HU1 := Aside0.mk (HU0.out.then hb); have HC5 := Aside0.mk (own_mono hown HU0.out.le); clear hown hb hH hHl; have HB4 : Aside0 (Bx (w1.alloc (.cells #[.slice A st.length c, .slice A2 wg.length c2] 95)) w1.heap.size #[.slice A st.length c, .slice A2 wg.length c2] 95) := ⟨Bx.new w1 _ _⟩; have HU4 : Aside0 (Up w (w1.alloc (.cells #[.slice A st.length c, .slice A2 wg.length c2] 95))) := ⟨HU1.out.alloc _⟩; have HC4 := Aside0.mk (own_up HC5.out ((Up.refl w1).alloc (.cells #[.slice A st.length c, .slice A2 wg.length c2] 95)))
  go_wp2_with fail
  obtain ⟨B4, hB4⟩ : ∃ B, B = w1.heap.size := ⟨_, rfl⟩; rw [← hB4] at HB4; rw [← hB4]; clear hB4; go_loopw [2, 23] (fun v2 i wr => ∃ k : Nat, k ≤ st.length ∧ i = .int .i64 k ∧ Aside0 (wr.ownsRow w.heap.size 41 2 v2 k (cellsS ((List.range k).map fun (i : Nat) => flk (rdS st i) (rdS H i) (rdS H ((i + 1 : Nat) : Int))))) ∧ Aside0 (wr.ownsRow w.heap.size 100 2 (.slice (some ⟨g5, 0, none⟩) H.length c5) H.length (cellsS H)) ∧ Aside0 (Bx wr B4 #[.slice A st.length c, .slice A2 wg.length c2] 95) ∧ Aside0 (Up w wr)) (fun _ i _ => st.length - (intOf i).toNat)
  case atStart => exact ⟨0, Nat.zero_le _, rfl, ⟨⟨by simp [cellsS], .inl ⟨rfl, rfl⟩⟩⟩, HC4, HB4, HU4⟩
  case round =>
   clear HC4 HB4 HU4; obtain ⟨k, hk, rfl, hO, hL5, hB, hU⟩ := hrel
   by_cases hlt : k < st.length
   ·have hfu := HFU.out k (by omega)
    have hfu2 := HFU.out (k + 1) (by omega); have hHl := HHL.out; obtain ⟨⟨hx0, hx1⟩, hgz, _⟩ := own_cell2 hL5.out k (by omega); obtain ⟨⟨hy0, hy1⟩, _, _⟩ := own_cell2 hL5.out (k + 1) (by omega); clear hHl; obtain ⟨s, hs⟩ : ∃ s, s = rdS H (k : Nat) := ⟨_, rfl⟩; obtain ⟨s2, hs2⟩ : ∃ s2, s2 = rdS H ((k + 1 : Nat) : Int) := ⟨_, rfl⟩; rw [← hs] at hx0 hx1 hfu; rw [← hs2] at hy0 hy1 hfu2; have HS := Aside0.mk hs; have HS2 := Aside0.mk hs2
    have hi0 : (0 : Int) ≤ (k : Int) := by omega
    have hi1 : (k : Int) < (H.length : Int) := by omega
    have hi2 : (k : Int) + 1 < (H.length : Int) := by omega
    have hi3 : (0 : Int) ≤ (k : Int) + 1 := by omega
    have hi4 : ((k : Int) + 1).toNat = k + 1 := by omega
    have hi5 : (k : Int) < (st.length : Int) := by omega
    have hwk : IntKind.i64.wrap ((k : Int) + 1) = (k : Int) + 1 := IntWalk.i64_in _ (by omega); obtain ⟨wo, rfl⟩ : ∃ wo, wo = wr := ⟨_, rfl⟩; have HX : Aside0 (∀ W : World, Up wo W → (W.cell? ⟨g5, k * 2, none⟩ = some (.int .i64 s.lo) ∧ W.cell? ⟨g5, k * 2 + 1, none⟩ = some (.int .i64 s.hi)) ∧ (W.cell? ⟨g5, (k + 1) * 2, none⟩ = some (.int .i64 s2.lo) ∧ W.cell? ⟨g5, (k + 1) * 2 + 1, none⟩ = some (.int .i64 s2.hi))) := ⟨fun W hu => ⟨⟨hu.cell hx0, hu.cell hx1⟩, hu.cell hy0, hu.cell hy1⟩⟩
    have hX1 : ∀ C : Obj, (wo.alloc C).cell? ⟨g5, k * 2, none⟩ = some (.int .i64 s.lo) := fun C => (HX.out _ ((Up.refl wo).alloc C)).1.1
    have HB7 : Aside0 (Bx (wo.alloc (.cells #[.int .i64 400, .int .i64 0] 41)) wo.heap.size #[.int .i64 400, .int .i64 0] 41) := ⟨Bx.new wo _ _⟩; have HU7 : Aside0 (Up wo (wo.alloc (.cells #[.int .i64 400, .int .i64 0] 41))) := ⟨(Up.refl wo).alloc _⟩; clear hs hs2 hx0 hx1 hy0 hy1; go_wp2_with fail; obtain ⟨B7, hB7⟩ : ∃ B, B = wo.heap.size := ⟨_, rfl⟩; rw [← hB7] at HB7; rw [← hB7]; have HB7e := Aside0.mk (Nat.le_of_eq hB7.symm); clear hB7 hX1; have hb1 := hfu.1; have hb2 := hfu.2.1; have hb3 := hfu.2.2; have hb4 := hfu2.1; have hb5 := hfu2.2.1; have hb6 := hfu2.2.2; clear hfu hfu2; go_loopw [8] (fun v8 W => ∃ j : Nat, s.lo + (j : Int) ≤ s.hi + 1 ∧ v8 = .int .i64 (s.lo + (j : Int)) ∧ Aside0 (Bx W B7 #[.int .i64 (flkN (rdS st k) s s2 j).lo, .int .i64 (flkN (rdS st k) s s2 j).hi] 41) ∧ Aside0 (Up wo W)) (fun v8 _ => (s.hi + 1 - intOf v8).toNat)
    case atStart => exact ⟨0, by omega, by simp, HB7, HU7⟩
    case round =>
     obtain ⟨j, hj, rfl, hB7, hW⟩ := hrel; obtain ⟨x, hx⟩ : ∃ x, x = s.lo + (j : Int) := ⟨_, rfl⟩; rw [← hx] at hj; rw [← hx]; have HXJ := Aside0.mk hx; clear hx; have hX := HX.out _ hW.out; obtain ⟨⟨hX0, hX1⟩, hX2, hX3⟩ := hX
     by_cases hle : x ≤ s.hi
     ·have hx0 : 0 ≤ x := by have := HXJ.out; omega
      have hx4 : x ≤ 400 := by omega
      have HS4 : Aside0 (∀ W' : World, Up wr W' → W'.cell? ⟨B4, 0, none⟩ = some (.slice A st.length c) ∧ W'.cell? ⟨B4, 1, none⟩ = some (.slice A2 wg.length c2) ∧ W'.cell? ⟨g5, (k + 1) * 2, none⟩ = some (.int .i64 s2.lo) ∧ W'.cell? ⟨g5, (k + 1) * 2 + 1, none⟩ = some (.int .i64 s2.hi)) := ⟨fun W' hu => ⟨(hB.out.up (hW.out.then hu)).cell 0, (hB.out.up (hW.out.then hu)).cell 1, (HX.out _ (hW.out.then hu)).2.1, (HX.out _ (hW.out.then hu)).2.2⟩⟩; have hok9 := HOK.out.at k (by omega) hi5; have hp0 := loS_nn hok9 hx0; have hq0 := hiS_le hok9 hx0; have hpq := loS_hiS hok9 hx0; have HLC : Aside0 (∀ W' : World, Up wr W' → Calls Tryd.prog 62 #[.agg #[.slice A st.length c, .slice A2 wg.length c2], .int .i64 (k : Int), .int .i64 x] W' fun e w' => e = .returned (.agg #[.int .i64 (loS (rdS st k) x), .int .i64 (hiS (rdS st k) x)]) ∧ Up W' w') := ⟨fun W' hu => left_ A c st A2 c2 wg k x W' (C_up HR.out (hU.out.then (hW.out.then hu))) hc (C_up HR2.out (hU.out.then (hW.out.then hu))) hc2 (by omega) hi5 (HOK.out.at k (by omega) hi5) ⟨hx0, hx4⟩⟩; have hB7z : B7 < wr.heap.size := hB7.out.lt; clear hok9; go_wp2_with fail; clear hX0 hX1; have HFS : Aside0 (flkN (rdS st k) s s2 (j + 1) = flkStep (rdS st k) s2 (flkN (rdS st k) s s2 j) x) := ⟨by rw [flkN_succ, ← HXJ.out]⟩; simp only [flkStep] at HFS
      generalize loS (rdS st k) x = p at *
      generalize hiS (rdS st k) x = q at *
      -- EV flocks
      refine start_ (n := 12) (S := fun W' => W'.cell? ⟨B4, 0, none⟩ = some (.slice A st.length c) ∧ W'.cell? ⟨B4, 1, none⟩ = some (.slice A2 wg.length c2) ∧ W'.cell? ⟨g5, (k + 1) * 2, none⟩ = some (.int .i64 s2.lo) ∧ W'.cell? ⟨g5, (k + 1) * 2 + 1, none⟩ = some (.int .i64 s2.hi)) (ds := [11]) (bm 12 0) sqF rfl rfl (HS4.out _ (Up.refl wr).drew) (fun hHeld => ?_); refine pure_ (i := 1) (N := (some 42)) (v := ?_) (a' := ?_) (bm 12 2) rfl rfl sqF (fun _ _ _ h => h) (Or.inl ⟨by rfl, ?_⟩) ?_ ?_
      rotate_left
      ·intro w'
       go_simp; with_reducible rfl
      rotate_left
      ·simp only [Act.put, sqA, i64_w, i32_w]; rfl
      refine pure_ (i := 2) (N := (some 43)) (v := ?_) (a' := ?_) (bm 12 6) rfl rfl sqF (fun _ _ _ h => h) (Or.inl ⟨by rfl, ?_⟩) ?_ ?_
      rotate_left
      ·intro w'
       go_simp; with_reducible rfl
      rotate_left
      ·simp only [Act.put, sqA, i64_w, i32_w]; rfl
      refine pure_ (i := 4) (N := (some 45)) (v := ?_) (a' := ?_) (bm 12 22) rfl rfl sqF (fun _ _ _ h => h) (Or.inl ⟨by rfl, ?_⟩) ?_ ?_
      rotate_left
      ·intro w'
       go_simp; with_reducible rfl
      rotate_left
      ·simp only [Act.put, sqA, i64_w, i32_w]; rfl
      refine pure_ (i := 5) (N := (some 46)) (v := ?_) (a' := ?_) (bm 12 54) rfl rfl sqF (fun _ _ _ h => h) (Or.inl ⟨by rfl, ?_⟩) ?_ ?_
      rotate_left
      ·intro w'
       go_simp; with_reducible rfl
      rotate_left
      ·simp only [Act.put, sqA, i64_w, i32_w]; rfl
      refine pure_ (i := 6) (N := (some 47)) (v := ?_) (a' := ?_) (bm 12 118) rfl rfl sqF (fun _ _ _ h => h) (Or.inl ⟨by rfl, ?_⟩) ?_ ?_
      rotate_left
      ·intro w'
       go_simp; with_reducible rfl
      rotate_left
      ·simp only [Act.put, sqA, i64_w, i32_w]; rfl
      refine take_ (i := 0) (N := (some 41)) (v := ?_) (a' := ?_) (bm 12 119) rfl rfl sqF (fun _ _ _ h => h) (Or.inl ⟨by rfl, ?_⟩) hHeld ?_ ?_
      rotate_left
      ·rintro w' ⟨s0, s1, s2, s3⟩
       go_simp; with_reducible rfl
      rotate_left
      ·simp only [Act.put, sqA, i64_w, i32_w]; rfl
      refine take_ (i := 7) (N := (some 48)) (v := ?_) (a' := ?_) (bm 12 247) rfl rfl sqF (fun _ _ _ h => h) (Or.inl ⟨by rfl, ?_⟩) hHeld ?_ ?_
      rotate_left
      ·rintro w' ⟨s0, s1, s2, s3⟩
       go_simp; with_reducible rfl
      rotate_left
      ·simp only [Act.put, sqA, i64_w, i32_w]; rfl
      refine take_ (i := 8) (N := (some 49)) (v := ?_) (a' := ?_) (bm 12 503) rfl rfl sqF (fun _ _ _ h => h) (Or.inl ⟨by rfl, ?_⟩) hHeld ?_ ?_
      rotate_left
      ·rintro w' ⟨s0, s1, s2, s3⟩
       go_simp; with_reducible rfl
      rotate_left
      ·simp only [Act.put, sqA, i64_w, i32_w]; rfl
      refine two_ (i := 3) (j := 10) (Ni := (some 44)) (Nj := (some 9)) (bm 12 511) #[true, true, true, false, true, true, true, true, true, false, true, false] rfl rfl rfl rfl sqF (by decide) (by decide) (fun K hK => ?_) (fun K hK => ?_)
      ·refine goes_ Tryd.func62 sqF rfl #[.agg #[.slice A st.length c, .slice A2 wg.length c2], .int .i64 (k : Int), .int .i64 x] (by rfl) rfl rfl sqM ?_
       refine (HLC.out _ ((Up.refl wr).drew)).mono ?_; rintro e w1 ⟨rfl, hb⟩; have HV1 : Aside0 (Up wr w1) := ⟨((Up.refl wr).drew).then hb⟩; clear hb; refine ⟨_, rfl, ?_⟩; refine hK.out _ _ (HS4.out _ HV1.out) (fun hHeld => ?_); clear hK K; refine norm_ (a' := ?_) ?_ ?_
       rotate_left
       ·show Act.put _ (some 44) _ = _
        simp only [Act.put, sqA, i64_w, i32_w]; rfl
       refine two_ (i := 9) (j := 10) (Ni := (some 50)) (Nj := (some 9)) (bm 12 1023) #[true, true, true, true, true, true, true, true, true, false, true, false] rfl rfl rfl rfl sqF (by decide) (by decide) (fun K hK => ?_) (fun K hK => ?_)
       ·refine goes_ Tryd.func63 sqF rfl #[.agg #[.int .i64 p, .int .i64 q], .agg #[.int .i64 s2.lo, .int .i64 s2.hi]] (by rfl) rfl rfl sqM ?_
        refine (and_ ⟨p, q⟩ s2 _).mono ?_; rintro e w2 ⟨rfl, hb⟩; have HV2 : Aside0 (Up wr w2) := ⟨(HV1.out).then hb⟩; clear hb; refine ⟨_, rfl, ?_⟩; refine hK.out _ _ (HS4.out _ HV2.out) (fun hHeld => ?_); clear hK K; refine norm_ (a' := ?_) ?_ ?_
        rotate_left
        ·show Act.put _ (some 50) _ = _
         simp only [Act.put, sqA, i64_w, i32_w]; rfl
        refine one_ (i := 10) (N := (some 9)) (bm 12 2047) rfl rfl sqF (by decide) (fun K hK => ?_); refine value_ (v := ?_) (w1 := (w2.alloc (.cells #[.int .i64 0, .int .i64 0] 100))) (by rfl) rfl ?_ ?_
        rotate_left
        ·go_simp
         rfl
        have HV3 : Aside0 (Up wr (w2.alloc (.cells #[.int .i64 0, .int .i64 0] 100))) := ⟨(HV2.out).alloc _⟩; have HB9 : Aside0 (Bx (w2.alloc (.cells #[.int .i64 0, .int .i64 0] 100)) w2.heap.size #[.int .i64 0, .int .i64 0] 100) := ⟨Bx.new w2 _ _⟩; have HZ9 : Aside0 (wr.heap.size ≤ w2.heap.size) := ⟨(HV2.out).le⟩; refine hK.out _ _ (HS4.out _ HV3.out) (fun hHeld => ?_); clear hK K; refine norm_ (a' := ?_) ?_ ?_
        rotate_left
        ·show Act.put _ (some 9) _ = _
         simp only [Act.put, sqA, i64_w, i32_w]; rfl
        refine last_ (i := 11) (N := none) (bm 12 4095) rfl rfl sqF (by decide) (fun K hK => ?_); refine skip_ (w1 := ?_) (by rfl) rfl ?_ ?_
        rotate_left
        ·go_simp
         rfl
        refine hK.out _ _ ?_; clear hK K; have HV : Aside0 (Up wr (w2.alloc (.cells #[.int .i64 (andS ⟨p, q⟩ s2).lo, .int .i64 (andS ⟨p, q⟩ s2).hi] 100))) := ⟨(HV2.out).alloc _⟩; have HB9 : Aside0 (Bx (w2.alloc (.cells #[.int .i64 (andS ⟨p, q⟩ s2).lo, .int .i64 (andS ⟨p, q⟩ s2).hi] 100)) w2.heap.size #[.int .i64 (andS ⟨p, q⟩ s2).lo, .int .i64 (andS ⟨p, q⟩ s2).hi] 100) := ⟨Bx.new w2 _ _⟩; have HB7 := Aside0.mk (hB7.out.up HV.out); refine done_ sqF ?_; have hq7 := HB7.out.cell; have hq9 := HB9.out.cell; have hf7 := HB7.out.frozen; have hwa : IntKind.i64.wrap (x - (andS ⟨p, q⟩ s2).hi) = x - (andS ⟨p, q⟩ s2).hi := IntWalk.i64_in _ (by simp only [andS]; omega); have hwb : IntKind.i64.wrap (x - (andS ⟨p, q⟩ s2).lo) = x - (andS ⟨p, q⟩ s2).lo := IntWalk.i64_in _ (by simp only [andS]; omega); have hwx : IntKind.i64.wrap (x + 1) = x + 1 := IntWalk.i64_in _ (by omega)
        go_wp2_with fail
        have HV5 := Aside0.mk ((hW.out.then HV.out).set ⟨B7, 0, none⟩ (.int .i64 (min (flkN (rdS st k) s s2 j).lo (x - (andS ⟨p, q⟩ s2).hi))) HB7e.out); have HV6 := Aside0.mk (HV5.out.set ⟨B7, 1, none⟩ (.int .i64 (max (flkN (rdS st k) s s2 j).hi (x - (andS ⟨p, q⟩ s2).lo))) HB7e.out); have HB8 := Aside0.mk ((HB7.out.set 0 (.int .i64 (min (flkN (rdS st k) s s2 j).lo (x - (andS ⟨p, q⟩ s2).hi)))).set 1 (.int .i64 (max (flkN (rdS st k) s s2 j).hi (x - (andS ⟨p, q⟩ s2).lo)))); simp only [Array.setIfInBounds, sqA] at HB8
        go_roundw
        case rel => exact ⟨j + 1, by have := HXJ.out; omega, by rw [HXJ.out]; congr 1; omega, ⟨by rw [HFS.out]; exact HB8.out⟩, HV6⟩
        case measure => simp [intOf]; have := HXJ.out; omega
       ·refine value_ (v := ?_) (w1 := (w1.alloc (.cells #[.int .i64 0, .int .i64 0] 100))) (by rfl) rfl ?_ ?_
        rotate_left
        ·go_simp
         rfl
        have HV3 : Aside0 (Up wr (w1.alloc (.cells #[.int .i64 0, .int .i64 0] 100))) := ⟨(HV1.out).alloc _⟩; have HB9 : Aside0 (Bx (w1.alloc (.cells #[.int .i64 0, .int .i64 0] 100)) w1.heap.size #[.int .i64 0, .int .i64 0] 100) := ⟨Bx.new w1 _ _⟩; have HZ9 : Aside0 (wr.heap.size ≤ w1.heap.size) := ⟨(HV1.out).le⟩; refine hK.out _ _ (HS4.out _ HV3.out) (fun hHeld => ?_); clear hK K; refine norm_ (a' := ?_) ?_ ?_
        rotate_left
        ·show Act.put _ (some 9) _ = _
         simp only [Act.put, sqA, i64_w, i32_w]; rfl
        refine one_ (i := 9) (N := (some 50)) (bm 12 2047) rfl rfl sqF (by decide) (fun K hK => ?_); refine goes_ Tryd.func63 sqF rfl #[.agg #[.int .i64 p, .int .i64 q], .agg #[.int .i64 s2.lo, .int .i64 s2.hi]] (by rfl) rfl rfl sqM ?_; refine (and_ ⟨p, q⟩ s2 _).mono ?_; rintro e w2 ⟨rfl, hb⟩; have HV2 : Aside0 (Up wr w2) := ⟨(HV3.out).then hb⟩; have HB9 := Aside0.mk (HB9.out.up hb); clear hb; refine ⟨_, rfl, ?_⟩; refine hK.out _ _ (HS4.out _ HV2.out) (fun hHeld => ?_); clear hK K; refine norm_ (a' := ?_) ?_ ?_
        rotate_left
        ·show Act.put _ (some 50) _ = _
         simp only [Act.put, sqA, i64_w, i32_w]; rfl
        refine last_ (i := 11) (N := none) (bm 12 4095) rfl rfl sqF (by decide) (fun K hK => ?_); have hqb := HB9.out.cell; have hfb := HB9.out.frozen; refine skip_ (w1 := ?_) (by rfl) rfl ?_ ?_
        rotate_left
        ·go_simp
         rfl
        refine hK.out _ _ ?_; clear hK K hqb hfb; have HB9 := Aside0.mk ((HB9.out.set 0 (.int .i64 (andS ⟨p, q⟩ s2).lo)).set 1 (.int .i64 (andS ⟨p, q⟩ s2).hi)); have HV := Aside0.mk (((HV2.out).set ⟨w1.heap.size, 0, none⟩ (.int .i64 (andS ⟨p, q⟩ s2).lo) HZ9.out).set ⟨w1.heap.size, 1, none⟩ (.int .i64 (andS ⟨p, q⟩ s2).hi) HZ9.out); have HB7 := Aside0.mk (((hB7.out.up (HV2.out)).far (show B7 ≠ w1.heap.size by have := HZ9.out; omega) 0 (.int .i64 (andS ⟨p, q⟩ s2).lo)).far (show B7 ≠ w1.heap.size by have := HZ9.out; omega) 1 (.int .i64 (andS ⟨p, q⟩ s2).hi)); simp only [Array.setIfInBounds, sqA] at HB9; refine done_ sqF ?_; have hq7 := HB7.out.cell; have hq9 := HB9.out.cell; have hf7 := HB7.out.frozen; have hwa : IntKind.i64.wrap (x - (andS ⟨p, q⟩ s2).hi) = x - (andS ⟨p, q⟩ s2).hi := IntWalk.i64_in _ (by simp only [andS]; omega); have hwb : IntKind.i64.wrap (x - (andS ⟨p, q⟩ s2).lo) = x - (andS ⟨p, q⟩ s2).lo := IntWalk.i64_in _ (by simp only [andS]; omega); have hwx : IntKind.i64.wrap (x + 1) = x + 1 := IntWalk.i64_in _ (by omega)
        go_wp2_with fail
        have HV5 := Aside0.mk ((hW.out.then HV.out).set ⟨B7, 0, none⟩ (.int .i64 (min (flkN (rdS st k) s s2 j).lo (x - (andS ⟨p, q⟩ s2).hi))) HB7e.out); have HV6 := Aside0.mk (HV5.out.set ⟨B7, 1, none⟩ (.int .i64 (max (flkN (rdS st k) s s2 j).hi (x - (andS ⟨p, q⟩ s2).lo))) HB7e.out); have HB8 := Aside0.mk ((HB7.out.set 0 (.int .i64 (min (flkN (rdS st k) s s2 j).lo (x - (andS ⟨p, q⟩ s2).hi)))).set 1 (.int .i64 (max (flkN (rdS st k) s s2 j).hi (x - (andS ⟨p, q⟩ s2).lo)))); simp only [Array.setIfInBounds, sqA] at HB8
        go_roundw
        case rel => exact ⟨j + 1, by have := HXJ.out; omega, by rw [HXJ.out]; congr 1; omega, ⟨by rw [HFS.out]; exact HB8.out⟩, HV6⟩
        case measure => simp [intOf]; have := HXJ.out; omega
      ·refine value_ (v := ?_) (w1 := (wr.drew.alloc (.cells #[.int .i64 0, .int .i64 0] 100))) (by rfl) rfl ?_ ?_
       rotate_left
       ·go_simp
        rfl
       have HV3 : Aside0 (Up wr (wr.drew.alloc (.cells #[.int .i64 0, .int .i64 0] 100))) := ⟨((Up.refl wr).drew).alloc _⟩; have HB9 : Aside0 (Bx (wr.drew.alloc (.cells #[.int .i64 0, .int .i64 0] 100)) wr.heap.size #[.int .i64 0, .int .i64 0] 100) := ⟨Bx.new wr.drew _ _⟩; have HZ9 : Aside0 (wr.heap.size ≤ wr.heap.size) := ⟨((Up.refl wr).drew).le⟩; refine hK.out _ _ (HS4.out _ HV3.out) (fun hHeld => ?_); clear hK K; refine norm_ (a' := ?_) ?_ ?_
       rotate_left
       ·show Act.put _ (some 9) _ = _
        simp only [Act.put, sqA, i64_w, i32_w]; rfl
       refine one_ (i := 3) (N := (some 44)) (bm 12 1535) rfl rfl sqF (by decide) (fun K hK => ?_); refine goes_ Tryd.func62 sqF rfl #[.agg #[.slice A st.length c, .slice A2 wg.length c2], .int .i64 (k : Int), .int .i64 x] (by rfl) rfl rfl sqM ?_; refine (HLC.out _ (HV3.out)).mono ?_; rintro e w1 ⟨rfl, hb⟩; have HV1 : Aside0 (Up wr w1) := ⟨(HV3.out).then hb⟩; have HB9 := Aside0.mk (HB9.out.up hb); clear hb; refine ⟨_, rfl, ?_⟩; refine hK.out _ _ (HS4.out _ HV1.out) (fun hHeld => ?_); clear hK K; refine norm_ (a' := ?_) ?_ ?_
       rotate_left
       ·show Act.put _ (some 44) _ = _
        simp only [Act.put, sqA, i64_w, i32_w]; rfl
       refine one_ (i := 9) (N := (some 50)) (bm 12 2047) rfl rfl sqF (by decide) (fun K hK => ?_); refine goes_ Tryd.func63 sqF rfl #[.agg #[.int .i64 p, .int .i64 q], .agg #[.int .i64 s2.lo, .int .i64 s2.hi]] (by rfl) rfl rfl sqM ?_; refine (and_ ⟨p, q⟩ s2 _).mono ?_; rintro e w2 ⟨rfl, hb⟩; have HV2 : Aside0 (Up wr w2) := ⟨(HV1.out).then hb⟩; have HB9 := Aside0.mk (HB9.out.up hb); clear hb; refine ⟨_, rfl, ?_⟩; refine hK.out _ _ (HS4.out _ HV2.out) (fun hHeld => ?_); clear hK K; refine norm_ (a' := ?_) ?_ ?_
       rotate_left
       ·show Act.put _ (some 50) _ = _
        simp only [Act.put, sqA, i64_w, i32_w]; rfl
       refine last_ (i := 11) (N := none) (bm 12 4095) rfl rfl sqF (by decide) (fun K hK => ?_); have hqb := HB9.out.cell; have hfb := HB9.out.frozen; refine skip_ (w1 := ?_) (by rfl) rfl ?_ ?_
       rotate_left
       ·go_simp
        rfl
       refine hK.out _ _ ?_; clear hK K hqb hfb; have HB9 := Aside0.mk ((HB9.out.set 0 (.int .i64 (andS ⟨p, q⟩ s2).lo)).set 1 (.int .i64 (andS ⟨p, q⟩ s2).hi)); have HV := Aside0.mk (((HV2.out).set ⟨wr.heap.size, 0, none⟩ (.int .i64 (andS ⟨p, q⟩ s2).lo) HZ9.out).set ⟨wr.heap.size, 1, none⟩ (.int .i64 (andS ⟨p, q⟩ s2).hi) HZ9.out); have HB7 := Aside0.mk (((hB7.out.up (HV2.out)).far (show B7 ≠ wr.heap.size by have := HZ9.out; omega) 0 (.int .i64 (andS ⟨p, q⟩ s2).lo)).far (show B7 ≠ wr.heap.size by have := HZ9.out; omega) 1 (.int .i64 (andS ⟨p, q⟩ s2).hi)); simp only [Array.setIfInBounds, sqA] at HB9; refine done_ sqF ?_; have hq7 := HB7.out.cell; have hq9 := HB9.out.cell; have hf7 := HB7.out.frozen; have hwa : IntKind.i64.wrap (x - (andS ⟨p, q⟩ s2).hi) = x - (andS ⟨p, q⟩ s2).hi := IntWalk.i64_in _ (by simp only [andS]; omega); have hwb : IntKind.i64.wrap (x - (andS ⟨p, q⟩ s2).lo) = x - (andS ⟨p, q⟩ s2).lo := IntWalk.i64_in _ (by simp only [andS]; omega); have hwx : IntKind.i64.wrap (x + 1) = x + 1 := IntWalk.i64_in _ (by omega)
       go_wp2_with fail
       have HV5 := Aside0.mk ((hW.out.then HV.out).set ⟨B7, 0, none⟩ (.int .i64 (min (flkN (rdS st k) s s2 j).lo (x - (andS ⟨p, q⟩ s2).hi))) HB7e.out); have HV6 := Aside0.mk (HV5.out.set ⟨B7, 1, none⟩ (.int .i64 (max (flkN (rdS st k) s s2 j).hi (x - (andS ⟨p, q⟩ s2).lo))) HB7e.out); have HB8 := Aside0.mk ((HB7.out.set 0 (.int .i64 (min (flkN (rdS st k) s s2 j).lo (x - (andS ⟨p, q⟩ s2).hi)))).set 1 (.int .i64 (max (flkN (rdS st k) s s2 j).hi (x - (andS ⟨p, q⟩ s2).lo)))); simp only [Array.setIfInBounds, sqA] at HB8
       go_roundw
       case rel => exact ⟨j + 1, by have := HXJ.out; omega, by rw [HXJ.out]; congr 1; omega, ⟨by rw [HFS.out]; exact HB8.out⟩, HV6⟩
       case measure => simp [intOf]; have := HXJ.out; omega
      -- END flocks
     ·have hqB := hB7.out.cell
      have HEX : Aside0 (flkN (rdS st k) s s2 j = flk (rdS st k) s s2) := ⟨by rw [flk, show (s.hi + 1 - s.lo).toNat = j by have := HXJ.out; omega]⟩; rw [HEX.out] at hqB hB7
      generalize hF : flk (rdS st k) s s2 = F at *
      have HRC : Aside0 (0 < 1 → ∃ ad', some (⟨wr.heap.size, 0, none⟩ : Addr) = some ad' ∧ ∀ j u, ([.int .i64 F.lo, .int .i64 F.hi] : List Value)[j]? = some u → (wr.alloc (.cells #[.int .i64 F.lo, .int .i64 F.hi] 41)).cell? (ad'.add j) = some u) := ⟨fun _ => ⟨_, rfl, fun j u hu => by
       match j, hu with
       | 0, hu => simp at hu; subst hu; simp [go_sem]
       | 1, hu => simp at hu; subst hu; simp [go_sem]⟩⟩
      have HTK : Aside0 (cellsS ((List.range (k + 1)).map fun (i : Nat) => flk (rdS st i) (rdS H i) (rdS H ((i + 1 : Nat) : Int))) = cellsS ((List.range k).map fun (i : Nat) => flk (rdS st i) (rdS H i) (rdS H ((i + 1 : Nat) : Int))) ++ [.int .i64 F.lo, .int .i64 F.hi]) := ⟨by rw [List.range_succ, List.map_append, cellsS_append]; simp only [List.map_cons, List.map_nil]; rw [← HS.out, ← HS2.out, hF]; rfl⟩; have HO2 := Aside0.mk (own_up hO.out hW.out); have hwz : w.heap.size ≤ wr.heap.size := Nat.le_trans hU.out.le hW.out.le; obtain ⟨i0, hi, hz0, hz1, hz2⟩ := info_parts info_span; clear hF; go_wp2_with (at_builtin; refine append_all w.heap.size rfl _ _ 22 41 (.agg #[.int .i64 0, .int .i64 0]) 2 16 rfl Tryd.underlying22 info_span rfl (by decide) (by decide) _ k _ [.int .i64 F.lo, .int .i64 F.hi] (some ⟨wr.heap.size, 0, none⟩) 1 1 rfl rfl (own_up HO2.out ((Up.refl _).alloc _)) rfl HRC.out ?qc3 ?qc4 ?qc5 ?_)
      case qc3 => exact ⟨rfl, rfl⟩
      case qc4 => first | omega | (simp; omega)
      case qc5 => omega
      intro v3 w3 hown hgrow; have HU3 := Aside0.mk ((Up.alloc (hU.out.then hW.out) (.cells #[.int .i64 F.lo, .int .i64 F.hi] 41)).grown (own_up HO2.out ((Up.refl _).alloc _)) (Nat.le_refl _) hgrow); have HL3 := Aside0.mk (own_grown (own_up (own_up hL5.out hW.out) ((Up.refl _).alloc _)) (own_up HO2.out ((Up.refl _).alloc _)) (by decide) hgrow); have HB3 := Aside0.mk (((hB.out.up hW.out).up ((Up.refl _).alloc _)).grown (own_up HO2.out ((Up.refl _).alloc _)) (by decide) hgrow); have HO3 := Aside0.mk hown; clear hown hgrow; go_wp2_with fail
      go_roundw
      case rel => exact ⟨k + 1, by omega, by go_num, ⟨by rw [HTK.out]; exact HO3.out⟩, HL3, HB3, HU3⟩
      case measure => simp [intOf]; omega
   ·obtain rfl : k = st.length := by omega
    go_wp2_with fail
    go_ret2
    have h9 := hO.out; rw [← HFL.out] at h9
    have hfl : (flocksL st wg).length = st.length := by rw [HFL.out]; simp
    have h10 : wr.ownsRow w.heap.size 41 2 u2 (flocksL st wg).length (cellsS (flocksL st wg)) := by rw [hfl]; exact h9
    exact ⟨_, by simp [HE.out], h10, hU.out⟩
 ·have hd : (ohE st wg != 0) = true := by simp [he]
  have HFL : Aside0 (flocksL st wg = []) := ⟨by rw [flocksL, if_neg he]⟩; have HOL : Aside0 (ohL st wg = []) := ⟨by rw [ohL, if_neg he]⟩; clear he; go_enter Tryd.func21, Tryd.ntmps21
  go_wp2_with fail
  generalize (w.alloc (.cells #[.slice A st.length c, .slice A2 wg.length c2] 25)) = W0 at *
  refine hcall.mono ?_; clear hcall; rintro e w1 ⟨v1, rfl, hown, hb⟩; have HU1 := Aside0.mk (HU0.out.then hb); clear hown hb; go_wp2_with fail
  go_ret2
  exact ⟨.slice none 0 0, by simp, by rw [HFL.out]; exact ⟨rfl, .inl ⟨rfl, rfl⟩⟩, HU1.out.then upA⟩
end Go.Proofs.YtemingmeidmjkaaDoor.Q
namespace Go.Proofs.YtemingmeidmjkaaDoor.Q
open Go.RowKit Go.Shelf Go.Proofs.YtemingmeidmjkaaDoorW.PrintWords Go.Proofs.YtemingmeidmjkaaDoorW.PrintLast
set_option linter.unusedVariables false
set_option linter.unusedSimpArgs false
def bnK (s : Sp) : Prop := (-1000 ≤ s.lo ∧ s.lo ≤ 1000) ∧ (-1000 ≤ s.hi ∧ s.hi ≤ 1000)
theorem seenS_bn (wg : List Wg) (h : wgOk wg) (p : Int) : bnK (seenS wg p) := by
 have key : ∀ (l : List Wg) (s : Sp), (∀ x ∈ l, (0 ≤ x.r ∧ x.r ≤ 400) ∧ (0 ≤ x.o ∧ x.o ≤ 20)) → bnK s → bnK (l.foldl (seenStep p) s) := by
  intro l
  induction l with
  | nil => intro s _ h; exact h
  | cons x l ih =>
   intro s hl h; rw [List.foldl_cons]; refine ih _ (fun y hy => hl y (by simp [hy])) ?_; have h1 := hl x (by simp)
   unfold seenStep
   split
   ·unfold bnK at *
    simp only [andS]; omega
   ·exact h
 exact key wg _ h ⟨by simp, by simp⟩
theorem onS_bn {st s : Sp} (h : stB st) (hs : okS s) (hb : bnK s) : bnK (onS st s) := by
 unfold onS
 split
 ·exact hb
 ·rename_i hn
  have hs' : 0 ≤ s.lo ∧ s.hi ≤ 400 := by rcases hs with hs | hs; exact absurd hs hn; exact hs
  have h1 := loS_nn h (w := s.lo) hs'.1; have h2 := hiS_le h (w := s.hi) (by omega); have h3 := loS_hiS h (w := s.lo) hs'.1; have h4 := hiS_le h (w := s.lo) hs'.1; have h5 := loS_nn h (w := s.hi) (by omega); have h6 := loS_hiS h (w := s.hi) (by omega)
  unfold bnK
  simp only; omega
theorem andS_bn {s t : Sp} (hs : bnK s) (ht : bnK t) : bnK (andS s t) := by
 unfold bnK at *
 simp only [andS]; omega
theorem comeAt_bn {st : List Sp} {wg : List Wg} (h : RdOk st wg) : ∀ i : Nat, i ≤ st.length → bnK (comeAt st wg i)
 | 0, _ => seenS_bn wg h.wgs 0
 | i + 1, hi => andS_bn (onS_bn (h.at i (by omega) (by omega)) (comeAt_ok h i (by omega)) (comeAt_bn h i (by omega))) (seenS_bn wg h.wgs _)
def thA (st : List Sp) (wg : List Wg) (s : Nat) : Nat → Sp
 | 0 => comeAt st wg 0
 | j + 1 => if j < s then comeAt st wg (j + 1) else if j = s then andS ⟨0, (onS (rdS st j) (comeAt st wg j)).hi - 1⟩ (seenS wg ((j + 1 : Nat) : Int)) else andS (onS (rdS st j) (thA st wg s j)) (seenS wg ((j + 1 : Nat) : Int))
theorem thA_le (st : List Sp) (wg : List Wg) (s : Nat) : ∀ j, j ≤ s → thA st wg s j = comeAt st wg j
 | 0, _ => rfl
 | j + 1, h => by rw [thA, if_pos (by omega)]
theorem thA_at (st : List Sp) (wg : List Wg) (s : Nat) : thA st wg s (s + 1) = andS ⟨0, (onS (rdS st s) (comeAt st wg s)).hi - 1⟩ (seenS wg ((s + 1 : Nat) : Int)) := by
 rw [thA, if_neg (by omega), if_pos rfl]
theorem thA_gt (st : List Sp) (wg : List Wg) (s j : Nat) (h : s < j) : thA st wg s (j + 1) = andS (onS (rdS st j) (thA st wg s j)) (seenS wg ((j + 1 : Nat) : Int)) := by
 rw [thA, if_neg (by omega), if_neg (by omega)]
theorem thA_ok {st : List Sp} {wg : List Wg} (h : RdOk st wg) (s : Nat) (hs : s < st.length) : ∀ j : Nat, j ≤ st.length → okS (thA st wg s j)
 | 0, hj => comeAt_ok h 0 (by omega)
 | j + 1, hj => by
  rw [thA]
  split
  ·exact comeAt_ok h _ hj
  ·split
   ·refine andS_ok ?_ (seenS_ok wg _).1
    have h1 := onS_ok (h.at j (by omega) (by omega)) (comeAt_ok h j (by omega)); have h2 := onS_bn (h.at j (by omega) (by omega)) (comeAt_ok h j (by omega)) (comeAt_bn h j (by omega))
    have h3 : (onS (rdS st j) (comeAt st wg j)).hi ≤ 400 := by
     unfold onS
     split
     ·rename_i hn
      have : (comeAt st wg j).hi ≤ 400 := by
       cases j with
       | zero => exact (seenS_ok wg 0).2
       | succ j => rw [comeAt]; have := (seenS_ok wg ((j + 1 : Nat) : Int)).2; simp only [andS]; omega
      exact this
     ·rename_i hn
      have hs' := comeAt_ok h j (by omega)
      have hs2 : 0 ≤ (comeAt st wg j).lo ∧ (comeAt st wg j).hi ≤ 400 := by rcases hs' with hs' | hs'; exact absurd hs' hn; exact hs'
      have := hiS_le (h.at j (by omega) (by omega)) (w := (comeAt st wg j).hi) (by omega); simp only; omega
    exact .inr ⟨by simp, by simp only; omega⟩
   ·exact andS_ok (onS_ok (h.at j (by omega) (by omega)) (thA_ok h s hs j (by omega))) (seenS_ok wg _).1
def thM (st : List Sp) (wg : List Wg) (s i : Nat) : List Sp := (List.range (st.length + 1)).map fun j => if j ≤ i then thA st wg s j else comeAt st wg j
theorem thM_len (st : List Sp) (wg : List Wg) (s i : Nat) : (thM st wg s i).length = st.length + 1 := by simp [thM]
theorem thM_rd (st : List Sp) (wg : List Wg) (s i j : Nat) (h : j ≤ st.length) : rdS (thM st wg s i) (j : Int) = if j ≤ i then thA st wg s j else comeAt st wg j := by
 rw [rdS_nat _ _ (by rw [thM_len]; omega)]
 simp [thM]
theorem comeL_rd (st : List Sp) (wg : List Wg) (j : Nat) (h : j ≤ st.length) : rdS (comeL st wg) (j : Int) = comeAt st wg j := by
 rw [rdS_nat _ _ (by rw [comeL_len]; omega)]
 simp [comeL]
theorem thM_zero (st : List Sp) (wg : List Wg) (s : Nat) : thM st wg s s = comeL st wg := by
 unfold thM comeL
 refine List.map_congr_left fun j _ => ?_
 split
 ·exact thA_le _ _ _ _ (by assumption)
 ·rfl
theorem thM_succ (st : List Sp) (wg : List Wg) (s i : Nat) : thM st wg s (i + 1) = (thM st wg s i).set (i + 1) (thA st wg s (i + 1)) := by
 apply List.ext_getElem?
 intro j; rw [List.getElem?_set]
 unfold thM
 simp only [List.getElem?_map, List.length_map, List.length_range]
 by_cases e : i + 1 = j
 ·subst e
  by_cases hlt : i + 1 < st.length + 1
  ·rw [if_pos rfl, if_pos hlt, List.getElem?_range hlt]
   simp
  ·rw [if_pos rfl, if_neg hlt, List.getElem?_eq_none (by simpa using hlt)]
   rfl
 ·rw [if_neg e]
  by_cases hlt : j < st.length + 1
  ·rw [List.getElem?_range hlt]
   simp only [Option.map_some]
   congr 1
   by_cases h1 : j ≤ i
   ·rw [if_pos h1, if_pos (by omega)]
   ·rw [if_neg h1, if_neg (by omega)]
  ·rw [List.getElem?_eq_none (by simpa using hlt)]
   rfl
def thL2 (st : List Sp) (wg : List Wg) (s : Nat) : List Sp := thM st wg s st.length
theorem thL2_len (st : List Sp) (wg : List Wg) (s : Nat) : (thL2 st wg s).length = st.length + 1 := thM_len _ _ _ _
theorem thL2_ok {st : List Sp} {wg : List Wg} (h : RdOk st wg) (s : Nat) (hs : s < st.length) : ∀ x ∈ thL2 st wg s, okS x := by
 intro x hx; simp only [thL2, thM, List.mem_map, List.mem_range] at hx; obtain ⟨j, hj, rfl⟩ := hx; rw [if_pos (by omega)]; exact thA_ok h s hs j (by omega)
def thL3 (st : List Sp) (wg : List Wg) (s : Nat) : List Sp := gst st (thL2 st wg s) (st.length - s)
theorem thL3_len (st : List Sp) (wg : List Wg) (s : Nat) : (thL3 st wg s).length = st.length + 1 := by rw [thL3, gst_len, thL2_len]
theorem gst_ok {st L : List Sp} (h : ∀ x ∈ L, okS x) (k : Nat) : ∀ x ∈ gst st L k, okS x := by
 intro x hx; rw [gst, List.mem_append] at hx
 rcases hx with hx | hx
 ·exact h x (List.mem_of_mem_take hx)
 ·exact goL_ok _ _ (fun y hy => h y (List.mem_of_mem_drop hy)) x hx
theorem thL3_ok {st : List Sp} {wg : List Wg} (h : RdOk st wg) (s : Nat) (hs : s < st.length) : ∀ x ∈ thL3 st wg s, okS x := gst_ok (thL2_ok h s hs) _
def thX (t x y : Sp) : Sp := trimLo t ⟨y.lo + 1, 0⟩ 402 x
def thL4 (st : List Sp) (wg : List Wg) (s : Nat) : List Sp := (thL3 st wg s).set s (thX (rdS st s) (rdS (thL3 st wg s) s) (rdS (thL3 st wg s) ((s + 1 : Nat) : Int)))
theorem thL4_len (st : List Sp) (wg : List Wg) (s : Nat) : (thL4 st wg s).length = st.length + 1 := by rw [thL4, List.length_set, thL3_len]
theorem rd_ok {L : List Sp} (h : ∀ x ∈ L, okS x) (i : Nat) : okS (rdS L i) := by
 by_cases hi : i < L.length
 ·rw [rdS_nat _ _ hi]
  exact h _ (List.getElem_mem hi)
 ·unfold rdS
  rw [Int.toNat_natCast, List.getD_eq_getElem?_getD, List.getElem?_eq_none (by omega)]; exact .inr ⟨by simp [z_Sp], by simp [z_Sp]⟩
theorem thL4_ok {st : List Sp} {wg : List Wg} (h : RdOk st wg) (s : Nat) (hs : s < st.length) : ∀ x ∈ thL4 st wg s, okS x := by
 intro x hx
 rcases List.mem_or_eq_of_mem_set hx with hx | rfl
 ·exact thL3_ok h s hs x hx
 ·exact trimLo_ok _ _ _ _ (rd_ok (thL3_ok h s hs) s)
def thG (st L : List Sp) (s k : Nat) : List Sp := gst (st.take s) (L.take (s + 1)) k ++ L.drop (s + 1)
theorem thG_len (st L : List Sp) (s k : Nat) : (thG st L s k).length = L.length := by
 simp [thG, gst_len]
 omega
theorem thG_one (st L : List Sp) (s : Nat) (hs : s < st.length) (hl : L.length = st.length + 1) : thG st L s 1 = L := by
 unfold thG
 rw [gst_one _ _ (by simp; omega), List.take_append_drop]
theorem thG_succ (st L : List Sp) (s p : Nat) (hs : s < st.length) (hl : L.length = st.length + 1) (hp : p < s) :
  thG st L s (s - p + 1) = (thG st L s (s - p)).set p (backS (rdS st p) (rdS (thG st L s (s - p)) p) (rdS (thG st L s (s - p)) ((p + 1 : Nat) : Int))) ∧ rdS (thG st L s (s - p)) p = rdS L p := by
 have e1 : (st.take s).length = s := by simp; omega
 have e2 : (L.take (s + 1)).length = s + 1 := by simp; omega
 obtain ⟨h1, h2⟩ := gst_succ (st.take s) (L.take (s + 1)) (by omega) p (by omega); rw [e1] at h1 h2
 have hg : (gst (st.take s) (L.take (s + 1)) (s - p)).length = s + 1 := by rw [gst_len, e2]
 have r : ∀ j : Nat, j < s + 1 → rdS (thG st L s (s - p)) j = rdS (gst (st.take s) (L.take (s + 1)) (s - p)) j := by
  intro j hj
  unfold rdS thG
  rw [Int.toNat_natCast, List.getD_eq_getElem?_getD, List.getD_eq_getElem?_getD, List.getElem?_append_left (by omega)]
 have rt : ∀ (l : List Sp) (n j : Nat), j < n → rdS (l.take n) j = rdS l j := by
  intro l n j hj
  unfold rdS
  rw [Int.toNat_natCast, List.getD_eq_getElem?_getD, List.getD_eq_getElem?_getD, List.getElem?_take, if_pos hj]
 rw [r p (by omega), r (p + 1) (by omega), h2, rt L (s + 1) p (by omega)]; refine ⟨?_, rfl⟩; rw [rt L (s + 1) p (by omega)] at h2; rw [h2, rt st s p (by omega)] at h1
 unfold thG
 rw [h1, List.set_append_left _ _ (by omega)]
def thL5 (st : List Sp) (wg : List Wg) (s : Nat) : List Sp := thG st (thL4 st wg s) s (s + 1)
theorem thL5_len (st : List Sp) (wg : List Wg) (s : Nat) : (thL5 st wg s).length = st.length + 1 := by rw [thL5, thG_len, thL4_len]
theorem thL5_ok {st : List Sp} {wg : List Wg} (h : RdOk st wg) (s : Nat) (hs : s < st.length) : ∀ x ∈ thL5 st wg s, okS x := by
 intro x hx; rw [thL5, thG, List.mem_append] at hx
 rcases hx with hx | hx
 ·exact gst_ok (fun y hy => thL4_ok h s hs y (List.mem_of_mem_take hy)) _ x hx
 ·exact thL4_ok h s hs x (List.mem_of_mem_drop hx)
def thStep (t y : Sp) (a w : Int) : Int := min a (max 1 (loS t w - min y.hi (hiS t w - 1)))
def thN (t x y : Sp) (n : Nat) : Int := (List.range n).foldl (fun a (j : Nat) => thStep t y a (x.lo + (j : Int))) 400
theorem thN_succ (t x y : Sp) (n : Nat) : thN t x y (n + 1) = thStep t y (thN t x y n) (x.lo + (n : Int)) := by
 simp only [thN, List.range_succ, List.foldl_append, List.foldl_cons, List.foldl_nil]
def thAmt (st : List Sp) (wg : List Wg) (s : Nat) : Sp :=
 let x := rdS (thL5 st wg s) s
 let y := rdS (thL5 st wg s) ((s + 1 : Nat) : Int)
 ⟨thN (rdS st s) x y (x.hi + 1 - x.lo).toNat, hiS (rdS st s) x.hi - y.lo⟩
def thOk (st : List Sp) (wg : List Wg) (s : Nat) : Bool := !(thL3 st wg s).any noneB && !(thL5 st wg s).any noneB
def thL (st : List Sp) (wg : List Wg) (s : Nat) : List Sp := if thOk st wg s then thL5 st wg s else []
def thR (st : List Sp) (wg : List Wg) (s : Nat) : Sp := if thOk st wg s then thAmt st wg s else ⟨0, 0⟩
theorem any_full {L : List Sp} (h : ∀ x ∈ L, okS x) (hn : L.any noneB = false) : ∀ x ∈ L, fullS x := by
 intro x hx; have h1 := List.any_eq_false.1 hn x hx; have h2 := h x hx
 have h3 : ¬ (x.lo > x.hi) := by simpa [noneB] using h1
 unfold okS at h2
 unfold fullS
 omega
theorem rd_full {L : List Sp} (h : ∀ x ∈ L, fullS x) (i : Nat) (hi : i < L.length) : fullS (rdS L i) := by
 rw [rdS_nat _ _ hi]; exact h _ (List.getElem_mem hi)
structure ThI (w : World) (g cap : Nat) (rc : Array Value) (s : Int) (a : Sp) (L : List Sp) (W : World) : Prop where
 up : Up w W
 b2 : Bx W w.heap.size rc 95
 b3 : Bx W (w.heap.size + 1) #[.int .i64 s] 3
 b5 : Bx W (w.heap.size + 1 + 1) #[.int .i64 a.lo, .int .i64 a.hi] 100
 row : Spc W g 100 cap L
 gb : w.heap.size + 3 ≤ g
theorem ThI.then {w : World} {g cap : Nat} {rc : Array Value} {s : Int} {a : Sp} {L : List Sp} {W W' : World} (h : ThI w g cap rc s a L W) (hu : Up W W') : ThI w g cap rc s a L W' :=
 ⟨h.up.then hu, h.b2.up hu, h.b3.up hu, h.b5.up hu, h.row.up hu, h.gb⟩
theorem ThI.put {w : World} {g cap : Nat} {rc : Array Value} {s : Int} {a : Sp} {L : List Sp} {W : World} (h : ThI w g cap rc s a L W) (i : Nat) (hi : i < L.length) (z : Sp) :
  ThI w g cap rc s a (L.set i z) ((W.setCell ⟨g, i * 2, none⟩ (.int .i64 z.lo)).setCell ⟨g, i * 2 + 1, none⟩ (.int .i64 z.hi)) := by
 have hg := h.gb; have hr := h.row.set i hi z.lo z.hi; rw [show 2 * i = i * 2 by omega] at hr; exact ⟨(h.up.set _ _ (by simp; omega)).set _ _ (by simp; omega), (h.b2.far (by omega) _ _).far (by omega) _ _, (h.b3.far (by omega) _ _).far (by omega) _ _, (h.b5.far (by omega) _ _).far (by omega) _ _, hr, h.gb⟩
theorem ThI.cell {w : World} {g cap : Nat} {rc : Array Value} {s : Int} {a : Sp} {L : List Sp} {W : World} (h : ThI w g cap rc s a L W) (i : Nat) (hi : i < L.length) :
  W.cell? ⟨g, i * 2, none⟩ = some (.int .i64 (rdS L i).lo) ∧ W.cell? ⟨g, i * 2 + 1, none⟩ = some (.int .i64 (rdS L i).hi) := by
 have := h.row.sps.cell i hi; rw [show 2 * i = i * 2 by omega] at this; exact this
theorem ThI.frozen {w : World} {g cap : Nat} {rc : Array Value} {s : Int} {a : Sp} {L : List Sp} {W : World} (h : ThI w g cap rc s a L W) (o : Nat) : W.frozen? ⟨g, o, none⟩ = false := h.row.sps.frozen o
theorem ThI.lt {w : World} {g cap : Nat} {rc : Array Value} {s : Int} {a : Sp} {L : List Sp} {W : World} (h : ThI w g cap rc s a L W) : g < W.heap.size := h.row.sps.lt
theorem ThI.far {w : World} {g cap : Nat} {rc : Array Value} {s : Int} {a : Sp} {L : List Sp} {W : World} (h : ThI w g cap rc s a L W) {B : Nat} (hB : w.heap.size + 3 ≤ B) (hne : g ≠ B) (o : Nat) (u : Value) : ThI w g cap rc s a L (W.setCell ⟨B, o, none⟩ u) :=
 ⟨h.up.set _ _ (by simp; omega), h.b2.far (by omega) _ _, h.b3.far (by omega) _ _, h.b5.far (by omega) _ _, h.row.far hne _ _, h.gb⟩
theorem ThI.own {w : World} {g cap : Nat} {rc : Array Value} {s : Int} {a : Sp} {L : List Sp} {A B : World} {row : Option Nat} (h : ThI w g cap rc s a L A) (hg : A.grownBy B row) (hr : ∀ r, row = some r → w.heap.size ≤ r ∧ ∃ o : Obj, A.heap[r]? = some o ∧ o.isCells = false) : ThI w g cap rc s a L B := by
 have hr' : ∀ r, row = some r → ∃ o : Obj, A.heap[r]? = some o ∧ o.isCells = false := fun r e => (hr r e).2
 refine ⟨?_, h.b2.own hg hr', h.b3.own hg hr', h.b5.own hg hr', h.row.own hg hr', h.gb⟩; exact ⟨hg.os.trans h.up.os, hg.tape.trans h.up.tape, hg.output.trans h.up.output, Nat.le_trans h.up.size hg.size, fun k hk => (hg.block k (Nat.lt_of_lt_of_le hk h.up.size) (fun e => by have := (hr k e.symm).1; omega)).trans (h.up.block k hk)⟩
theorem ThI.ne {w : World} {g cap : Nat} {rc : Array Value} {s : Int} {a : Sp} {L : List Sp} {W : World} (h : ThI w g cap rc s a L W) {B : Nat} {C : Array Value} {T : TypeId} (hb : Bx W B C T) (hT : T ≠ 100) : B ≠ g := by
 rintro rfl; obtain ⟨cur, T', z, h1, h2⟩ := spc_typed h.row (lo := fun T => T = 100) rfl
 unfold Bx at hb
 rw [hb] at h1
 cases h1
 exact hT h2
structure ThR (w : World) (g cap : Nat) (rc : Array Value) (s B8 M K n : Nat) (st L : List Sp) (pre : List Nat) (W : World) : Prop where
 i : ThI w g cap rc (s : Int) ⟨0, 0⟩ (gst st L (min pre.length (n - s))) W
 b8 : Bx W B8 #[.slice (some ⟨g, (s + 1) * 2, none⟩) M K] 96
theorem ThR.stays {w : World} {g cap : Nat} {rc : Array Value} {s B8 M K n B : Nat} {st L : List Sp} (hB : w.heap.size ≤ B) : Stays noOw B (ThR w g cap rc s B8 M K n st L) := by
 intro p W W' row h hg hr
 have hr' : ∀ r, row = some r → w.heap.size ≤ r ∧ ∃ o : Obj, W.heap[r]? = some o ∧ o.isCells = false := by
  intro r e; obtain ⟨h0, o, h1, h2⟩ := hr r e; refine ⟨by omega, o, h1, ?_⟩
  rcases h2 with h2 | ⟨_, _, _, _, h3⟩
  ·exact h2
  ·exact h3.elim
 exact ⟨h.i.own hg hr', h.b8.own hg fun r e => (hr' r e).2⟩
structure ThJ (w : World) (g cap : Nat) (rc : Array Value) (s B8 M K D : Nat) (a : Sp) (L : List Sp) (W : World) : Prop where
 i : ThI w g cap rc (s : Int) a L W
 b8 : Bx W B8 #[.slice (some ⟨g, (s + 1) * 2, none⟩) M K] 96
 d : W.heap[D]? = some (.deferred (some []))
 db : w.heap.size ≤ D
theorem ThJ.then {w : World} {g cap : Nat} {rc : Array Value} {s B8 M K D : Nat} {a : Sp} {L : List Sp} {W W' : World} (h : ThJ w g cap rc s B8 M K D a L W) (hu : Up W W') : ThJ w g cap rc s B8 M K D a L W' :=
 ⟨h.i.then hu, h.b8.up hu, (hu.block D (Array.getElem?_eq_some_iff.1 h.d).1).trans h.d, h.db⟩
theorem ThJ.put {w : World} {g cap : Nat} {rc : Array Value} {s B8 M K D : Nat} {a : Sp} {L : List Sp} {W : World} (h : ThJ w g cap rc s B8 M K D a L W) (j : Nat) (hj : j < L.length) (z : Sp) :
  ThJ w g cap rc s B8 M K D a (L.set j z) ((W.setCell ⟨g, j * 2, none⟩ (.int .i64 z.lo)).setCell ⟨g, j * 2 + 1, none⟩ (.int .i64 z.hi)) := by
 have hne := h.i.ne h.b8 (by decide)
 have hd : D ≠ g := by
  rintro rfl; obtain ⟨cur, T', z, h1, h2⟩ := spc_typed h.i.row (lo := fun T => T = 100) rfl; rw [h.d] at h1
  cases h1
 exact ⟨h.i.put j hj z, (h.b8.far hne _ _).far hne _ _, (Below.heap_setCell _ ⟨g, j * 2 + 1, none⟩ _ D hd).trans ((Below.heap_setCell W ⟨g, j * 2, none⟩ _ D hd).trans h.d), h.db⟩
theorem Spc.setLo {w : World} {g T cap : Nat} {xs : List Sp} (h : Spc w g T cap xs) (i : Nat) (hi : i < xs.length) (b : Int) : Spc (w.setCell ⟨g, 2 * i, none⟩ (.int .i64 b)) g T cap (xs.set i ⟨b, (rdS xs i).hi⟩) := by
 obtain ⟨h0, cur, h1, hs, h2⟩ := h; have hb2 := (Array.getElem?_eq_some_iff.1 (h2 i hi).1).1; refine ⟨by rw [List.length_set]; exact h0, cur.setIfInBounds (2 * i) (.int .i64 b), ?_, by simp [hs], fun j hj => ?_⟩
 ·unfold World.setCell
  dsimp only
  rw [Array.getElem?_modify, if_pos rfl, h1]; rfl
 ·rw [List.length_set] at hj
  rw [rdS_set _ _ _ _ hi]; have h3 := h2 j hj
  by_cases e : j = i
  ·subst e
   simp only [if_pos trivial, Array.getElem?_setIfInBounds]; rw [if_pos hb2, if_neg (by omega)]; exact ⟨rfl, h3.2⟩
  ·simp only [if_neg e, Array.getElem?_setIfInBounds]
   rw [if_neg (by omega), if_neg (by omega)]; exact h3
theorem ThJ.putLo {w : World} {g cap : Nat} {rc : Array Value} {s B8 M K D : Nat} {a : Sp} {L : List Sp} {W : World} (h : ThJ w g cap rc s B8 M K D a L W) (j : Nat) (hj : j < L.length) (x : Int) :
  ThJ w g cap rc s B8 M K D a (L.set j ⟨x, (rdS L j).hi⟩) (W.setCell ⟨g, j * 2, none⟩ (.int .i64 x)) := by
 have hne := h.i.ne h.b8 (by decide)
 have hd : D ≠ g := by
  rintro rfl; obtain ⟨cur, T', z, h1, h2⟩ := spc_typed h.i.row (lo := fun T => T = 100) rfl; rw [h.d] at h1
  cases h1
 have hg := h.i.gb; have hr := Spc.setLo h.i.row j hj x; rw [show 2 * j = j * 2 by omega] at hr; exact ⟨⟨h.i.up.set _ _ (by simp; omega), h.i.b2.far (by omega) _ _, h.i.b3.far (by omega) _ _, h.i.b5.far (by omega) _ _, hr, hg⟩, h.b8.far hne _ _, (Below.heap_setCell W ⟨g, j * 2, none⟩ _ D hd).trans h.d, h.db⟩
theorem ThJ.amt {w : World} {g cap : Nat} {rc : Array Value} {s B8 M K D : Nat} {a : Sp} {L : List Sp} {W : World} (h : ThJ w g cap rc s B8 M K D a L W) (b : Sp) :
  ThJ w g cap rc s B8 M K D b L ((W.setCell ⟨w.heap.size + 1 + 1, 0, none⟩ (.int .i64 b.lo)).setCell ⟨w.heap.size + 1 + 1, 1, none⟩ (.int .i64 b.hi)) := by
 have hg := h.i.gb
 have h8 : B8 ≠ w.heap.size + 1 + 1 := by
  rintro rfl; have h1 := h.b8; have h2 := h.i.b5
  unfold Bx at h1 h2
  rw [h1] at h2
  injection h2 with h2
  injection h2 with _ h2
  exact absurd h2 (by decide)
 have hd : D ≠ w.heap.size + 1 + 1 := by
  rintro rfl; have h2 := h.i.b5
  unfold Bx at h2
  rw [h.d] at h2
  cases h2
 have h5 := (h.i.b5.set 0 (.int .i64 b.lo)).set 1 (.int .i64 b.hi); simp only [Array.setIfInBounds, sqA] at h5
 exact ⟨⟨(h.i.up.set _ _ (by simp; omega)).set _ _ (by simp; omega), (h.i.b2.far (by omega) _ _).far (by omega) _ _, (h.i.b3.far (by omega) _ _).far (by omega) _ _, h5, (h.i.row.far (by omega) _ _).far (by omega) _ _, hg⟩,
  (h.b8.far h8 _ _).far h8 _ _, (Below.heap_setCell _ ⟨w.heap.size + 1 + 1, 1, none⟩ _ D hd).trans ((Below.heap_setCell W ⟨w.heap.size + 1 + 1, 0, none⟩ _ D hd).trans h.d), h.db⟩
theorem ThJ.amtLo {w : World} {g cap : Nat} {rc : Array Value} {s B8 M K D : Nat} {a : Sp} {L : List Sp} {W : World} (h : ThJ w g cap rc s B8 M K D a L W) (x : Int) :
  ThJ w g cap rc s B8 M K D ⟨x, a.hi⟩ L (W.setCell ⟨w.heap.size + 1 + 1, 0, none⟩ (.int .i64 x)) := by
 have hg := h.i.gb
 have h8 : B8 ≠ w.heap.size + 1 + 1 := by
  rintro rfl; have h1 := h.b8; have h2 := h.i.b5
  unfold Bx at h1 h2
  rw [h1] at h2
  injection h2 with h2
  injection h2 with _ h2
  exact absurd h2 (by decide)
 have hd : D ≠ w.heap.size + 1 + 1 := by
  rintro rfl; have h2 := h.i.b5
  unfold Bx at h2
  rw [h.d] at h2
  cases h2
 have h5 := h.i.b5.set 0 (.int .i64 x); simp only [Array.setIfInBounds, sqA] at h5
 exact ⟨⟨h.i.up.set _ _ (by simp; omega), h.i.b2.far (by omega) _ _, h.i.b3.far (by omega) _ _, h5, h.i.row.far (by omega) _ _, hg⟩,
  h.b8.far h8 _ _, (Below.heap_setCell W ⟨w.heap.size + 1 + 1, 0, none⟩ _ D hd).trans h.d, h.db⟩
theorem ThJ.fin {w : World} {g cap : Nat} {rc : Array Value} {s B8 M K D : Nat} {a : Sp} {L : List Sp} {W : World} (h : ThJ w g cap rc s B8 M K D a L W) : ThI w g cap rc (s : Int) a L (W.putObj D (.deferred none)) :=
 h.i.own (grownBy_putObj' W D (.deferred none)) (fun r e => by cases e; exact ⟨h.db, _, h.d, rfl⟩)
theorem ThJ.C {w : World} {g cap : Nat} {rc : Array Value} {s B8 M K D : Nat} {a : Sp} {L : List Sp} {W : World} (h : ThJ w g cap rc s B8 M K D a L W) (hL : L.length ≤ 100000) : Kd.C kSp W (some ⟨g, 0, none⟩) L.length L :=
 C_ofSps h.i.row.sps (by omega) _ rfl
theorem ThI.capL {w : World} {g cap : Nat} {rc : Array Value} {s : Int} {a : Sp} {L : List Sp} {W : World} (h : ThI w g cap rc s a L W) : L.length ≤ cap := h.row.1.1
def loOf (W : World) (a : Addr) : Int := match W.cell? a with | some (.int _ x) => x | _ => 0
theorem thX_none {t x y : Sp} {n : Nat} (h : x.lo > x.hi) : trimLo t ⟨y.lo + 1, 0⟩ n x = x := by
 cases n with
 | zero => rfl
 | succ n => rw [trimLo, if_pos h]
theorem thX_stop {t x y : Sp} {n : Nat} (h : ¬ (x.lo > x.hi)) (h2 : ¬ (hiS t x.lo - 1 < y.lo)) : trimLo t ⟨y.lo + 1, 0⟩ n x = x := by
 cases n with
 | zero => rfl
 | succ n => rw [trimLo, if_neg h, if_neg (by simp only; omega)]
theorem thX_go {t x y : Sp} {n : Nat} (h : ¬ (x.lo > x.hi)) (h2 : hiS t x.lo - 1 < y.lo) : trimLo t ⟨y.lo + 1, 0⟩ (n + 1) x = trimLo t ⟨y.lo + 1, 0⟩ n ⟨x.lo + 1, x.hi⟩ := by
 rw [trimLo, if_neg h, if_pos (by simp only; omega)]
theorem set_rd {L : List Sp} {i : Nat} (h : i < L.length) : L.set i (rdS L i) = L := by
 rw [rdS_nat _ _ h]; exact List.set_getElem_self h
theorem rd_set {L : List Sp} {i j : Nat} (x : Sp) (h : i < L.length) : rdS (L.set i x) (j : Nat) = if j = i then x else rdS L (j : Nat) := rdS_set L i j x h
end Go.Proofs.YtemingmeidmjkaaDoor.Q
namespace Go.Proofs.YtemingmeidmjkaaDoor.Q
open Go.RowKit Go.Shelf Go.Proofs.YtemingmeidmjkaaDoorW.PrintWords Go.Proofs.YtemingmeidmjkaaDoorW.PrintLast
set_option linter.unusedVariables false
set_option linter.unusedSimpArgs false
attribute [local go_sem] Oper.semAt_some
attribute [local go_sem] bi_max2 bi_min2 bi_max_two bi_min_two
theorem fld1 (w : World) (a b : Int) : (Instr.field 100 (.agg #[.int .i64 a, .int .i64 b]) 1).run Tryd.prog w = .ok (.int .i64 b) w := by kernel_rfl
set_option maxRecDepth 100000 in
set_option maxHeartbeats 4000000 in
theorem theft_ (A : Option Addr) (c : Nat) (st : List Sp) (A2 : Option Addr) (c2 : Nat) (wg : List Wg) (s : Nat) (w : World) (hG : GL w) (hr : Kd.C kSp w A st.length st) (hc : st.length ≤ c) (hr2 : Kd.C kWg w A2 wg.length wg) (hc2 : wg.length ≤ c2) (hok : RdOk st wg) (hs : s < st.length) :
  Calls Tryd.prog 72 #[.agg #[.slice A st.length c, .slice A2 wg.length c2], .int .i64 (s : Int)] w fun e w' => ∃ v, e = .returned (.tuple #[v, .agg #[.int .i64 (thR st wg s).lo, .int .i64 (thR st wg s).hi], .bool (thOk st wg s)]) ∧ w'.ownsRow w.heap.size 100 2 v (thL st wg s).length (cellsS (thL st wg s)) ∧ Up w w' := by
 have hm := CF_len hr; have hl1 := hok.len; have HR := Aside0.mk hr; have HR2 := Aside0.mk hr2; have HOK := Aside0.mk hok; have HGL := Aside0.mk hG; have HS := Aside0.mk hs
 have hs1 : (s : Int) < (st.length : Int) := by omega
 have hs0 : (0 : Int) ≤ (s : Int) := by omega
 have hws : IntKind.i64.wrap ((s : Int) + 1) = (s : Int) + 1 := IntWalk.i64_in _ (by omega); have HU0 : Aside0 (Up w (((w.alloc (.cells #[.slice A st.length c, .slice A2 wg.length c2] 95)).alloc (.cells #[.int .i64 (s : Int)] 3)).alloc (.cells #[.int .i64 0, .int .i64 0] 100))) := ⟨upA⟩; have HB2 : Aside0 (Bx (((w.alloc (.cells #[.slice A st.length c, .slice A2 wg.length c2] 95)).alloc (.cells #[.int .i64 (s : Int)] 3)).alloc (.cells #[.int .i64 0, .int .i64 0] 100)) w.heap.size #[.slice A st.length c, .slice A2 wg.length c2] 95) := ⟨(Bx.new w _ _).up upA⟩
 have HB3 : Aside0 (Bx (((w.alloc (.cells #[.slice A st.length c, .slice A2 wg.length c2] 95)).alloc (.cells #[.int .i64 (s : Int)] 3)).alloc (.cells #[.int .i64 0, .int .i64 0] 100)) (w.heap.size + 1) #[.int .i64 (s : Int)] 3) := ⟨by
  have h9 := (Bx.new (w.alloc (.cells #[.slice A st.length c, .slice A2 wg.length c2] 95)) #[.int .i64 (s : Int)] 3).up (w' := (((w.alloc (.cells #[.slice A st.length c, .slice A2 wg.length c2] 95)).alloc (.cells #[.int .i64 (s : Int)] 3)).alloc (.cells #[.int .i64 0, .int .i64 0] 100))) upA
  simpa using h9⟩
 have HB5 : Aside0 (Bx (((w.alloc (.cells #[.slice A st.length c, .slice A2 wg.length c2] 95)).alloc (.cells #[.int .i64 (s : Int)] 3)).alloc (.cells #[.int .i64 0, .int .i64 0] 100)) (w.heap.size + 2) #[.int .i64 0, .int .i64 0] 100) := ⟨by
  have h9 := Bx.new ((w.alloc (.cells #[.slice A st.length c, .slice A2 wg.length c2] 95)).alloc (.cells #[.int .i64 (s : Int)] 3)) #[.int .i64 0, .int .i64 0] 100
  simpa using h9⟩
 have hcl := come_ A c st A2 c2 wg _ (HGL.out.up HU0.out) (C_up HR.out HU0.out) hc (C_up HR2.out HU0.out) hc2 hok; clear hr hr2 hok hG hs; refine (callsIn_wide (n := 7)).1 ?_; refine callsIn_of_wp_marks Tryd.func72 rfl trivial ?_ rfl; simp only [Tryd.ntmps72, List.size_toArray, List.length_cons, List.length_nil, Nat.reduceAdd, Nat.reduceSub, Array.replicate_succ, Array.replicate_zero, List.push_toArray, List.append_toArray, List.nil_append, List.cons_append]
 gi_wp2_with fail
 generalize hW0 : (((w.alloc (.cells #[.slice A st.length c, .slice A2 wg.length c2] 95)).alloc (.cells #[.int .i64 (s : Int)] 3)).alloc (.cells #[.int .i64 0, .int .i64 0] 100)) = W0 at *
 have hz0 : W0.heap.size = w.heap.size + 3 := by rw [← hW0]; simp
 refine ⟨trivial, (callsIn_wide.2 hcl).mono ?_⟩; clear hcl hW0; rintro e W1 ⟨v1, rfl, hown, hu1⟩; obtain ⟨g, cap, rfl, hgb, hcap, hsp⟩ := Spc.ofOwn hown (by rw [comeL_len]; omega); rw [hz0] at hgb; have HI : Aside0 (ThI w g cap #[.slice A st.length c, .slice A2 wg.length c2] s ⟨0, 0⟩ (comeL st wg) W1) := ⟨⟨HU0.out.then hu1, HB2.out.up hu1, HB3.out.up hu1, HB5.out.up hu1, hsp, hgb⟩⟩; have hlen : (comeL st wg).length = st.length + 1 := comeL_len st wg; obtain ⟨N, hN⟩ : ∃ N, N = st.length + 1 := ⟨_, rfl⟩; rw [hlen, ← hN]; rw [hlen, ← hN] at hcap; have HCAP := Aside0.mk hcap; have HN := Aside0.mk hN; clear hown hsp hgb HB2 HB3 HB5 hz0 hcap hlen; have hu1' := Aside0.mk (HU0.out.then hu1); clear HU0 hu1 W0; have hq2 := HI.out.b2.cell; have hq3 := HI.out.b3.cell; obtain ⟨hx0, hx1⟩ := HI.out.cell s (by rw [comeL_len]; omega); rw [comeL_rd st wg s (by omega)] at hx0 hx1; have hxo := comeAt_ok HOK.out s (by omega); have HST := Aside0.mk (HOK.out.at s (by omega) (by omega)); have hqb := (onS_bn HST.out hxo (comeAt_bn HOK.out s (by omega))).2
 generalize hx : comeAt st wg s = x at *
 have HON : Aside0 (∀ W, Up W1 W → Calls Tryd.prog 101 #[.agg #[.slice A st.length c, .slice A2 wg.length c2], .int .i64 (s : Int), .agg #[.int .i64 x.lo, .int .i64 x.hi]] W fun e w' => e = .returned (.agg #[.int .i64 (onS (rdS st s) x).lo, .int .i64 (onS (rdS st s) x).hi]) ∧ Up W w') := ⟨fun W hu => on_ A c st A2 c2 wg s x W (C_up HR.out (HI.out.up.then hu)) hc (C_up HR2.out (HI.out.up.then hu)) hc2 hs0 hs1 HST.out hxo⟩; have HSE : Aside0 (∀ W (p : Int), Up w W → Calls Tryd.prog 68 #[.agg #[.slice A st.length c, .slice A2 wg.length c2], .int .i64 p] W fun e w' => e = .returned (.agg #[.int .i64 (seenS wg p).lo, .int .i64 (seenS wg p).hi]) ∧ Up W w') := ⟨fun W p hu => seen_ A c st A2 c2 wg p W (HGL.out.up hu) (C_up HR2.out hu) hc2 HOK.out.wgs⟩; have HT1 : Aside0 (thM st wg s (s + 1) = (comeL st wg).set (s + 1) (andS ⟨0, (onS (rdS st s) x).hi - 1⟩ (seenS wg ((s + 1 : Nat) : Int)))) := ⟨by rw [thM_succ, thM_zero, thA_at, hx]⟩
 have hse : ((s + 1 : Nat) : Int) = (s : Int) + 1 := by omega
 rw [hse] at HT1; obtain ⟨y, hy⟩ : ∃ y, y = onS (rdS st s) x := ⟨_, rfl⟩; rw [← hy] at HON HT1 hqb; have hwy : IntKind.i64.wrap (y.hi - 1) = y.hi - 1 := IntWalk.i64_in _ (by omega); have HS4 : Aside0 (∀ W' : World, Up W1 W' → W'.cell? ⟨w.heap.size, 0, none⟩ = some (.slice A st.length c) ∧ W'.cell? ⟨w.heap.size, 1, none⟩ = some (.slice A2 wg.length c2) ∧ W'.cell? ⟨w.heap.size + 1, 0, none⟩ = some (.int .i64 (s : Int)) ∧ W'.cell? ⟨g, s * 2, none⟩ = some (.int .i64 x.lo) ∧ W'.cell? ⟨g, s * 2 + 1, none⟩ = some (.int .i64 x.hi)) := ⟨fun W' hu => ⟨hu.cell (hq2 0), hu.cell (hq2 1), hu.cell (hq3 0), hu.cell hx0, hu.cell hx1⟩⟩
 have hsL : (s : Int) < (N : Int) := by omega
 have hsL1 : (s : Int) + 1 < (N : Int) := by omega
 clear hN; have hs2 : (0 : Int) ≤ (s : Int) + 1 := by omega
 have hst : ((s : Int) + 1).toNat = s + 1 := by omega
 have hfd1 := fld1; clear hx hxo hy hqb
 gi_wp2_with fail
 -- EV R2
 refine wpIn_wide.2 ?_; refine wp_region_noPanic ?_; refine start_ (n := 20) (S := fun W' => W'.cell? ⟨w.heap.size, 0, none⟩ = some (.slice A st.length c) ∧ W'.cell? ⟨w.heap.size, 1, none⟩ = some (.slice A2 wg.length c2) ∧ W'.cell? ⟨w.heap.size + 1, 0, none⟩ = some (.int .i64 (s : Int)) ∧ W'.cell? ⟨g, s * 2, none⟩ = some (.int .i64 x.lo) ∧ W'.cell? ⟨g, s * 2 + 1, none⟩ = some (.int .i64 x.hi)) (ds := [19]) (bm 20 0) sqF rfl rfl (HS4.out _ ((Up.refl W1).drew)) (fun hHeld => ?_); refine pure_ (i := 0) (N := (some 15)) (v := ?_) (a' := ?_) (bm 20 1) rfl rfl sqF (fun _ _ _ h => h) (Or.inl ⟨by rfl, ?_⟩) ?_ ?_
 rotate_left
 ·intro w'
  go_simp; with_reducible rfl
 rotate_left
 ·simp only [Act.put, sqA, i64_w, i32_w]; rfl
 refine pure_ (i := 5) (N := (some 20)) (v := ?_) (a' := ?_) (bm 20 33) rfl rfl sqF (fun _ _ _ h => h) (Or.inl ⟨by rfl, ?_⟩) ?_ ?_
 rotate_left
 ·intro w'
  go_simp; with_reducible rfl
 rotate_left
 ·simp only [Act.put, sqA, i64_w, i32_w]; rfl
 refine take_ (i := 1) (N := (some 16)) (v := ?_) (a' := ?_) (bm 20 35) rfl rfl sqF (fun _ _ _ h => h) (Or.inl ⟨by rfl, ?_⟩) hHeld ?_ ?_
 rotate_left
 ·rintro w' ⟨s0, s1, s2, s3, s4⟩
  go_simp; with_reducible rfl
 rotate_left
 ·simp only [Act.put, sqA, i64_w, i32_w]; rfl
 refine take_ (i := 4) (N := (some 19)) (v := ?_) (a' := ?_) (bm 20 51) rfl rfl sqF (fun _ _ _ h => h) (Or.inl ⟨by rfl, ?_⟩) hHeld ?_ ?_
 rotate_left
 ·rintro w' ⟨s0, s1, s2, s3, s4⟩
  go_simp; with_reducible rfl
 rotate_left
 ·simp only [Act.put, sqA, i64_w, i32_w]; rfl
 refine take_ (i := 6) (N := (some 21)) (v := ?_) (a' := ?_) (bm 20 115) rfl rfl sqF (fun _ _ _ h => h) (Or.inl ⟨by rfl, ?_⟩) hHeld ?_ ?_
 rotate_left
 ·rintro w' ⟨s0, s1, s2, s3, s4⟩
  go_simp; with_reducible rfl
 rotate_left
 ·simp only [Act.put, sqA, i64_w, i32_w]; rfl
 refine take_ (i := 14) (N := (some 29)) (v := ?_) (a' := ?_) (bm 20 16499) rfl rfl sqF (fun _ _ _ h => h) (Or.inl ⟨by rfl, ?_⟩) hHeld ?_ ?_
 rotate_left
 ·rintro w' ⟨s0, s1, s2, s3, s4⟩
  go_simp; with_reducible rfl
 rotate_left
 ·simp only [Act.put, sqA, i64_w, i32_w]; rfl
 refine take_ (i := 3) (N := (some 18)) (v := ?_) (a' := ?_) (bm 20 16507) rfl rfl sqF (fun _ _ _ h => h) (Or.inl ⟨by rfl, ?_⟩) hHeld ?_ ?_
 rotate_left
 ·rintro w' ⟨s0, s1, s2, s3, s4⟩
  go_simp; with_reducible rfl
 rotate_left
 ·simp only [Act.put, sqA, i64_w, i32_w]; rfl
 refine take_ (i := 13) (N := (some 28)) (v := ?_) (a' := ?_) (bm 20 24699) rfl rfl sqF (fun _ _ _ h => h) (Or.inl ⟨by rfl, ?_⟩) hHeld ?_ ?_
 rotate_left
 ·rintro w' ⟨s0, s1, s2, s3, s4⟩
  go_simp; with_reducible rfl
 rotate_left
 ·simp only [Act.put, sqA, i64_w, i32_w]; rfl
 refine pure_ (i := 2) (N := (some 17)) (v := ?_) (a' := ?_) (bm 20 24703) rfl rfl sqF (fun _ _ _ h => h) (Or.inl ⟨by rfl, ?_⟩) ?_ ?_
 rotate_left
 ·intro w'
  go_simp; with_reducible rfl
 rotate_left
 ·simp only [Act.put, sqA, i64_w, i32_w]; rfl
 refine pure_ (i := 15) (N := (some 30)) (v := ?_) (a' := ?_) (bm 20 57471) rfl rfl sqF (fun _ _ _ h => h) (Or.inl ⟨by rfl, ?_⟩) ?_ ?_
 rotate_left
 ·intro w'
  go_simp; with_reducible rfl
 rotate_left
 ·simp only [Act.put, sqA, i64_w, i32_w]; rfl
 refine take_ (i := 7) (N := (some 22)) (v := ?_) (a' := ?_) (bm 20 57599) rfl rfl sqF (fun _ _ _ h => h) (Or.inl ⟨by rfl, ?_⟩) hHeld ?_ ?_
 rotate_left
 ·rintro w' ⟨s0, s1, s2, s3, s4⟩
  go_simp; with_reducible rfl
 rotate_left
 ·simp only [Act.put, sqA, i64_w, i32_w]; rfl
 refine take_ (i := 8) (N := (some 23)) (v := ?_) (a' := ?_) (bm 20 57855) rfl rfl sqF (fun _ _ _ h => h) (Or.inl ⟨by rfl, ?_⟩) hHeld ?_ ?_
 rotate_left
 ·rintro w' ⟨s0, s1, s2, s3, s4⟩
  go_simp; with_reducible rfl
 rotate_left
 ·simp only [Act.put, sqA, i64_w, i32_w]; rfl
 refine one_ (i := 9) (N := (some 24)) (bm 20 58367) rfl rfl sqF (by decide) (fun K hK => ?_); refine goes_ Tryd.func101 sqF rfl #[.agg #[.slice A st.length c, .slice A2 wg.length c2], .int .i64 (s : Int), .agg #[.int .i64 x.lo, .int .i64 x.hi]] (by rfl) rfl rfl sqM ?_; refine (HON.out _ ((Up.refl W1).drew)).mono ?_; rintro e w3 ⟨rfl, hb⟩; have HV3 : Aside0 (Up W1 w3) := ⟨((Up.refl W1).drew).then hb⟩; clear hb; refine ⟨_, rfl, ?_⟩; refine hK.out _ _ (HS4.out _ HV3.out) (fun hHeld => ?_); clear hK K; refine norm_ (a' := ?_) ?_ ?_
 rotate_left
 ·show Act.put _ (some 24) _ = _
  simp only [Act.put, sqA, i64_w, i32_w]; rfl
 refine pure_ (i := 10) (N := (some 25)) (v := ?_) (a' := ?_) (bm 20 59391) rfl rfl sqF (fun _ _ _ h => h) (Or.inl ⟨by rfl, ?_⟩) ?_ ?_
 rotate_left
 ·intro w'
  go_simp; with_reducible rfl
 rotate_left
 ·simp only [Act.put, sqA, i64_w, i32_w]; rfl
 refine pure_ (i := 11) (N := (some 26)) (v := ?_) (a' := ?_) (bm 20 61439) rfl rfl sqF (fun _ _ _ h => h) (Or.inl ⟨by rfl, ?_⟩) ?_ ?_
 rotate_left
 ·intro w'
  go_simp; with_reducible rfl
 rotate_left
 ·simp only [Act.put, sqA, i64_w, i32_w]; rfl
 refine pure_ (i := 12) (N := (some 27)) (v := ?_) (a' := ?_) (bm 20 65535) rfl rfl sqF (fun _ _ _ h => h) (Or.inl ⟨by rfl, ?_⟩) ?_ ?_
 rotate_left
 ·intro w'
  go_simp; with_reducible rfl
 rotate_left
 ·simp only [Act.put, sqA, i64_w, i32_w]; rfl
 refine one_ (i := 16) (N := (some 31)) (bm 20 131071) rfl rfl sqF (by decide) (fun K hK => ?_); refine goes_ Tryd.func68 sqF rfl #[.agg #[.slice A st.length c, .slice A2 wg.length c2], .int .i64 ((s : Int) + 1)] (by rfl) rfl rfl sqM ?_; refine (HSE.out _ _ (HI.out.up.then HV3.out)).mono ?_; rintro e w4 ⟨rfl, hb⟩; have HV4 : Aside0 (Up W1 w4) := ⟨(HV3.out).then hb⟩; clear hb; refine ⟨_, rfl, ?_⟩; refine hK.out _ _ (HS4.out _ HV4.out) (fun hHeld => ?_); clear hK K; refine norm_ (a' := ?_) ?_ ?_
 rotate_left
 ·show Act.put _ (some 31) _ = _
  simp only [Act.put, sqA, i64_w, i32_w]; rfl
 refine one_ (i := 17) (N := (some 32)) (bm 20 262143) rfl rfl sqF (by decide) (fun K hK => ?_); refine goes_ Tryd.func63 sqF rfl #[.agg #[.int .i64 0, .int .i64 (y.hi - 1)], .agg #[.int .i64 (seenS wg ((s : Int) + 1)).lo, .int .i64 (seenS wg ((s : Int) + 1)).hi]] (by rfl) rfl rfl sqM ?_; refine (and_ ⟨0, y.hi - 1⟩ (seenS wg ((s : Int) + 1)) _).mono ?_; rintro e w5 ⟨rfl, hb⟩; have HV5 : Aside0 (Up W1 w5) := ⟨(HV4.out).then hb⟩; clear hb; refine ⟨_, rfl, ?_⟩; refine hK.out _ _ (HS4.out _ HV5.out) (fun hHeld => ?_); clear hK K; refine norm_ (a' := ?_) ?_ ?_
 rotate_left
 ·show Act.put _ (some 32) _ = _
  simp only [Act.put, sqA, i64_w, i32_w]; rfl
 refine one_ (i := 18) (N := (some 33)) (bm 20 524287) rfl rfl sqF (by decide) (fun K hK => ?_); refine value_ (v := ?_) (w1 := w5) (by rfl) rfl ?_ ?_
 rotate_left
 ·go_simp
  rfl
 refine hK.out _ _ hHeld (fun hHeld => ?_); clear hK K; refine norm_ (a' := ?_) ?_ ?_
 rotate_left
 ·show Act.put _ (some 33) _ = _
  simp only [Act.put, sqA, i64_w, i32_w]; rfl
 refine last_ (i := 19) (N := none) (bm 20 1048575) rfl rfl sqF (by decide) (fun K hK => ?_)
 have hyz := HI.out.then HV5.out
 obtain ⟨hz0, hz1⟩ := hyz.cell (s + 1) (by rw [comeL_len]; omega); have hfz := hyz.frozen; refine skip_ (w1 := ?_) (by rfl) rfl ?_ ?_
 rotate_left
 ·go_simp
  rfl
 refine hK.out _ _ ?_; clear hK K; have HI2 := Aside0.mk ((HI.out.then HV5.out).put (s + 1) (by rw [comeL_len]; omega) (andS ⟨0, y.hi - 1⟩ (seenS wg ((s : Int) + 1)))); rw [← HT1.out] at HI2; clear hyz hfz hz0 hz1; refine done_ sqF ?_; refine NoPanic.normal ?_
 -- END R2
 generalize ((w5.setCell ⟨g, (s + 1) * 2, none⟩ (.int .i64 (andS ⟨0, y.hi - 1⟩ (seenS wg ((s : Int) + 1))).lo)).setCell ⟨g, (s + 1) * 2 + 1, none⟩ (.int .i64 (andS ⟨0, y.hi - 1⟩ (seenS wg ((s : Int) + 1))).hi)) = W2 at *
 clear HV3 HV4 HV5 HS4 HON HT1 hwy HI hx0 hx1 hq2 hq3 hu1'; have hq3 := HI2.out.b3.cell
 gi_wp2_with fail
 have HI2' := HI2; clear hq3
 gi_loopw [7] (fun v7 W => ∃ i : Nat, s + 1 ≤ i ∧ i ≤ st.length ∧ v7 = .int .i64 (i : Int) ∧ Aside0 (ThI w g cap #[.slice A st.length c, .slice A2 wg.length c2] s ⟨0, 0⟩ (thM st wg s i) W)) (fun v7 _ => st.length - (intOf v7).toNat)
 case atStart => exact ⟨s + 1, Nat.le_refl _, by have := HS.out; omega, by congr 1, HI2'⟩
 case round =>
  clear HI2 HI2'; obtain ⟨i, hi1, hi2, rfl, HI⟩ := hrel; have hq2 := HI.out.b2.cell
  by_cases hlt : i < st.length
  ·have hi3 : (i : Int) < (st.length : Int) := by omega
   have hi0 : (0 : Int) ≤ (i : Int) := by omega
   have hwi : IntKind.i64.wrap ((i : Int) + 1) = (i : Int) + 1 := IntWalk.i64_in _ (by omega); have hq3 := HI.out.b3.cell; obtain ⟨hx0, hx1⟩ := HI.out.cell i (by rw [thM_len]; omega); rw [thM_rd st wg s i i (by omega), if_pos (Nat.le_refl _)] at hx0 hx1; have hxo := thA_ok HOK.out s HS.out i (by omega); have hti := HOK.out.at i (by omega) (by omega); have HT1 : Aside0 (thM st wg s (i + 1) = (thM st wg s i).set (i + 1) (andS (onS (rdS st i) (thA st wg s i)) (seenS wg ((i + 1 : Nat) : Int)))) := ⟨by rw [thM_succ, thA_gt _ _ _ _ (by omega)]⟩
   have hse : ((i + 1 : Nat) : Int) = (i : Int) + 1 := by omega
   rw [hse] at HT1
   generalize thA st wg s i = x at *
   have HON : Aside0 (∀ W, Up wr W → Calls Tryd.prog 101 #[.agg #[.slice A st.length c, .slice A2 wg.length c2], .int .i64 (i : Int), .agg #[.int .i64 x.lo, .int .i64 x.hi]] W fun e w' => e = .returned (.agg #[.int .i64 (onS (rdS st i) x).lo, .int .i64 (onS (rdS st i) x).hi]) ∧ Up W w') := ⟨fun W hu => on_ A c st A2 c2 wg i x W (C_up HR.out (HI.out.up.then hu)) hc (C_up HR2.out (HI.out.up.then hu)) hc2 hi0 hi3 hti hxo⟩; have HS4 : Aside0 (∀ W' : World, Up wr W' → W'.cell? ⟨w.heap.size, 0, none⟩ = some (.slice A st.length c) ∧ W'.cell? ⟨w.heap.size, 1, none⟩ = some (.slice A2 wg.length c2) ∧ W'.cell? ⟨w.heap.size + 1, 0, none⟩ = some (.int .i64 (s : Int)) ∧ W'.cell? ⟨g, i * 2, none⟩ = some (.int .i64 x.lo) ∧ W'.cell? ⟨g, i * 2 + 1, none⟩ = some (.int .i64 x.hi)) := ⟨fun W' hu => ⟨hu.cell (hq2 0), hu.cell (hq2 1), hu.cell (hq3 0), hu.cell hx0, hu.cell hx1⟩⟩
   have hsL : (i : Int) < (N : Int) := by have := HN.out; omega
   have hsL1 : (i : Int) + 1 < (N : Int) := by have := HN.out; omega
   have hs2 : (0 : Int) ≤ (i : Int) + 1 := by omega
   have hst : ((i : Int) + 1).toNat = i + 1 := by omega
   clear hxo hti; obtain ⟨y, hy⟩ : ∃ y, y = onS (rdS st i) x := ⟨_, rfl⟩; rw [← hy] at HON HT1; clear hy
   gi_wp2_with fail
   -- EV R6
   refine wpIn_wide.2 ?_; refine wp_region_noPanic ?_; refine start_ (n := 17) (S := fun W' => W'.cell? ⟨w.heap.size, 0, none⟩ = some (.slice A st.length c) ∧ W'.cell? ⟨w.heap.size, 1, none⟩ = some (.slice A2 wg.length c2) ∧ W'.cell? ⟨w.heap.size + 1, 0, none⟩ = some (.int .i64 (s : Int)) ∧ W'.cell? ⟨g, i * 2, none⟩ = some (.int .i64 x.lo) ∧ W'.cell? ⟨g, i * 2 + 1, none⟩ = some (.int .i64 x.hi)) (ds := [16]) (bm 17 0) sqF rfl rfl (HS4.out _ ((Up.refl wr).drew)) (fun hHeld => ?_); refine pure_ (i := 0) (N := (some 44)) (v := ?_) (a' := ?_) (bm 17 1) rfl rfl sqF (fun _ _ _ h => h) (Or.inl ⟨by rfl, ?_⟩) ?_ ?_
   rotate_left
   ·intro w'
    go_simp; with_reducible rfl
   rotate_left
   ·simp only [Act.put, sqA, i64_w, i32_w]; rfl
   refine pure_ (i := 1) (N := (some 45)) (v := ?_) (a' := ?_) (bm 17 3) rfl rfl sqF (fun _ _ _ h => h) (Or.inl ⟨by rfl, ?_⟩) ?_ ?_
   rotate_left
   ·intro w'
    go_simp; with_reducible rfl
   rotate_left
   ·simp only [Act.put, sqA, i64_w, i32_w]; rfl
   refine pure_ (i := 2) (N := (some 46)) (v := ?_) (a' := ?_) (bm 17 7) rfl rfl sqF (fun _ _ _ h => h) (Or.inl ⟨by rfl, ?_⟩) ?_ ?_
   rotate_left
   ·intro w'
    go_simp; with_reducible rfl
   rotate_left
   ·simp only [Act.put, sqA, i64_w, i32_w]; rfl
   refine take_ (i := 3) (N := (some 47)) (v := ?_) (a' := ?_) (bm 17 15) rfl rfl sqF (fun _ _ _ h => h) (Or.inl ⟨by rfl, ?_⟩) hHeld ?_ ?_
   rotate_left
   ·rintro w' ⟨s0, s1, s2, s3, s4⟩
    go_simp; with_reducible rfl
   rotate_left
   ·simp only [Act.put, sqA, i64_w, i32_w]; rfl
   refine pure_ (i := 4) (N := (some 48)) (v := ?_) (a' := ?_) (bm 17 31) rfl rfl sqF (fun _ _ _ h => h) (Or.inl ⟨by rfl, ?_⟩) ?_ ?_
   rotate_left
   ·intro w'
    go_simp; with_reducible rfl
   rotate_left
   ·simp only [Act.put, sqA, i64_w, i32_w]; rfl
   refine pure_ (i := 5) (N := (some 49)) (v := ?_) (a' := ?_) (bm 17 63) rfl rfl sqF (fun _ _ _ h => h) (Or.inl ⟨by rfl, ?_⟩) ?_ ?_
   rotate_left
   ·intro w'
    go_simp; with_reducible rfl
   rotate_left
   ·simp only [Act.put, sqA, i64_w, i32_w]; rfl
   refine pure_ (i := 6) (N := (some 50)) (v := ?_) (a' := ?_) (bm 17 127) rfl rfl sqF (fun _ _ _ h => h) (Or.inl ⟨by rfl, ?_⟩) ?_ ?_
   rotate_left
   ·intro w'
    go_simp; with_reducible rfl
   rotate_left
   ·simp only [Act.put, sqA, i64_w, i32_w]; rfl
   refine take_ (i := 7) (N := (some 51)) (v := ?_) (a' := ?_) (bm 17 255) rfl rfl sqF (fun _ _ _ h => h) (Or.inl ⟨by rfl, ?_⟩) hHeld ?_ ?_
   rotate_left
   ·rintro w' ⟨s0, s1, s2, s3, s4⟩
    go_simp; with_reducible rfl
   rotate_left
   ·simp only [Act.put, sqA, i64_w, i32_w]; rfl
   refine take_ (i := 8) (N := (some 52)) (v := ?_) (a' := ?_) (bm 17 511) rfl rfl sqF (fun _ _ _ h => h) (Or.inl ⟨by rfl, ?_⟩) hHeld ?_ ?_
   rotate_left
   ·rintro w' ⟨s0, s1, s2, s3, s4⟩
    go_simp; with_reducible rfl
   rotate_left
   ·simp only [Act.put, sqA, i64_w, i32_w]; rfl
   refine take_ (i := 10) (N := (some 54)) (v := ?_) (a' := ?_) (bm 17 1535) rfl rfl sqF (fun _ _ _ h => h) (Or.inl ⟨by rfl, ?_⟩) hHeld ?_ ?_
   rotate_left
   ·rintro w' ⟨s0, s1, s2, s3, s4⟩
    go_simp; with_reducible rfl
   rotate_left
   ·simp only [Act.put, sqA, i64_w, i32_w]; rfl
   refine pure_ (i := 11) (N := (some 55)) (v := ?_) (a' := ?_) (bm 17 3583) rfl rfl sqF (fun _ _ _ h => h) (Or.inl ⟨by rfl, ?_⟩) ?_ ?_
   rotate_left
   ·intro w'
    go_simp; with_reducible rfl
   rotate_left
   ·simp only [Act.put, sqA, i64_w, i32_w]; rfl
   refine pure_ (i := 12) (N := (some 56)) (v := ?_) (a' := ?_) (bm 17 7679) rfl rfl sqF (fun _ _ _ h => h) (Or.inl ⟨by rfl, ?_⟩) ?_ ?_
   rotate_left
   ·intro w'
    go_simp; with_reducible rfl
   rotate_left
   ·simp only [Act.put, sqA, i64_w, i32_w]; rfl
   refine one_ (i := 9) (N := (some 53)) (bm 17 8191) rfl rfl sqF (by decide) (fun K hK => ?_); refine goes_ Tryd.func101 sqF rfl #[.agg #[.slice A st.length c, .slice A2 wg.length c2], .int .i64 (i : Int), .agg #[.int .i64 x.lo, .int .i64 x.hi]] (by rfl) rfl rfl sqM ?_; refine (HON.out _ ((Up.refl wr).drew)).mono ?_; rintro e w3 ⟨rfl, hb⟩; have HV3 : Aside0 (Up wr w3) := ⟨((Up.refl wr).drew).then hb⟩; clear hb; refine ⟨_, rfl, ?_⟩; refine hK.out _ _ (HS4.out _ HV3.out) (fun hHeld => ?_); clear hK K; refine norm_ (a' := ?_) ?_ ?_
   rotate_left
   ·show Act.put _ (some 53) _ = _
    simp only [Act.put, sqA, i64_w, i32_w]; rfl
   refine one_ (i := 13) (N := (some 57)) (bm 17 16383) rfl rfl sqF (by decide) (fun K hK => ?_); refine goes_ Tryd.func68 sqF rfl #[.agg #[.slice A st.length c, .slice A2 wg.length c2], .int .i64 ((i : Int) + 1)] (by rfl) rfl rfl sqM ?_; refine (HSE.out _ _ (HI.out.up.then HV3.out)).mono ?_; rintro e w4 ⟨rfl, hb⟩; have HV4 : Aside0 (Up wr w4) := ⟨(HV3.out).then hb⟩; clear hb; refine ⟨_, rfl, ?_⟩; refine hK.out _ _ (HS4.out _ HV4.out) (fun hHeld => ?_); clear hK K; refine norm_ (a' := ?_) ?_ ?_
   rotate_left
   ·show Act.put _ (some 57) _ = _
    simp only [Act.put, sqA, i64_w, i32_w]; rfl
   refine one_ (i := 14) (N := (some 58)) (bm 17 32767) rfl rfl sqF (by decide) (fun K hK => ?_); refine goes_ Tryd.func63 sqF rfl #[.agg #[.int .i64 y.lo, .int .i64 y.hi], .agg #[.int .i64 (seenS wg ((i : Int) + 1)).lo, .int .i64 (seenS wg ((i : Int) + 1)).hi]] (by rfl) rfl rfl sqM ?_; refine (and_ y (seenS wg ((i : Int) + 1)) _).mono ?_; rintro e w5 ⟨rfl, hb⟩; have HV5 : Aside0 (Up wr w5) := ⟨(HV4.out).then hb⟩; clear hb; refine ⟨_, rfl, ?_⟩; refine hK.out _ _ (HS4.out _ HV5.out) (fun hHeld => ?_); clear hK K; refine norm_ (a' := ?_) ?_ ?_
   rotate_left
   ·show Act.put _ (some 58) _ = _
    simp only [Act.put, sqA, i64_w, i32_w]; rfl
   refine one_ (i := 15) (N := (some 59)) (bm 17 65535) rfl rfl sqF (by decide) (fun K hK => ?_); refine value_ (v := ?_) (w1 := w5) (by rfl) rfl ?_ ?_
   rotate_left
   ·go_simp
    rfl
   refine hK.out _ _ hHeld (fun hHeld => ?_); clear hK K; refine norm_ (a' := ?_) ?_ ?_
   rotate_left
   ·show Act.put _ (some 59) _ = _
    simp only [Act.put, sqA, i64_w, i32_w]; rfl
   refine last_ (i := 16) (N := none) (bm 17 131071) rfl rfl sqF (by decide) (fun K hK => ?_)
   have hyz := HI.out.then HV5.out
   obtain ⟨hz0, hz1⟩ := hyz.cell (i + 1) (by rw [thM_len]; omega); have hfz := hyz.frozen; refine skip_ (w1 := ?_) (by rfl) rfl ?_ ?_
   rotate_left
   ·go_simp
    rfl
   refine hK.out _ _ ?_; clear hK K; have HI2 := Aside0.mk ((HI.out.then HV5.out).put (i + 1) (by rw [thM_len]; omega) (andS y (seenS wg ((i : Int) + 1)))); rw [← HT1.out] at HI2; clear hyz hfz hz0 hz1; refine done_ sqF ?_; refine NoPanic.normal ?_
   generalize ((w5.setCell ⟨g, (i + 1) * 2, none⟩ (.int .i64 (andS y (seenS wg ((i : Int) + 1))).lo)).setCell ⟨g, (i + 1) * 2 + 1, none⟩ (.int .i64 (andS y (seenS wg ((i : Int) + 1))).hi)) = W2 at *
   gi_wp2_with fail
   go_roundw
   case rel => exact ⟨i + 1, by omega, by omega, by congr 1, HI2⟩
   case measure => simp [intOf]; omega
   -- END R6
  ·obtain rfl : i = st.length := by omega
   have hi3 : ¬ ((st.length : Int) < (st.length : Int)) := by omega
   have hq3 := HI.out.b3.cell
   have hsN : (s : Int) + 1 ≤ (N : Int) := by have := HN.out; omega
   have hcs1 : s + 1 < cap := by have := HN.out; have := HCAP.out; have := HS.out; omega
   have hcs2 : ¬ cap - (s + 1) = 0 := by omega
   have hcs3 : ¬ cap = s + 1 := by omega
   have hcs4 : ¬ cap ≤ s + 1 := by omega
   have hcs5 : (s : Int) + 1 ≠ (cap : Int) := by omega
   have hlt2 := HI.out.b2.lt; have hlt3 := HI.out.b3.lt; have hlt5 := HI.out.b5.lt
   gi_wp2_with fail
   have HJ0 : Aside0 (ThR w g cap #[.slice A st.length c, .slice A2 wg.length c2] s wr.heap.size (N - (s + 1)) (cap - (s + 1)) st.length st (thL2 st wg s) [] (wr.alloc (.cells #[.slice (some ⟨g, (s + 1) * 2, none⟩) (N - (s + 1)) (cap - (s + 1))] 96))) := ⟨by
    refine ⟨?_, Bx.new wr _ _⟩; rw [show ([] : List Nat).length = 0 from rfl, Nat.zero_min, gst_zero]
    exact HI.out.then ((Up.refl wr).alloc _)⟩
   have hwz : w.heap.size ≤ wr.heap.size := HI.out.up.le; clear hcs1 hcs2 hcs3 hcs4 hcs5 hlt2 hlt3 hlt5 hq2 hq3 HI hi1 hi2 hlt; obtain ⟨M, hM⟩ : ∃ M, M = N - (s + 1) := ⟨_, rfl⟩; obtain ⟨KC, hKC⟩ : ∃ KC, KC = cap - (s + 1) := ⟨_, rfl⟩; obtain ⟨W3, hW3⟩ : ∃ W3, W3 = wr.alloc (.cells #[.slice (some ⟨g, (s + 1) * 2, none⟩) (N - (s + 1)) (cap - (s + 1))] 96) := ⟨_, rfl⟩; rw [← hW3] at HJ0; rw [← hW3]; rw [← hM, ← hKC] at HJ0; simp only [← hM, ← hKC]; have hwz3 : w.heap.size ≤ W3.heap.size := HJ0.out.i.up.le; have HM := Aside0.mk hM; clear hW3 hM hKC; obtain ⟨B8, hB8⟩ : ∃ B, B = wr.heap.size := ⟨_, rfl⟩; rw [← hB8] at HJ0 hwz; simp only [← hB8]; clear hB8; have hJ0 := HJ0.out
   clear HJ0; apply range_gives_fr (F := Fence.wide) (n := 7) rfl (by omega) (gf := 102) (pb := #[.agg #[.slice A st.length c, .slice A2 wg.length c2]]) (lb := #[]) rfl trivial (enters_of Tryd.func102 sqF rfl) (G := isN) (lo := ptLo) (ow := noOw) (L := downL st.length) ((points_gives A st.length c A2 wg.length c2 W3 hl1).any 6) (Up.refl _) rfl (fun _ _ _ _ _ _ _ _ h => h)
    (ThR w g cap #[.slice A st.length c, .slice A2 wg.length c2] s B8 M KC st.length st (thL2 st wg s)) (ThR.stays hwz3) hJ0
    ?assign ?body ?done
   case assign =>
    intro l v Wd K hK; have HK := Aside0.mk hK; clear hK
    gi_wp2_with fail
    exact HK.out
   case done =>
    intro D Wd hD hI hDd
    have hdl : ∀ n : Nat, (downL n).length = n + 1 := by
     intro n
     induction n with
     | zero => rfl
     | succ n ih => simp [downL, ih]
    have HJ : Aside0 (ThJ w g cap #[.slice A st.length c, .slice A2 wg.length c2] s B8 M KC D ⟨0, 0⟩ (thL3 st wg s) Wd) := by
     refine ⟨⟨?_, hI.b8, hDd, by omega⟩⟩; have := hI.i; rw [hdl, Nat.min_eq_right (by omega)] at this; exact this
    clear hdl hI hDd hJ0; have hcl := containsNone (some ⟨g, 0, none⟩) cap (thL3 st wg s) Wd (HJ.out.C (by rw [thL3_len]; omega)) HJ.out.i.capL; rw [thL3_len, ← HN.out] at hcl
    gi_wp2_with fail
    refine ⟨trivial, (callsIn_wide.2 hcl).mono ?_⟩; clear hcl; rintro e W4 ⟨rfl, hu4⟩; have HJ4 := Aside0.mk (HJ.out.then hu4); clear hu4 HJ; have hl3 := thL3_len st wg s
    cases h3 : (thL3 st wg s).any noneB
    case true =>
     have hq5 := HJ4.out.i.b5.cell; have hf5 := HJ4.out.i.b5.frozen; have HK0 : Aside0 (thOk st wg s = false) := ⟨by unfold thOk; rw [h3]; rfl⟩; clear h3
     gi_wp2_with fail
     have HJ5 := Aside0.mk (HJ4.out.amt ⟨0, 0⟩); refine ⟨by simp, .inl ⟨_, _, rfl, run_takeDeferred HJ5.out.d, ?_⟩⟩; have hfin := HJ5.out.fin; have hq5 := hfin.b5.cell; refine ⟨.tuple #[.slice none 0 0, .agg #[.int .i64 0, .int .i64 0], .bool false], ?_, .slice none 0 0, ?_, ?_, hfin.up⟩
     ·simp [results, Tryd.f72, go_sem, hq5]
     ·simp [thR, HK0.out]
     ·rw [thL, HK0.out]; exact ⟨rfl, .inl ⟨rfl, rfl⟩⟩
    case false =>
     have HF := Aside0.mk (any_full (thL3_ok HOK.out s HS.out) h3); have HN3 := Aside0.mk h3; have hfx := rd_full HF.out s (by rw [thL3_len]; omega); have hfy := rd_full HF.out (s + 1) (by rw [thL3_len]; omega); clear h3; obtain ⟨x3, hx3⟩ : ∃ x, x = rdS (thL3 st wg s) s := ⟨_, rfl⟩; obtain ⟨y3, hy3⟩ : ∃ y, y = rdS (thL3 st wg s) ((s + 1 : Nat) : Int) := ⟨_, rfl⟩; rw [← hx3] at hfx; rw [← hy3] at hfy; have HX3 := Aside0.mk hx3; have HY3 := Aside0.mk hy3; obtain ⟨hfx0, hfx1, hfx2⟩ := hfx; obtain ⟨hfy0, hfy1, hfy2⟩ := hfy
     have HJ5 : Aside0 (ThJ w g cap #[.slice A st.length c, .slice A2 wg.length c2] s B8 M KC D ⟨0, 0⟩ ((thL3 st wg s).set s ⟨x3.lo + ((0 : Nat) : Int), x3.hi⟩) W4) := ⟨by
      have h9 := HJ4.out
      have e : (⟨x3.lo + ((0 : Nat) : Int), x3.hi⟩ : Sp) = rdS (thL3 st wg s) s := by rw [← hx3]; simp
      rw [e, set_rd (by rw [hl3]; omega)]
      exact h9⟩
     have hM0 : 0 < M := by have := HM.out; have := HN.out; have := HS.out; omega
     clear hx3 hy3 hl3
     gi_wp2_with fail
     gi_loopw [] (fun W => ∃ d m : Nat, d + m = 402 ∧ x3.lo + (d : Int) ≤ x3.hi + 1 ∧ Aside0 (trimLo (rdS st s) ⟨y3.lo + 1, 0⟩ 402 x3 = trimLo (rdS st s) ⟨y3.lo + 1, 0⟩ m ⟨x3.lo + (d : Int), x3.hi⟩) ∧ Aside0 (ThJ w g cap #[.slice A st.length c, .slice A2 wg.length c2] s B8 M KC D ⟨0, 0⟩ ((thL3 st wg s).set s ⟨x3.lo + (d : Int), x3.hi⟩) W)) (fun W => (402 - loOf W ⟨g, s * 2, none⟩).toNat)
     case atStart => exact ⟨0, 402, rfl, by omega, ⟨by simp⟩, HJ5⟩
     case round =>
      clear HJ4 HJ5; obtain ⟨d, m, hdm, hdl, HT, HJ⟩ := hrel
      have hL : ((thL3 st wg s).set s ⟨x3.lo + (d : Int), x3.hi⟩).length = st.length + 1 := by rw [List.length_set, thL3_len]
      obtain ⟨ca, cb⟩ := HJ.out.i.cell s (by rw [hL]; omega); obtain ⟨cc, cd⟩ := HJ.out.i.cell (s + 1) (by rw [hL]; omega); rw [rd_set _ (by rw [thL3_len]; omega), if_pos rfl] at ca cb; rw [rd_set _ (by rw [thL3_len]; omega), if_neg (by omega), ← HY3.out] at cc cd; obtain ⟨v, hv⟩ : ∃ v, v = x3.lo + (d : Int) := ⟨_, rfl⟩; rw [← hv] at ca cb hdl HT HJ; have HV := Aside0.mk hv
      have hv0 : 0 ≤ v := by omega
      have hq2 := HJ.out.i.b2.cell; have hq3 := HJ.out.i.b3.cell; have hq8 := HJ.out.b8.cell
      have hMES : (402 - loOf wr ⟨g, s * 2, none⟩).toNat = (402 - v).toNat := by unfold loOf; rw [ca]
      have HS4 : Aside0 (∀ W' : World, Up wr W' → W'.cell? ⟨w.heap.size, 0, none⟩ = some (.slice A st.length c) ∧ W'.cell? ⟨w.heap.size, 1, none⟩ = some (.slice A2 wg.length c2) ∧ W'.cell? ⟨w.heap.size + 1, 0, none⟩ = some (.int .i64 (s : Int)) ∧ W'.cell? ⟨B8, 0, none⟩ = some (.slice (some ⟨g, (s + 1) * 2, none⟩) M KC) ∧ W'.cell? ⟨g, s * 2, none⟩ = some (.int .i64 v) ∧ W'.cell? ⟨g, s * 2 + 1, none⟩ = some (.int .i64 x3.hi) ∧ W'.cell? ⟨g, (s + 1) * 2, none⟩ = some (.int .i64 y3.lo) ∧ W'.cell? ⟨g, (s + 1) * 2 + 1, none⟩ = some (.int .i64 y3.hi)) := ⟨fun W' hu => ⟨hu.cell (hq2 0), hu.cell (hq2 1), hu.cell (hq3 0), hu.cell (hq8 0), hu.cell ca, hu.cell cb, hu.cell cc, hu.cell cd⟩⟩; have HMES := Aside0.mk hMES; clear hL hq2 hq3 hq8 ca cb cc cd hMES hv
      by_cases hn : v > x3.hi
      case' neg =>
       have hdec : decide (v > x3.hi) = false := by simp [hn]
       have HLC : Aside0 (∀ W : World, Up wr W → Calls Tryd.prog 62 #[.agg #[.slice A st.length c, .slice A2 wg.length c2], .int .i64 (s : Int), .int .i64 v] W fun e w' => e = .returned (.agg #[.int .i64 (loS (rdS st s) v), .int .i64 (hiS (rdS st s) v)]) ∧ Up W w') := ⟨fun W hu => left_ A c st A2 c2 wg s v W (C_up HR.out (HJ.out.i.up.then hu)) hc (C_up HR2.out (HJ.out.i.up.then hu)) hc2 hs0 hs1 HST.out ⟨hv0, by omega⟩⟩; have hwq : IntKind.i64.wrap (hiS (rdS st s) v - 1) = hiS (rdS st s) v - 1 := IntWalk.i64_in _ (by have := hiS_le HST.out hv0; have := loS_hiS HST.out hv0; have := loS_nn HST.out hv0; omega); have hfd1 := fld1
       gi_wp2_with fail
       refine wpIn_wide.2 ?_; refine wp_region_noPanic ?_; refine start_ (n := 23) (S := fun W' => W'.cell? ⟨w.heap.size, 0, none⟩ = some (.slice A st.length c) ∧ W'.cell? ⟨w.heap.size, 1, none⟩ = some (.slice A2 wg.length c2) ∧ W'.cell? ⟨w.heap.size + 1, 0, none⟩ = some (.int .i64 (s : Int)) ∧ W'.cell? ⟨B8, 0, none⟩ = some (.slice (some ⟨g, (s + 1) * 2, none⟩) M KC) ∧ W'.cell? ⟨g, s * 2, none⟩ = some (.int .i64 v) ∧ W'.cell? ⟨g, s * 2 + 1, none⟩ = some (.int .i64 x3.hi) ∧ W'.cell? ⟨g, (s + 1) * 2, none⟩ = some (.int .i64 y3.lo) ∧ W'.cell? ⟨g, (s + 1) * 2 + 1, none⟩ = some (.int .i64 y3.hi)) (ds := []) (bm 23 0) sqF rfl rfl (HS4.out _ ((Up.refl wr).drew)) (fun hHeld => ?_); refine pure_ (i := 0) (N := (some 103)) (v := ?_) (a' := ?_) (bm 23 1) rfl rfl sqF (fun _ _ _ h => h) (Or.inl ⟨by rfl, ?_⟩) ?_ ?_
       rotate_left
       ·intro w'
        go_simp; with_reducible rfl
       rotate_left
       ·simp only [Act.put, sqA, i64_w, i32_w]; rfl
       refine take_ (i := 1) (N := (some 104)) (v := ?_) (a' := ?_) (bm 23 3) rfl rfl sqF (fun _ _ _ h => h) (Or.inl ⟨by rfl, ?_⟩) hHeld ?_ ?_
       rotate_left
       ·rintro w' ⟨s0, s1, s2, s3, s4, s5, s6, s7⟩
        go_simp; with_reducible rfl
       rotate_left
       ·simp only [Act.put, sqA, i64_w, i32_w]; rfl
       refine take_ (i := 2) (N := (some 105)) (v := ?_) (a' := ?_) (bm 23 7) rfl rfl sqF (fun _ _ _ h => h) (Or.inl ⟨by rfl, ?_⟩) hHeld ?_ ?_
       rotate_left
       ·rintro w' ⟨s0, s1, s2, s3, s4, s5, s6, s7⟩
        go_simp; with_reducible rfl
       rotate_left
       ·simp only [Act.put, sqA, i64_w, i32_w]; rfl
       refine take_ (i := 3) (N := (some 106)) (v := ?_) (a' := ?_) (bm 23 15) rfl rfl sqF (fun _ _ _ h => h) (Or.inl ⟨by rfl, ?_⟩) hHeld ?_ ?_
       rotate_left
       ·rintro w' ⟨s0, s1, s2, s3, s4, s5, s6, s7⟩
        go_simp; with_reducible rfl
       rotate_left
       ·simp only [Act.put, sqA, i64_w, i32_w]; rfl
       refine one_ (i := 4) (N := (some 107)) (bm 23 31) rfl rfl sqF (by decide) (fun K hK => ?_); refine goes_ Tryd.func82 sqF rfl #[.agg #[.int .i64 v, .int .i64 x3.hi]] (by rfl) rfl rfl sqM ?_; refine (isNone_ ⟨v, x3.hi⟩ _).mono ?_; rintro e w3 ⟨rfl, hb⟩; simp only [hdec]; have HV3 : Aside0 (Up wr w3) := ⟨((Up.refl wr).drew).then hb⟩; clear hb; refine ⟨_, rfl, ?_⟩; refine hK.out _ _ (HS4.out _ HV3.out) (fun hHeld => ?_); clear hK K; refine norm_ (a' := ?_) ?_ ?_
       rotate_left
       ·show Act.put _ (some 107) _ = _
        simp only [Act.put, sqA, i64_w, i32_w]; rfl
       refine pure_ (i := 5) (N := (some 108)) (v := ?_) (a' := ?_) (bm 23 63) rfl rfl sqF (fun _ _ _ h => h) (Or.inl ⟨by rfl, ?_⟩) ?_ ?_
       rotate_left
       ·intro w'
        go_simp; with_reducible rfl
       rotate_left
       ·simp only [Act.put, sqA, i64_w, i32_w]; rfl
       refine pure_ (i := 6) (N := (some 109)) (v := ?_) (a' := ?_) (bm 23 127) rfl rfl sqF (fun _ _ _ h => h) (Or.inl ⟨by rfl, ?_⟩) ?_ ?_
       rotate_left
       ·intro w'
        go_simp; with_reducible rfl
       rotate_left
       ·simp only [Act.put, sqA, i64_w, i32_w]; rfl
       refine take_ (i := 7) (N := (some 110)) (v := ?_) (a' := ?_) (bm 23 255) rfl rfl sqF (fun _ _ _ h => h) (Or.inl ⟨by rfl, ?_⟩) hHeld ?_ ?_
       rotate_left
       ·rintro w' ⟨s0, s1, s2, s3, s4, s5, s6, s7⟩
        go_simp; with_reducible rfl
       rotate_left
       ·simp only [Act.put, sqA, i64_w, i32_w]; rfl
       refine take_ (i := 8) (N := (some 111)) (v := ?_) (a' := ?_) (bm 23 511) rfl rfl sqF (fun _ _ _ h => h) (Or.inl ⟨by rfl, ?_⟩) hHeld ?_ ?_
       rotate_left
       ·rintro w' ⟨s0, s1, s2, s3, s4, s5, s6, s7⟩
        go_simp; with_reducible rfl
       rotate_left
       ·simp only [Act.put, sqA, i64_w, i32_w]; rfl
       refine pure_ (i := 9) (N := (some 112)) (v := ?_) (a' := ?_) (bm 23 1023) rfl rfl sqF (fun _ _ _ h => h) (Or.inl ⟨by rfl, ?_⟩) ?_ ?_
       rotate_left
       ·intro w'
        go_simp; with_reducible rfl
       rotate_left
       ·simp only [Act.put, sqA, i64_w, i32_w]; rfl
       refine take_ (i := 10) (N := (some 113)) (v := ?_) (a' := ?_) (bm 23 2047) rfl rfl sqF (fun _ _ _ h => h) (Or.inl ⟨by rfl, ?_⟩) hHeld ?_ ?_
       rotate_left
       ·rintro w' ⟨s0, s1, s2, s3, s4, s5, s6, s7⟩
        go_simp; with_reducible rfl
       rotate_left
       ·simp only [Act.put, sqA, i64_w, i32_w]; rfl
       refine take_ (i := 11) (N := (some 114)) (v := ?_) (a' := ?_) (bm 23 4095) rfl rfl sqF (fun _ _ _ h => h) (Or.inl ⟨by rfl, ?_⟩) hHeld ?_ ?_
       rotate_left
       ·rintro w' ⟨s0, s1, s2, s3, s4, s5, s6, s7⟩
        go_simp; with_reducible rfl
       rotate_left
       ·simp only [Act.put, sqA, i64_w, i32_w]; rfl
       refine take_ (i := 12) (N := (some 115)) (v := ?_) (a' := ?_) (bm 23 8191) rfl rfl sqF (fun _ _ _ h => h) (Or.inl ⟨by rfl, ?_⟩) hHeld ?_ ?_
       rotate_left
       ·rintro w' ⟨s0, s1, s2, s3, s4, s5, s6, s7⟩
        go_simp; with_reducible rfl
       rotate_left
       ·simp only [Act.put, sqA, i64_w, i32_w]; rfl
       refine take_ (i := 13) (N := (some 116)) (v := ?_) (a' := ?_) (bm 23 16383) rfl rfl sqF (fun _ _ _ h => h) (Or.inl ⟨by rfl, ?_⟩) hHeld ?_ ?_
       rotate_left
       ·rintro w' ⟨s0, s1, s2, s3, s4, s5, s6, s7⟩
        go_simp; with_reducible rfl
       rotate_left
       ·simp only [Act.put, sqA, i64_w, i32_w]; rfl
       refine take_ (i := 17) (N := (some 120)) (v := ?_) (a' := ?_) (bm 23 147455) rfl rfl sqF (fun _ _ _ h => h) (Or.inl ⟨by rfl, ?_⟩) hHeld ?_ ?_
       rotate_left
       ·rintro w' ⟨s0, s1, s2, s3, s4, s5, s6, s7⟩
        go_simp; with_reducible rfl
       rotate_left
       ·simp only [Act.put, sqA, i64_w, i32_w]; rfl
       refine take_ (i := 18) (N := (some 121)) (v := ?_) (a' := ?_) (bm 23 409599) rfl rfl sqF (fun _ _ _ h => h) (Or.inl ⟨by rfl, ?_⟩) hHeld ?_ ?_
       rotate_left
       ·rintro w' ⟨s0, s1, s2, s3, s4, s5, s6, s7⟩
        go_simp; with_reducible rfl
       rotate_left
       ·simp only [Act.put, sqA, i64_w, i32_w]; rfl
       refine take_ (i := 19) (N := (some 122)) (v := ?_) (a' := ?_) (bm 23 933887) rfl rfl sqF (fun _ _ _ h => h) (Or.inl ⟨by rfl, ?_⟩) hHeld ?_ ?_
       rotate_left
       ·rintro w' ⟨s0, s1, s2, s3, s4, s5, s6, s7⟩
        go_simp; with_reducible rfl
       rotate_left
       ·simp only [Act.put, sqA, i64_w, i32_w]; rfl
       refine take_ (i := 20) (N := (some 123)) (v := ?_) (a' := ?_) (bm 23 1982463) rfl rfl sqF (fun _ _ _ h => h) (Or.inl ⟨by rfl, ?_⟩) hHeld ?_ ?_
       rotate_left
       ·rintro w' ⟨s0, s1, s2, s3, s4, s5, s6, s7⟩
        go_simp; with_reducible rfl
       rotate_left
       ·simp only [Act.put, sqA, i64_w, i32_w]; rfl
       refine one_ (i := 14) (N := (some 117)) (bm 23 1998847) rfl rfl sqF (by decide) (fun K hK => ?_); refine goes_ Tryd.func62 sqF rfl #[.agg #[.slice A st.length c, .slice A2 wg.length c2], .int .i64 (s : Int), .int .i64 v] (by rfl) rfl rfl sqM ?_; refine (HLC.out _ HV3.out).mono ?_; rintro e w4 ⟨rfl, hb⟩; have HV4 : Aside0 (Up wr w4) := ⟨(HV3.out).then hb⟩; clear hb; refine ⟨_, rfl, ?_⟩; refine hK.out _ _ (HS4.out _ HV4.out) (fun hHeld => ?_); clear hK K; refine norm_ (a' := ?_) ?_ ?_
       rotate_left
       ·show Act.put _ (some 117) _ = _
        simp only [Act.put, sqA, i64_w, i32_w]; rfl
       refine pure_ (i := 15) (N := (some 118)) (v := ?_) (a' := ?_) (bm 23 2031615) rfl rfl sqF (fun _ _ _ h => h) (Or.inl ⟨by rfl, ?_⟩) ?_ ?_
       rotate_left
       ·intro w'
        go_simp; with_reducible rfl
       rotate_left
       ·simp only [Act.put, sqA, i64_w, i32_w]; rfl
       refine pure_ (i := 16) (N := (some 119)) (v := ?_) (a' := ?_) (bm 23 2097151) rfl rfl sqF (fun _ _ _ h => h) (Or.inl ⟨by rfl, ?_⟩) ?_ ?_
       rotate_left
       ·intro w'
        go_simp; with_reducible rfl
       rotate_left
       ·simp only [Act.put, sqA, i64_w, i32_w]; rfl
       refine pure_ (i := 21) (N := (some 124)) (v := ?_) (a' := ?_) (bm 23 4194303) rfl rfl sqF (fun _ _ _ h => h) (Or.inl ⟨by rfl, ?_⟩) ?_ ?_
       rotate_left
       ·intro w'
        go_simp; with_reducible rfl
       rotate_left
       ·simp only [Act.put, sqA, i64_w, i32_w]; rfl
       refine pure_ (i := 22) (N := (some 125)) (v := ?_) (a' := ?_) (bm 23 8388607) rfl rfl sqF (fun _ _ _ h => h) (Or.inl ⟨by rfl, ?_⟩) ?_ ?_
       rotate_left
       ·intro w'
        go_simp; with_reducible rfl
       rotate_left
       ·simp only [Act.put, sqA, i64_w, i32_w]; rfl
       refine done_ sqF ?_; refine NoPanic.normal ?_
       by_cases hb : hiS (rdS st s) v - 1 < y3.lo
       ·have hzc := HJ.out.then HV4.out
        have hL9 : ((thL3 st wg s).set s ⟨v, x3.hi⟩).length = st.length + 1 := by rw [List.length_set, thL3_len]
        obtain ⟨hz0, hz1⟩ := hzc.i.cell s (by rw [hL9]; omega); rw [rd_set _ (by rw [thL3_len]; omega), if_pos rfl] at hz0 hz1; have hfz := hzc.i.frozen; have hz3 := hzc.i.b3.cell; have hwv : IntKind.i64.wrap (v + 1) = v + 1 := IntWalk.i64_in _ (by omega)
        gi_wp2_with fail
        have hpl := hzc.putLo s (by rw [hL9]; omega) (v + 1); rw [rd_set _ (by rw [thL3_len]; omega), if_pos rfl, List.set_set] at hpl; have HPL := Aside0.mk hpl; obtain ⟨hc0, _⟩ := hpl.i.cell s (by rw [List.length_set, thL3_len]; omega); rw [rd_set _ (by rw [thL3_len]; omega), if_pos rfl] at hc0
        have hM2 : (402 - loOf (w4.setCell ⟨g, s * 2, none⟩ (.int .i64 (v + 1))) ⟨g, s * 2, none⟩).toNat = (402 - (v + 1)).toNat := by unfold loOf; rw [hc0]
        have HM2 := Aside0.mk hM2; clear hpl hc0 hM2 hz0 hz1 hfz hz3 hzc; obtain ⟨m, rfl⟩ : ∃ m', m = m' + 1 := ⟨m - 1, by have := HV.out; omega⟩
        go_roundw
        case rel => exact ⟨d + 1, m, by omega, by have := HV.out; omega, ⟨by rw [HT.out, thX_go (x := ⟨v, x3.hi⟩) (y := y3) (by simp only; omega) hb, show x3.lo + ((d + 1 : Nat) : Int) = v + 1 by have := HV.out; omega]⟩, ⟨by rw [show x3.lo + ((d + 1 : Nat) : Int) = v + 1 by have := HV.out; omega]; exact HPL.out⟩⟩
        case measure => rw [HM2.out, HMES.out]; omega
       have HL4 : Aside0 ((thL3 st wg s).set s ⟨v, x3.hi⟩ = thL4 st wg s) := ⟨by rw [thL4, thX, ← HX3.out, ← HY3.out, HT.out, thX_stop (x := ⟨v, x3.hi⟩) (y := y3) (by simp only; omega) (by simp only; omega)]⟩; have HJ7 := Aside0.mk (HJ.out.then HV4.out)
      case' pos =>
       have hdec : decide (v > x3.hi) = true := by simp [hn]
       gi_wp2_with fail
       refine wpIn_wide.2 ?_; refine wp_region_noPanic ?_; refine start_ (n := 23) (S := fun W' => W'.cell? ⟨w.heap.size, 0, none⟩ = some (.slice A st.length c) ∧ W'.cell? ⟨w.heap.size, 1, none⟩ = some (.slice A2 wg.length c2) ∧ W'.cell? ⟨w.heap.size + 1, 0, none⟩ = some (.int .i64 (s : Int)) ∧ W'.cell? ⟨B8, 0, none⟩ = some (.slice (some ⟨g, (s + 1) * 2, none⟩) M KC) ∧ W'.cell? ⟨g, s * 2, none⟩ = some (.int .i64 v) ∧ W'.cell? ⟨g, s * 2 + 1, none⟩ = some (.int .i64 x3.hi) ∧ W'.cell? ⟨g, (s + 1) * 2, none⟩ = some (.int .i64 y3.lo) ∧ W'.cell? ⟨g, (s + 1) * 2 + 1, none⟩ = some (.int .i64 y3.hi)) (ds := []) (bm 23 0) sqF rfl rfl (HS4.out _ ((Up.refl wr).drew)) (fun hHeld => ?_); refine pure_ (i := 0) (N := (some 103)) (v := ?_) (a' := ?_) (bm 23 1) rfl rfl sqF (fun _ _ _ h => h) (Or.inl ⟨by rfl, ?_⟩) ?_ ?_
       rotate_left
       ·intro w'
        go_simp; with_reducible rfl
       rotate_left
       ·simp only [Act.put, sqA, i64_w, i32_w]; rfl
       refine take_ (i := 1) (N := (some 104)) (v := ?_) (a' := ?_) (bm 23 3) rfl rfl sqF (fun _ _ _ h => h) (Or.inl ⟨by rfl, ?_⟩) hHeld ?_ ?_
       rotate_left
       ·rintro w' ⟨s0, s1, s2, s3, s4, s5, s6, s7⟩
        go_simp; with_reducible rfl
       rotate_left
       ·simp only [Act.put, sqA, i64_w, i32_w]; rfl
       refine take_ (i := 2) (N := (some 105)) (v := ?_) (a' := ?_) (bm 23 7) rfl rfl sqF (fun _ _ _ h => h) (Or.inl ⟨by rfl, ?_⟩) hHeld ?_ ?_
       rotate_left
       ·rintro w' ⟨s0, s1, s2, s3, s4, s5, s6, s7⟩
        go_simp; with_reducible rfl
       rotate_left
       ·simp only [Act.put, sqA, i64_w, i32_w]; rfl
       refine take_ (i := 3) (N := (some 106)) (v := ?_) (a' := ?_) (bm 23 15) rfl rfl sqF (fun _ _ _ h => h) (Or.inl ⟨by rfl, ?_⟩) hHeld ?_ ?_
       rotate_left
       ·rintro w' ⟨s0, s1, s2, s3, s4, s5, s6, s7⟩
        go_simp; with_reducible rfl
       rotate_left
       ·simp only [Act.put, sqA, i64_w, i32_w]; rfl
       refine one_ (i := 4) (N := (some 107)) (bm 23 31) rfl rfl sqF (by decide) (fun K hK => ?_); refine goes_ Tryd.func82 sqF rfl #[.agg #[.int .i64 v, .int .i64 x3.hi]] (by rfl) rfl rfl sqM ?_; refine (isNone_ ⟨v, x3.hi⟩ _).mono ?_; rintro e w3 ⟨rfl, hb⟩; simp only [hdec]; have HV3 : Aside0 (Up wr w3) := ⟨((Up.refl wr).drew).then hb⟩; clear hb; refine ⟨_, rfl, ?_⟩; refine hK.out _ _ (HS4.out _ HV3.out) (fun hHeld => ?_); clear hK K; refine norm_ (a' := ?_) ?_ ?_
       rotate_left
       ·show Act.put _ (some 107) _ = _
        simp only [Act.put, sqA, i64_w, i32_w]; rfl
       refine pure_ (i := 5) (N := (some 108)) (v := ?_) (a' := ?_) (bm 23 63) rfl rfl sqF (fun _ _ _ h => h) (Or.inl ⟨by rfl, ?_⟩) ?_ ?_
       rotate_left
       ·intro w'
        go_simp; with_reducible rfl
       rotate_left
       ·simp only [Act.put, sqA, i64_w, i32_w]; rfl
       refine pure_ (i := 6) (N := (some 109)) (v := ?_) (a' := ?_) (bm 23 127) rfl rfl sqF (fun _ _ _ h => h) (Or.inl ⟨by rfl, ?_⟩) ?_ ?_
       rotate_left
       ·intro w'
        go_simp; with_reducible rfl
       rotate_left
       ·simp only [Act.put, sqA, i64_w, i32_w]; rfl
       refine pure_ (i := 7) (N := (some 110)) (v := undef) (a' := ?_) (bm 23 255) rfl rfl sqF (fun _ _ _ h => h) (Or.inr ⟨by rfl, rfl⟩) ?_ ?_
       rotate_left
       ·simp only [Act.put, sqA, i64_w, i32_w]; rfl
       refine pure_ (i := 8) (N := (some 111)) (v := undef) (a' := ?_) (bm 23 511) rfl rfl sqF (fun _ _ _ h => h) (Or.inr ⟨by rfl, rfl⟩) ?_ ?_
       rotate_left
       ·simp only [Act.put, sqA, i64_w, i32_w]; rfl
       refine pure_ (i := 9) (N := (some 112)) (v := undef) (a' := ?_) (bm 23 1023) rfl rfl sqF (fun _ _ _ h => h) (Or.inr ⟨by rfl, rfl⟩) ?_ ?_
       rotate_left
       ·simp only [Act.put, sqA, i64_w, i32_w]; rfl
       refine pure_ (i := 10) (N := (some 113)) (v := undef) (a' := ?_) (bm 23 2047) rfl rfl sqF (fun _ _ _ h => h) (Or.inr ⟨by rfl, rfl⟩) ?_ ?_
       rotate_left
       ·simp only [Act.put, sqA, i64_w, i32_w]; rfl
       refine pure_ (i := 11) (N := (some 114)) (v := undef) (a' := ?_) (bm 23 4095) rfl rfl sqF (fun _ _ _ h => h) (Or.inr ⟨by rfl, rfl⟩) ?_ ?_
       rotate_left
       ·simp only [Act.put, sqA, i64_w, i32_w]; rfl
       refine pure_ (i := 12) (N := (some 115)) (v := undef) (a' := ?_) (bm 23 8191) rfl rfl sqF (fun _ _ _ h => h) (Or.inr ⟨by rfl, rfl⟩) ?_ ?_
       rotate_left
       ·simp only [Act.put, sqA, i64_w, i32_w]; rfl
       refine pure_ (i := 13) (N := (some 116)) (v := undef) (a' := ?_) (bm 23 16383) rfl rfl sqF (fun _ _ _ h => h) (Or.inr ⟨by rfl, rfl⟩) ?_ ?_
       rotate_left
       ·simp only [Act.put, sqA, i64_w, i32_w]; rfl
       refine pure_ (i := 14) (N := (some 117)) (v := undef) (a' := ?_) (bm 23 32767) rfl rfl sqF (fun _ _ _ h => h) (Or.inr ⟨by rfl, rfl⟩) ?_ ?_
       rotate_left
       ·simp only [Act.put, sqA, i64_w, i32_w]; rfl
       refine pure_ (i := 15) (N := (some 118)) (v := undef) (a' := ?_) (bm 23 65535) rfl rfl sqF (fun _ _ _ h => h) (Or.inr ⟨by rfl, rfl⟩) ?_ ?_
       rotate_left
       ·simp only [Act.put, sqA, i64_w, i32_w]; rfl
       refine pure_ (i := 16) (N := (some 119)) (v := undef) (a' := ?_) (bm 23 131071) rfl rfl sqF (fun _ _ _ h => h) (Or.inr ⟨by rfl, rfl⟩) ?_ ?_
       rotate_left
       ·simp only [Act.put, sqA, i64_w, i32_w]; rfl
       refine pure_ (i := 17) (N := (some 120)) (v := undef) (a' := ?_) (bm 23 262143) rfl rfl sqF (fun _ _ _ h => h) (Or.inr ⟨by rfl, rfl⟩) ?_ ?_
       rotate_left
       ·simp only [Act.put, sqA, i64_w, i32_w]; rfl
       refine pure_ (i := 18) (N := (some 121)) (v := undef) (a' := ?_) (bm 23 524287) rfl rfl sqF (fun _ _ _ h => h) (Or.inr ⟨by rfl, rfl⟩) ?_ ?_
       rotate_left
       ·simp only [Act.put, sqA, i64_w, i32_w]; rfl
       refine pure_ (i := 19) (N := (some 122)) (v := undef) (a' := ?_) (bm 23 1048575) rfl rfl sqF (fun _ _ _ h => h) (Or.inr ⟨by rfl, rfl⟩) ?_ ?_
       rotate_left
       ·simp only [Act.put, sqA, i64_w, i32_w]; rfl
       refine pure_ (i := 20) (N := (some 123)) (v := undef) (a' := ?_) (bm 23 2097151) rfl rfl sqF (fun _ _ _ h => h) (Or.inr ⟨by rfl, rfl⟩) ?_ ?_
       rotate_left
       ·simp only [Act.put, sqA, i64_w, i32_w]; rfl
       refine pure_ (i := 21) (N := (some 124)) (v := undef) (a' := ?_) (bm 23 4194303) rfl rfl sqF (fun _ _ _ h => h) (Or.inr ⟨by rfl, rfl⟩) ?_ ?_
       rotate_left
       ·simp only [Act.put, sqA, i64_w, i32_w]; rfl
       refine pure_ (i := 22) (N := (some 125)) (v := ?_) (a' := ?_) (bm 23 8388607) rfl rfl sqF (fun _ _ _ h => h) (Or.inl ⟨by rfl, ?_⟩) ?_ ?_
       rotate_left
       ·intro w'
        go_simp; with_reducible rfl
       rotate_left
       ·simp only [Act.put, sqA, i64_w, i32_w]; rfl
       refine done_ sqF ?_; refine NoPanic.normal ?_; have HL4 : Aside0 ((thL3 st wg s).set s ⟨v, x3.hi⟩ = thL4 st wg s) := ⟨by rw [thL4, thX, ← HX3.out, ← HY3.out, HT.out, thX_none (x := ⟨v, x3.hi⟩) (y := y3) (by simp only; omega)]⟩; have HJ7 := Aside0.mk (HJ.out.then HV3.out)
      all_goals
       rw [HL4.out] at HJ7; have hq3 := HJ7.out.i.b3.cell; have hws1 : IntKind.i64.wrap ((s : Int) - 1) = (s : Int) - 1 := IntWalk.i64_in _ (by omega)
       gi_wp2_with fail
       clear hq3 hws1 HL4 HT HV HMES HS4 HJ HX3 HY3 hdec
       gi_loopw [10] (fun v10 W => ∃ p : Int, -1 ≤ p ∧ p < (s : Int) ∧ v10 = .int .i64 p ∧ Aside0 (ThJ w g cap #[.slice A st.length c, .slice A2 wg.length c2] s B8 M KC D ⟨0, 0⟩ (thG st (thL4 st wg s) s ((s : Int) - p).toNat) W)) (fun v10 _ => (intOf v10 + 1).toNat)
       case atStart => exact ⟨(s : Int) - 1, by omega, by omega, rfl, ⟨by rw [show ((s : Int) - ((s : Int) - 1)).toNat = 1 by omega, thG_one st _ s HS.out (thL4_len st wg s)]; exact HJ7.out⟩⟩
       case round =>
        clear HJ7; obtain ⟨p, hp1, hp2, rfl, HJ⟩ := hrel
        by_cases hpn : 0 ≤ p
        ·obtain ⟨p, rfl⟩ : ∃ q : Nat, p = (q : Int) := ⟨p.toNat, by omega⟩
         have hps : p < s := by omega
         rw [show ((s : Int) - (p : Int)).toNat = s - p by omega] at HJ; obtain ⟨hstp, hcur⟩ := thG_succ st (thL4 st wg s) s p HS.out (thL4_len st wg s) hps
         have hgl : (thG st (thL4 st wg s) s (s - p)).length = st.length + 1 := by rw [thG_len, thL4_len]
         obtain ⟨ca, cb⟩ := HJ.out.i.cell p (by rw [hgl]; omega); obtain ⟨cc, cd⟩ := HJ.out.i.cell (p + 1) (by rw [hgl]; omega)
         have hso : okS (rdS (thG st (thL4 st wg s) s (s - p)) (p : Nat)) := by rw [hcur]; exact rd_ok (thL4_ok HOK.out s HS.out) p
         have hsb := HOK.out.at p (by omega) (by omega)
         have hpl : (p : Int) < (st.length : Int) := by omega
         have hpN : (p : Int) < (N : Int) := by have := HN.out; omega
         have hpN1 : (p : Int) + 1 < (N : Int) := by have := HN.out; omega
         have hp3 : (0 : Int) ≤ (p : Int) + 1 := by omega
         have hpt : ((p : Int) + 1).toNat = p + 1 := by omega
         have hwp : IntKind.i64.wrap ((p : Int) + 1) = (p : Int) + 1 := IntWalk.i64_in _ (by omega); have hwp2 : IntKind.i64.wrap ((p : Int) - 1) = (p : Int) - 1 := IntWalk.i64_in _ (by omega); have hq2 := HJ.out.i.b2.cell; have HLT : Aside0 (p < s) := ⟨hps⟩
         generalize hgs : thG st (thL4 st wg s) s (s - p) = G at *
         obtain ⟨x1, hx1⟩ : ∃ x, x = rdS G (p : Nat) := ⟨_, rfl⟩; obtain ⟨y1, hy1⟩ : ∃ y, y = rdS G ((p + 1 : Nat) : Int) := ⟨_, rfl⟩; rw [← hx1] at ca cb hso hcur hstp; rw [← hy1] at cc cd hstp; have HSP := Aside0.mk hstp; have HGL2 := Aside0.mk hgl; have HCALL : Aside0 (∀ W : World, Up wr W → Calls Tryd.prog 103 #[.agg #[.slice A st.length c, .slice A2 wg.length c2], .int .i64 (p : Int), .agg #[.int .i64 x1.lo, .int .i64 x1.hi], .agg #[.int .i64 y1.lo, .int .i64 y1.hi]] W fun e w' => e = .returned (.agg #[.int .i64 (backS (rdS st (p : Nat)) x1 y1).lo, .int .i64 (backS (rdS st (p : Nat)) x1 y1).hi]) ∧ Up W w') := ⟨fun W hu => back_ A c st A2 c2 wg p x1 y1 W (C_up HR.out (HJ.out.i.up.then hu)) hc (C_up HR2.out (HJ.out.i.up.then hu)) hc2 hpn hpl hsb hso⟩; have HS4 : Aside0 (∀ W' : World, Up wr W' → W'.cell? ⟨w.heap.size, 0, none⟩ = some (.slice A st.length c) ∧ W'.cell? ⟨w.heap.size, 1, none⟩ = some (.slice A2 wg.length c2) ∧ W'.cell? ⟨g, p * 2, none⟩ = some (.int .i64 x1.lo) ∧ W'.cell? ⟨g, p * 2 + 1, none⟩ = some (.int .i64 x1.hi) ∧ W'.cell? ⟨g, (p + 1) * 2, none⟩ = some (.int .i64 y1.lo) ∧ W'.cell? ⟨g, (p + 1) * 2 + 1, none⟩ = some (.int .i64 y1.hi)) := ⟨fun W' hu => ⟨hu.cell (hq2 0), hu.cell (hq2 1), hu.cell ca, hu.cell cb, hu.cell cc, hu.cell cd⟩⟩; clear hstp hcur hgl hgs hx1 hy1 hsb hso ca cb cc cd hq2 hps; generalize backS (rdS st (p : Nat)) x1 y1 = z at *
         gi_wp2_with fail
         refine wpIn_wide.2 ?_; refine wp_region_noPanic ?_; refine start_ (n := 16) (S := fun W' => W'.cell? ⟨w.heap.size, 0, none⟩ = some (.slice A st.length c) ∧ W'.cell? ⟨w.heap.size, 1, none⟩ = some (.slice A2 wg.length c2) ∧ W'.cell? ⟨g, p * 2, none⟩ = some (.int .i64 x1.lo) ∧ W'.cell? ⟨g, p * 2 + 1, none⟩ = some (.int .i64 x1.hi) ∧ W'.cell? ⟨g, (p + 1) * 2, none⟩ = some (.int .i64 y1.lo) ∧ W'.cell? ⟨g, (p + 1) * 2 + 1, none⟩ = some (.int .i64 y1.hi)) (ds := [15]) (bm 16 0) sqF rfl rfl (HS4.out _ ((Up.refl wr).drew)) (fun hHeld => ?_); refine pure_ (i := 0) (N := (some 140)) (v := ?_) (a' := ?_) (bm 16 1) rfl rfl sqF (fun _ _ _ h => h) (Or.inl ⟨by rfl, ?_⟩) ?_ ?_
         rotate_left
         ·intro w'
          go_simp; with_reducible rfl
         rotate_left
         ·simp only [Act.put, sqA, i64_w, i32_w]; rfl
         refine pure_ (i := 1) (N := (some 141)) (v := ?_) (a' := ?_) (bm 16 3) rfl rfl sqF (fun _ _ _ h => h) (Or.inl ⟨by rfl, ?_⟩) ?_ ?_
         rotate_left
         ·intro w'
          go_simp; with_reducible rfl
         rotate_left
         ·simp only [Act.put, sqA, i64_w, i32_w]; rfl
         refine take_ (i := 2) (N := (some 142)) (v := ?_) (a' := ?_) (bm 16 7) rfl rfl sqF (fun _ _ _ h => h) (Or.inl ⟨by rfl, ?_⟩) hHeld ?_ ?_
         rotate_left
         ·rintro w' ⟨s0, s1, s2, s3, s4, s5⟩
          go_simp; with_reducible rfl
         rotate_left
         ·simp only [Act.put, sqA, i64_w, i32_w]; rfl
         refine pure_ (i := 3) (N := (some 143)) (v := ?_) (a' := ?_) (bm 16 15) rfl rfl sqF (fun _ _ _ h => h) (Or.inl ⟨by rfl, ?_⟩) ?_ ?_
         rotate_left
         ·intro w'
          go_simp; with_reducible rfl
         rotate_left
         ·simp only [Act.put, sqA, i64_w, i32_w]; rfl
         refine pure_ (i := 4) (N := (some 144)) (v := ?_) (a' := ?_) (bm 16 31) rfl rfl sqF (fun _ _ _ h => h) (Or.inl ⟨by rfl, ?_⟩) ?_ ?_
         rotate_left
         ·intro w'
          go_simp; with_reducible rfl
         rotate_left
         ·simp only [Act.put, sqA, i64_w, i32_w]; rfl
         refine pure_ (i := 5) (N := (some 145)) (v := ?_) (a' := ?_) (bm 16 63) rfl rfl sqF (fun _ _ _ h => h) (Or.inl ⟨by rfl, ?_⟩) ?_ ?_
         rotate_left
         ·intro w'
          go_simp; with_reducible rfl
         rotate_left
         ·simp only [Act.put, sqA, i64_w, i32_w]; rfl
         refine take_ (i := 6) (N := (some 146)) (v := ?_) (a' := ?_) (bm 16 127) rfl rfl sqF (fun _ _ _ h => h) (Or.inl ⟨by rfl, ?_⟩) hHeld ?_ ?_
         rotate_left
         ·rintro w' ⟨s0, s1, s2, s3, s4, s5⟩
          go_simp; with_reducible rfl
         rotate_left
         ·simp only [Act.put, sqA, i64_w, i32_w]; rfl
         refine take_ (i := 7) (N := (some 147)) (v := ?_) (a' := ?_) (bm 16 255) rfl rfl sqF (fun _ _ _ h => h) (Or.inl ⟨by rfl, ?_⟩) hHeld ?_ ?_
         rotate_left
         ·rintro w' ⟨s0, s1, s2, s3, s4, s5⟩
          go_simp; with_reducible rfl
         rotate_left
         ·simp only [Act.put, sqA, i64_w, i32_w]; rfl
         refine pure_ (i := 8) (N := (some 148)) (v := ?_) (a' := ?_) (bm 16 511) rfl rfl sqF (fun _ _ _ h => h) (Or.inl ⟨by rfl, ?_⟩) ?_ ?_
         rotate_left
         ·intro w'
          go_simp; with_reducible rfl
         rotate_left
         ·simp only [Act.put, sqA, i64_w, i32_w]; rfl
         refine pure_ (i := 9) (N := (some 149)) (v := ?_) (a' := ?_) (bm 16 1023) rfl rfl sqF (fun _ _ _ h => h) (Or.inl ⟨by rfl, ?_⟩) ?_ ?_
         rotate_left
         ·intro w'
          go_simp; with_reducible rfl
         rotate_left
         ·simp only [Act.put, sqA, i64_w, i32_w]; rfl
         refine pure_ (i := 10) (N := (some 150)) (v := ?_) (a' := ?_) (bm 16 2047) rfl rfl sqF (fun _ _ _ h => h) (Or.inl ⟨by rfl, ?_⟩) ?_ ?_
         rotate_left
         ·intro w'
          go_simp; with_reducible rfl
         rotate_left
         ·simp only [Act.put, sqA, i64_w, i32_w]; rfl
         refine take_ (i := 11) (N := (some 151)) (v := ?_) (a' := ?_) (bm 16 4095) rfl rfl sqF (fun _ _ _ h => h) (Or.inl ⟨by rfl, ?_⟩) hHeld ?_ ?_
         rotate_left
         ·rintro w' ⟨s0, s1, s2, s3, s4, s5⟩
          go_simp; with_reducible rfl
         rotate_left
         ·simp only [Act.put, sqA, i64_w, i32_w]; rfl
         refine take_ (i := 12) (N := (some 152)) (v := ?_) (a' := ?_) (bm 16 8191) rfl rfl sqF (fun _ _ _ h => h) (Or.inl ⟨by rfl, ?_⟩) hHeld ?_ ?_
         rotate_left
         ·rintro w' ⟨s0, s1, s2, s3, s4, s5⟩
          go_simp; with_reducible rfl
         rotate_left
         ·simp only [Act.put, sqA, i64_w, i32_w]; rfl
         refine one_ (i := 13) (N := (some 153)) (bm 16 16383) rfl rfl sqF (by decide) (fun K hK => ?_); refine goes_ Tryd.func103 sqF rfl #[.agg #[.slice A st.length c, .slice A2 wg.length c2], .int .i64 (p : Int), .agg #[.int .i64 x1.lo, .int .i64 x1.hi], .agg #[.int .i64 y1.lo, .int .i64 y1.hi]] (by rfl) rfl rfl sqM ?_; refine (HCALL.out _ ((Up.refl wr).drew)).mono ?_; rintro e w3 ⟨rfl, hb⟩; have HV3 : Aside0 (Up wr w3) := ⟨((Up.refl wr).drew).then hb⟩; clear hb; refine ⟨_, rfl, ?_⟩; refine hK.out _ _ (HS4.out _ HV3.out) (fun hHeld => ?_); clear hK K; refine norm_ (a' := ?_) ?_ ?_
         rotate_left
         ·show Act.put _ (some 153) _ = _
          simp only [Act.put, sqA, i64_w, i32_w]; rfl
         refine one_ (i := 14) (N := (some 154)) (bm 16 32767) rfl rfl sqF (by decide) (fun K hK => ?_); refine value_ (v := ?_) (w1 := w3) (by rfl) rfl ?_ ?_
         rotate_left
         ·go_simp
          rfl
         refine hK.out _ _ hHeld (fun hHeld => ?_); clear hK K; refine norm_ (a' := ?_) ?_ ?_
         rotate_left
         ·show Act.put _ (some 154) _ = _
          simp only [Act.put, sqA, i64_w, i32_w]; rfl
         refine last_ (i := 15) (N := none) (bm 16 65535) rfl rfl sqF (by decide) (fun K hK => ?_)
         have hyz := HJ.out.then HV3.out
         obtain ⟨hz0, hz1⟩ := hyz.i.cell p (by rw [HGL2.out]; have := HLT.out; have := HS.out; omega); have hfz := hyz.i.frozen; refine skip_ (w1 := ?_) (by rfl) rfl ?_ ?_
         rotate_left
         ·go_simp
          rfl
         refine hK.out _ _ ?_; clear hK K hz0 hz1 hfz; refine done_ sqF ?_; refine NoPanic.normal ?_; have hput := hyz.put p (by rw [HGL2.out]; have := HLT.out; have := HS.out; omega) z; rw [← HSP.out] at hput; have HPUT := Aside0.mk hput; clear hput hyz
         gi_wp2_with fail
         go_roundw
         case rel => exact ⟨(p : Int) - 1, by omega, by have := HLT.out; omega, rfl, ⟨by rw [show ((s : Int) - ((p : Int) - 1)).toNat = s - p + 1 by have := HLT.out; omega]; exact HPUT.out⟩⟩
         case measure => simp [intOf]
        ·obtain rfl : p = -1 := by omega
         rw [show ((s : Int) - (-1)).toNat = s + 1 by omega] at HJ; have HJ8 : Aside0 (ThJ w g cap #[.slice A st.length c, .slice A2 wg.length c2] s B8 M KC D ⟨0, 0⟩ (thL5 st wg s) wr) := ⟨HJ.out⟩; clear HJ; have hcl := containsNone (some ⟨g, 0, none⟩) cap (thL5 st wg s) wr (HJ8.out.C (by rw [thL5_len]; omega)) HJ8.out.i.capL; rw [thL5_len, ← HN.out] at hcl
         gi_wp2_with fail
         refine ⟨trivial, (callsIn_wide.2 hcl).mono ?_⟩; clear hcl; rintro e W6 ⟨rfl, hu6⟩; have HJ9 := Aside0.mk (HJ8.out.then hu6); clear hu6 HJ8
         cases h5 : (thL5 st wg s).any noneB
         case true =>
          have hq5 := HJ9.out.i.b5.cell; have hf5 := HJ9.out.i.b5.frozen; have HK0 : Aside0 (thOk st wg s = false) := ⟨by unfold thOk; rw [h5]; simp⟩; clear h5
          gi_wp2_with fail
          have HJ10 := Aside0.mk (HJ9.out.amt ⟨0, 0⟩); refine ⟨by simp, .inl ⟨_, _, rfl, run_takeDeferred HJ10.out.d, ?_⟩⟩; have hfin := HJ10.out.fin; have hq5 := hfin.b5.cell; refine ⟨.tuple #[.slice none 0 0, .agg #[.int .i64 0, .int .i64 0], .bool false], ?_, .slice none 0 0, ?_, ?_, hfin.up⟩
          ·simp [results, Tryd.f72, go_sem, hq5]
          ·simp [thR, HK0.out]
          ·rw [thL, HK0.out]; exact ⟨rfl, .inl ⟨rfl, rfl⟩⟩
         case false =>
          have HF5 := Aside0.mk (any_full (thL5_ok HOK.out s HS.out) h5); have HK1 : Aside0 (thOk st wg s = true) := ⟨by unfold thOk; rw [h5, HN3.out]; rfl⟩; have hfx := rd_full HF5.out s (by rw [thL5_len]; omega); have hfy := rd_full HF5.out (s + 1) (by rw [thL5_len]; omega); obtain ⟨cx0, cx1⟩ := HJ9.out.i.cell s (by rw [thL5_len]; omega); obtain ⟨cy0, cy1⟩ := HJ9.out.i.cell (s + 1) (by rw [thL5_len]; omega); clear h5; obtain ⟨x5, hx5⟩ : ∃ x, x = rdS (thL5 st wg s) s := ⟨_, rfl⟩; obtain ⟨y5, hy5⟩ : ∃ y, y = rdS (thL5 st wg s) ((s + 1 : Nat) : Int) := ⟨_, rfl⟩; rw [← hx5] at hfx cx0 cx1; rw [← hy5] at hfy cy0 cy1; have HX5 := Aside0.mk hx5; have HY5 := Aside0.mk hy5; obtain ⟨hfx0, hfx1, hfx2⟩ := hfx; obtain ⟨hfy0, hfy1, hfy2⟩ := hfy; clear hx5 hy5; have hq2 := HJ9.out.i.b2.cell; have hq3 := HJ9.out.i.b3.cell; have hq8 := HJ9.out.b8.cell; have HLC : Aside0 (∀ W : World, Up W6 W → Calls Tryd.prog 62 #[.agg #[.slice A st.length c, .slice A2 wg.length c2], .int .i64 (s : Int), .int .i64 x5.hi] W fun e w' => e = .returned (.agg #[.int .i64 (loS (rdS st s) x5.hi), .int .i64 (hiS (rdS st s) x5.hi)]) ∧ Up W w') := ⟨fun W hu => left_ A c st A2 c2 wg s x5.hi W (C_up HR.out (HJ9.out.i.up.then hu)) hc (C_up HR2.out (HJ9.out.i.up.then hu)) hc2 hs0 hs1 HST.out ⟨by omega, hfx2⟩⟩; have HS4 : Aside0 (∀ W' : World, Up W6 W' → W'.cell? ⟨w.heap.size, 0, none⟩ = some (.slice A st.length c) ∧ W'.cell? ⟨w.heap.size, 1, none⟩ = some (.slice A2 wg.length c2) ∧ W'.cell? ⟨w.heap.size + 1, 0, none⟩ = some (.int .i64 (s : Int)) ∧ W'.cell? ⟨B8, 0, none⟩ = some (.slice (some ⟨g, (s + 1) * 2, none⟩) M KC) ∧ W'.cell? ⟨g, s * 2 + 1, none⟩ = some (.int .i64 x5.hi) ∧ W'.cell? ⟨g, (s + 1) * 2, none⟩ = some (.int .i64 y5.lo)) := ⟨fun W' hu => ⟨hu.cell (hq2 0), hu.cell (hq2 1), hu.cell (hq3 0), hu.cell (hq8 0), hu.cell cx1, hu.cell cy0⟩⟩; have hwq : IntKind.i64.wrap (hiS (rdS st s) x5.hi - y5.lo) = hiS (rdS st s) x5.hi - y5.lo := IntWalk.i64_in _ (by have := hiS_le HST.out (w := x5.hi) (by omega); have := loS_hiS HST.out (w := x5.hi) (by omega); have := loS_nn HST.out (w := x5.hi) (by omega); omega); have hfd1 := fld1; clear hq2 hq3 hq8 cx0 cx1 cy0 cy1
          gi_wp2_with fail
          refine wpIn_wide.2 ?_; refine wp_region_noPanic ?_; refine start_ (n := 16) (S := fun W' => W'.cell? ⟨w.heap.size, 0, none⟩ = some (.slice A st.length c) ∧ W'.cell? ⟨w.heap.size, 1, none⟩ = some (.slice A2 wg.length c2) ∧ W'.cell? ⟨w.heap.size + 1, 0, none⟩ = some (.int .i64 (s : Int)) ∧ W'.cell? ⟨B8, 0, none⟩ = some (.slice (some ⟨g, (s + 1) * 2, none⟩) M KC) ∧ W'.cell? ⟨g, s * 2 + 1, none⟩ = some (.int .i64 x5.hi) ∧ W'.cell? ⟨g, (s + 1) * 2, none⟩ = some (.int .i64 y5.lo)) (ds := [15]) (bm 16 0) sqF rfl rfl (HS4.out _ ((Up.refl W6).drew)) (fun hHeld => ?_); refine take_ (i := 0) (N := (some 158)) (v := ?_) (a' := ?_) (bm 16 1) rfl rfl sqF (fun _ _ _ h => h) (Or.inl ⟨by rfl, ?_⟩) hHeld ?_ ?_
          rotate_left
          ·rintro w' ⟨s0, s1, s2, s3, s4, s5⟩
           go_simp; with_reducible rfl
          rotate_left
          ·simp only [Act.put, sqA, i64_w, i32_w]; rfl
          refine take_ (i := 1) (N := (some 159)) (v := ?_) (a' := ?_) (bm 16 3) rfl rfl sqF (fun _ _ _ h => h) (Or.inl ⟨by rfl, ?_⟩) hHeld ?_ ?_
          rotate_left
          ·rintro w' ⟨s0, s1, s2, s3, s4, s5⟩
           go_simp; with_reducible rfl
          rotate_left
          ·simp only [Act.put, sqA, i64_w, i32_w]; rfl
          refine pure_ (i := 2) (N := (some 160)) (v := ?_) (a' := ?_) (bm 16 7) rfl rfl sqF (fun _ _ _ h => h) (Or.inl ⟨by rfl, ?_⟩) ?_ ?_
          rotate_left
          ·intro w'
           go_simp; with_reducible rfl
          rotate_left
          ·simp only [Act.put, sqA, i64_w, i32_w]; rfl
          refine take_ (i := 3) (N := (some 161)) (v := ?_) (a' := ?_) (bm 16 15) rfl rfl sqF (fun _ _ _ h => h) (Or.inl ⟨by rfl, ?_⟩) hHeld ?_ ?_
          rotate_left
          ·rintro w' ⟨s0, s1, s2, s3, s4, s5⟩
           go_simp; with_reducible rfl
          rotate_left
          ·simp only [Act.put, sqA, i64_w, i32_w]; rfl
          refine take_ (i := 4) (N := (some 162)) (v := ?_) (a' := ?_) (bm 16 31) rfl rfl sqF (fun _ _ _ h => h) (Or.inl ⟨by rfl, ?_⟩) hHeld ?_ ?_
          rotate_left
          ·rintro w' ⟨s0, s1, s2, s3, s4, s5⟩
           go_simp; with_reducible rfl
          rotate_left
          ·simp only [Act.put, sqA, i64_w, i32_w]; rfl
          refine take_ (i := 5) (N := (some 163)) (v := ?_) (a' := ?_) (bm 16 63) rfl rfl sqF (fun _ _ _ h => h) (Or.inl ⟨by rfl, ?_⟩) hHeld ?_ ?_
          rotate_left
          ·rintro w' ⟨s0, s1, s2, s3, s4, s5⟩
           go_simp; with_reducible rfl
          rotate_left
          ·simp only [Act.put, sqA, i64_w, i32_w]; rfl
          refine take_ (i := 6) (N := (some 164)) (v := ?_) (a' := ?_) (bm 16 127) rfl rfl sqF (fun _ _ _ h => h) (Or.inl ⟨by rfl, ?_⟩) hHeld ?_ ?_
          rotate_left
          ·rintro w' ⟨s0, s1, s2, s3, s4, s5⟩
           go_simp; with_reducible rfl
          rotate_left
          ·simp only [Act.put, sqA, i64_w, i32_w]; rfl
          refine take_ (i := 9) (N := (some 167)) (v := ?_) (a' := ?_) (bm 16 639) rfl rfl sqF (fun _ _ _ h => h) (Or.inl ⟨by rfl, ?_⟩) hHeld ?_ ?_
          rotate_left
          ·rintro w' ⟨s0, s1, s2, s3, s4, s5⟩
           go_simp; with_reducible rfl
          rotate_left
          ·simp only [Act.put, sqA, i64_w, i32_w]; rfl
          refine take_ (i := 10) (N := (some 168)) (v := ?_) (a' := ?_) (bm 16 1663) rfl rfl sqF (fun _ _ _ h => h) (Or.inl ⟨by rfl, ?_⟩) hHeld ?_ ?_
          rotate_left
          ·rintro w' ⟨s0, s1, s2, s3, s4, s5⟩
           go_simp; with_reducible rfl
          rotate_left
          ·simp only [Act.put, sqA, i64_w, i32_w]; rfl
          refine take_ (i := 11) (N := (some 169)) (v := ?_) (a' := ?_) (bm 16 3711) rfl rfl sqF (fun _ _ _ h => h) (Or.inl ⟨by rfl, ?_⟩) hHeld ?_ ?_
          rotate_left
          ·rintro w' ⟨s0, s1, s2, s3, s4, s5⟩
           go_simp; with_reducible rfl
          rotate_left
          ·simp only [Act.put, sqA, i64_w, i32_w]; rfl
          refine take_ (i := 12) (N := (some 170)) (v := ?_) (a' := ?_) (bm 16 7807) rfl rfl sqF (fun _ _ _ h => h) (Or.inl ⟨by rfl, ?_⟩) hHeld ?_ ?_
          rotate_left
          ·rintro w' ⟨s0, s1, s2, s3, s4, s5⟩
           go_simp; with_reducible rfl
          rotate_left
          ·simp only [Act.put, sqA, i64_w, i32_w]; rfl
          refine one_ (i := 7) (N := (some 165)) (bm 16 7935) rfl rfl sqF (by decide) (fun K hK => ?_); refine goes_ Tryd.func62 sqF rfl #[.agg #[.slice A st.length c, .slice A2 wg.length c2], .int .i64 (s : Int), .int .i64 x5.hi] (by rfl) rfl rfl sqM ?_; refine (HLC.out _ ((Up.refl W6).drew)).mono ?_; rintro e w7 ⟨rfl, hb⟩; have HV7 : Aside0 (Up W6 w7) := ⟨((Up.refl W6).drew).then hb⟩; clear hb; refine ⟨_, rfl, ?_⟩; refine hK.out _ _ (HS4.out _ HV7.out) (fun hHeld => ?_); clear hK K; refine norm_ (a' := ?_) ?_ ?_
          rotate_left
          ·show Act.put _ (some 165) _ = _
           simp only [Act.put, sqA, i64_w, i32_w]; rfl
          refine pure_ (i := 8) (N := (some 166)) (v := ?_) (a' := ?_) (bm 16 8191) rfl rfl sqF (fun _ _ _ h => h) (Or.inl ⟨by rfl, ?_⟩) ?_ ?_
          rotate_left
          ·intro w'
           go_simp; with_reducible rfl
          rotate_left
          ·simp only [Act.put, sqA, i64_w, i32_w]; rfl
          refine pure_ (i := 13) (N := (some 171)) (v := ?_) (a' := ?_) (bm 16 16383) rfl rfl sqF (fun _ _ _ h => h) (Or.inl ⟨by rfl, ?_⟩) ?_ ?_
          rotate_left
          ·intro w'
           go_simp; with_reducible rfl
          rotate_left
          ·simp only [Act.put, sqA, i64_w, i32_w]; rfl
          refine pure_ (i := 14) (N := (some 172)) (v := ?_) (a' := ?_) (bm 16 32767) rfl rfl sqF (fun _ _ _ h => h) (Or.inl ⟨by rfl, ?_⟩) ?_ ?_
          rotate_left
          ·intro w'
           go_simp; with_reducible rfl
          rotate_left
          ·simp only [Act.put, sqA, i64_w, i32_w]; rfl
          refine last_ (i := 15) (N := none) (bm 16 65535) rfl rfl sqF (by decide) (fun K hK => ?_)
          have hyz := HJ9.out.then HV7.out
          have hz0 := hyz.i.b5.cell; have hfz := hyz.i.b5.frozen; refine skip_ (w1 := ?_) (by rfl) rfl ?_ ?_
          rotate_left
          ·go_simp
           rfl
          refine hK.out _ _ ?_; clear hK K hz0 hfz; refine done_ sqF ?_; refine NoPanic.normal ?_; have HJA := Aside0.mk (hyz.amt ⟨400, hiS (rdS st s) x5.hi - y5.lo⟩); clear hyz HS4 HLC hwq HV7 HJ9; generalize hWa : ((w7.setCell ⟨w.heap.size + 1 + 1, 0, none⟩ (.int .i64 400)).setCell ⟨w.heap.size + 1 + 1, 1, none⟩ (.int .i64 (hiS (rdS st s) x5.hi - y5.lo))) = W8 at *; clear hWa; have hq3 := HJA.out.i.b3.cell; obtain ⟨cx0, cx1⟩ := HJA.out.i.cell s (by rw [thL5_len]; omega); rw [← HX5.out] at cx0 cx1
          gi_wp2_with fail
          clear hq3 cx0 cx1
          gi_loopw [11] (fun v11 W => ∃ j : Nat, x5.lo + (j : Int) ≤ x5.hi + 1 ∧ v11 = .int .i64 (x5.lo + (j : Int)) ∧ Aside0 (ThJ w g cap #[.slice A st.length c, .slice A2 wg.length c2] s B8 M KC D ⟨thN (rdS st s) x5 y5 j, hiS (rdS st s) x5.hi - y5.lo⟩ (thL5 st wg s) W)) (fun v11 _ => (x5.hi + 1 - intOf v11).toNat)
          case atStart => exact ⟨0, by omega, by simp, HJA⟩
          case round =>
           clear HJA; obtain ⟨j, hj, rfl, HJ⟩ := hrel; obtain ⟨v5, hv5⟩ : ∃ x, x = x5.lo + (j : Int) := ⟨_, rfl⟩; rw [← hv5] at hj; rw [← hv5]; have HV5 := Aside0.mk hv5
           have hv50 : 0 ≤ v5 := by omega
           clear hv5; have hq2 := HJ.out.i.b2.cell; have hq3 := HJ.out.i.b3.cell; have hq8 := HJ.out.b8.cell; obtain ⟨cx0, cx1⟩ := HJ.out.i.cell s (by rw [thL5_len]; omega); rw [← HX5.out] at cx0 cx1
           by_cases hle : v5 ≤ x5.hi
           ·have hv54 : v5 ≤ 400 := by omega
            have hp0 := loS_nn HST.out hv50; have hpq := loS_hiS HST.out hv50; have hqv := hiS_le HST.out hv50; have hcl := left_ A c st A2 c2 wg s v5 wr (C_up HR.out HJ.out.i.up) hc (C_up HR2.out HJ.out.i.up) hc2 hs0 hs1 HST.out ⟨hv50, hv54⟩; have HST5 : Aside0 (thN (rdS st s) x5 y5 (j + 1) = min (thN (rdS st s) x5 y5 j) (max 1 (loS (rdS st s) v5 - min y5.hi (hiS (rdS st s) v5 - 1)))) := ⟨by rw [thN_succ, ← HV5.out]; rfl⟩
            gi_wp2_with fail
            refine ⟨trivial, (callsIn_wide.2 hcl).mono ?_⟩; clear hcl; rintro e W9 ⟨rfl, hu9⟩
            generalize loS (rdS st s) v5 = lp at *
            generalize hiS (rdS st s) v5 = lq at *
            generalize thN (rdS st s) x5 y5 j = am at *
            have HJ10 := Aside0.mk ((HJ.out.then hu9).then ((Up.refl W9).alloc (.cells #[.int .i64 lp, .int .i64 lq] 100))); have HB12 : Aside0 (Bx (W9.alloc (.cells #[.int .i64 lp, .int .i64 lq] 100)) W9.heap.size #[.int .i64 lp, .int .i64 lq] 100) := ⟨Bx.new W9 _ _⟩; clear hu9 hq2 hq3 hq8 cx0 cx1 HJ
            gi_wp2_with fail
            obtain ⟨B12, hB12⟩ : ∃ B, B = W9.heap.size := ⟨_, rfl⟩; obtain ⟨W10, hW10⟩ : ∃ W, W = W9.alloc (.cells #[.int .i64 lp, .int .i64 lq] 100) := ⟨_, rfl⟩; rw [← hW10] at HJ10 HB12; rw [← hB12] at HB12; simp only [← hW10, ← hB12]; clear hW10 hB12; have hq5 := HJ10.out.i.b5.cell; have hqc := HB12.out.cell; have hq8 := HJ10.out.b8.cell; obtain ⟨cy0, cy1⟩ := HJ10.out.i.cell (s + 1) (by rw [thL5_len]; omega); rw [← HY5.out] at cy0 cy1; have hwl : IntKind.i64.wrap (lq - 1) = lq - 1 := IntWalk.i64_in _ (by omega); have hwm : IntKind.i64.wrap (lp - min y5.hi (lq - 1)) = lp - min y5.hi (lq - 1) := IntWalk.i64_in _ (by omega); have hwv : IntKind.i64.wrap (v5 + 1) = v5 + 1 := IntWalk.i64_in _ (by omega); refine wpIn_wide.2 ?_; refine wp_region_noPanic ?_; refine start_ (n := 17) (S := fun W' => W'.cell? ⟨w.heap.size + 1 + 1, 0, none⟩ = some (.int .i64 am) ∧ W'.cell? ⟨B12, 0, none⟩ = some (.int .i64 lp) ∧ W'.cell? ⟨B12, 1, none⟩ = some (.int .i64 lq) ∧ W'.cell? ⟨B8, 0, none⟩ = some (.slice (some ⟨g, (s + 1) * 2, none⟩) M KC) ∧ W'.cell? ⟨g, (s + 1) * 2 + 1, none⟩ = some (.int .i64 y5.hi)) (ds := [16]) (bm 17 0) sqF rfl rfl ⟨hq5 0, hqc 0, hqc 1, hq8 0, cy1⟩ (fun hHeld => ?_); refine take_ (i := 0) (N := (some 191)) (v := ?_) (a' := ?_) (bm 17 1) rfl rfl sqF (fun _ _ _ h => h) (Or.inl ⟨by rfl, ?_⟩) hHeld ?_ ?_
            rotate_left
            ·rintro w' ⟨s0, s1, s2, s3, s4⟩
             go_simp; with_reducible rfl
            rotate_left
            ·simp only [Act.put, sqA, i64_w, i32_w]; rfl
            refine take_ (i := 1) (N := (some 192)) (v := ?_) (a' := ?_) (bm 17 3) rfl rfl sqF (fun _ _ _ h => h) (Or.inl ⟨by rfl, ?_⟩) hHeld ?_ ?_
            rotate_left
            ·rintro w' ⟨s0, s1, s2, s3, s4⟩
             go_simp; with_reducible rfl
            rotate_left
            ·simp only [Act.put, sqA, i64_w, i32_w]; rfl
            refine take_ (i := 2) (N := (some 193)) (v := ?_) (a' := ?_) (bm 17 7) rfl rfl sqF (fun _ _ _ h => h) (Or.inl ⟨by rfl, ?_⟩) hHeld ?_ ?_
            rotate_left
            ·rintro w' ⟨s0, s1, s2, s3, s4⟩
             go_simp; with_reducible rfl
            rotate_left
            ·simp only [Act.put, sqA, i64_w, i32_w]; rfl
            refine take_ (i := 3) (N := (some 194)) (v := ?_) (a' := ?_) (bm 17 15) rfl rfl sqF (fun _ _ _ h => h) (Or.inl ⟨by rfl, ?_⟩) hHeld ?_ ?_
            rotate_left
            ·rintro w' ⟨s0, s1, s2, s3, s4⟩
             go_simp; with_reducible rfl
            rotate_left
            ·simp only [Act.put, sqA, i64_w, i32_w]; rfl
            refine take_ (i := 4) (N := (some 195)) (v := ?_) (a' := ?_) (bm 17 31) rfl rfl sqF (fun _ _ _ h => h) (Or.inl ⟨by rfl, ?_⟩) hHeld ?_ ?_
            rotate_left
            ·rintro w' ⟨s0, s1, s2, s3, s4⟩
             go_simp; with_reducible rfl
            rotate_left
            ·simp only [Act.put, sqA, i64_w, i32_w]; rfl
            refine take_ (i := 5) (N := (some 196)) (v := ?_) (a' := ?_) (bm 17 63) rfl rfl sqF (fun _ _ _ h => h) (Or.inl ⟨by rfl, ?_⟩) hHeld ?_ ?_
            rotate_left
            ·rintro w' ⟨s0, s1, s2, s3, s4⟩
             go_simp; with_reducible rfl
            rotate_left
            ·simp only [Act.put, sqA, i64_w, i32_w]; rfl
            refine take_ (i := 6) (N := (some 197)) (v := ?_) (a' := ?_) (bm 17 127) rfl rfl sqF (fun _ _ _ h => h) (Or.inl ⟨by rfl, ?_⟩) hHeld ?_ ?_
            rotate_left
            ·rintro w' ⟨s0, s1, s2, s3, s4⟩
             go_simp; with_reducible rfl
            rotate_left
            ·simp only [Act.put, sqA, i64_w, i32_w]; rfl
            refine take_ (i := 7) (N := (some 198)) (v := ?_) (a' := ?_) (bm 17 255) rfl rfl sqF (fun _ _ _ h => h) (Or.inl ⟨by rfl, ?_⟩) hHeld ?_ ?_
            rotate_left
            ·rintro w' ⟨s0, s1, s2, s3, s4⟩
             go_simp; with_reducible rfl
            rotate_left
            ·simp only [Act.put, sqA, i64_w, i32_w]; rfl
            refine take_ (i := 8) (N := (some 199)) (v := ?_) (a' := ?_) (bm 17 511) rfl rfl sqF (fun _ _ _ h => h) (Or.inl ⟨by rfl, ?_⟩) hHeld ?_ ?_
            rotate_left
            ·rintro w' ⟨s0, s1, s2, s3, s4⟩
             go_simp; with_reducible rfl
            rotate_left
            ·simp only [Act.put, sqA, i64_w, i32_w]; rfl
            refine take_ (i := 9) (N := (some 200)) (v := ?_) (a' := ?_) (bm 17 1023) rfl rfl sqF (fun _ _ _ h => h) (Or.inl ⟨by rfl, ?_⟩) hHeld ?_ ?_
            rotate_left
            ·rintro w' ⟨s0, s1, s2, s3, s4⟩
             go_simp; with_reducible rfl
            rotate_left
            ·simp only [Act.put, sqA, i64_w, i32_w]; rfl
            refine pure_ (i := 10) (N := (some 201)) (v := ?_) (a' := ?_) (bm 17 2047) rfl rfl sqF (fun _ _ _ h => h) (Or.inl ⟨by rfl, ?_⟩) ?_ ?_
            rotate_left
            ·intro w'
             go_simp; with_reducible rfl
            rotate_left
            ·simp only [Act.put, sqA, i64_w, i32_w]; rfl
            refine one_ (i := 11) (N := (some 202)) (bm 17 4095) rfl rfl sqF (by decide) (fun K hK => ?_); refine value_ (v := ?_) (w1 := W10.drew) (by rfl) rfl ?_ ?_
            rotate_left
            ·go_simp
             rfl
            refine hK.out _ _ hHeld (fun hHeld => ?_); clear hK K; refine norm_ (a' := ?_) ?_ ?_
            rotate_left
            ·show Act.put _ (some 202) _ = _
             simp only [Act.put, sqA, i64_w, i32_w]; rfl
            refine pure_ (i := 12) (N := (some 203)) (v := ?_) (a' := ?_) (bm 17 8191) rfl rfl sqF (fun _ _ _ h => h) (Or.inl ⟨by rfl, ?_⟩) ?_ ?_
            rotate_left
            ·intro w'
             go_simp; with_reducible rfl
            rotate_left
            ·simp only [Act.put, sqA, i64_w, i32_w]; rfl
            refine one_ (i := 13) (N := (some 204)) (bm 17 16383) rfl rfl sqF (by decide) (fun K hK => ?_); refine value_ (v := ?_) (w1 := W10.drew) (by rfl) rfl ?_ ?_
            rotate_left
            ·go_simp
             rfl
            refine hK.out _ _ hHeld (fun hHeld => ?_); clear hK K; refine norm_ (a' := ?_) ?_ ?_
            rotate_left
            ·show Act.put _ (some 204) _ = _
             simp only [Act.put, sqA, i64_w, i32_w]; rfl
            refine one_ (i := 14) (N := (some 205)) (bm 17 32767) rfl rfl sqF (by decide) (fun K hK => ?_); refine value_ (v := ?_) (w1 := W10.drew) (by rfl) rfl ?_ ?_
            rotate_left
            ·go_simp
             rfl
            refine hK.out _ _ hHeld (fun hHeld => ?_); clear hK K; refine norm_ (a' := ?_) ?_ ?_
            rotate_left
            ·show Act.put _ (some 205) _ = _
             simp only [Act.put, sqA, i64_w, i32_w]; rfl
            refine one_ (i := 15) (N := (some 206)) (bm 17 65535) rfl rfl sqF (by decide) (fun K hK => ?_); refine value_ (v := ?_) (w1 := W10.drew) (by rfl) rfl ?_ ?_
            rotate_left
            ·go_simp
             rfl
            refine hK.out _ _ hHeld (fun hHeld => ?_); clear hK K; refine norm_ (a' := ?_) ?_ ?_
            rotate_left
            ·show Act.put _ (some 206) _ = _
             simp only [Act.put, sqA, i64_w, i32_w]; rfl
            refine last_ (i := 16) (N := none) (bm 17 131071) rfl rfl sqF (by decide) (fun K hK => ?_)
            have hyz := HJ10.out.then ((Up.refl W10).drew)
            have hz0 := hyz.i.b5.cell; have hfz := hyz.i.b5.frozen; refine skip_ (w1 := ?_) (by rfl) rfl ?_ ?_
            rotate_left
            ·go_simp
             rfl
            refine hK.out _ _ ?_; clear hK K hz0 hfz; refine done_ sqF ?_; refine NoPanic.normal ?_; have HJB := Aside0.mk ((HJ10.out.amtLo (min am (max 1 (lp - min y5.hi (lq - 1))))).then ((Up.refl _).drew)); clear hyz hq5 hqc hq8 cy0 cy1
            gi_wp2_with fail
            go_roundw
            case rel => exact ⟨j + 1, by have := HV5.out; omega, by rw [HV5.out]; congr 1; omega, ⟨by rw [HST5.out]; exact HJB.out⟩⟩
            case measure => simp [intOf]; omega
           ·have hje : j = (x5.hi + 1 - x5.lo).toNat := by have := HV5.out; omega
            have HAM : Aside0 ((⟨thN (rdS st s) x5 y5 j, hiS (rdS st s) x5.hi - y5.lo⟩ : Sp) = thAmt st wg s) := ⟨by rw [hje]; simp only [thAmt, ← HX5.out, ← HY5.out]⟩; rw [HAM.out] at HJ; have hq5 := HJ.out.i.b5.cell; have hf5 := HJ.out.i.b5.frozen; have HRT : Aside0 (thR st wg s = thAmt st wg s) := ⟨by simp [thR, HK1.out]⟩
            generalize thAmt st wg s = ta at *
            gi_wp2_with fail
            refine wpIn_wide.2 ?_; refine wp_region_noPanic ?_; refine start_ (n := 5) (S := fun W' => W'.cell? ⟨w.heap.size + 1 + 1, 0, none⟩ = some (.int .i64 ta.lo) ∧ W'.cell? ⟨w.heap.size + 1 + 1, 1, none⟩ = some (.int .i64 ta.hi)) (ds := [3]) (bm 5 0) sqF rfl rfl ⟨hq5 0, hq5 1⟩ (fun hHeld => ?_); refine pure_ (i := 0) (N := (some 207)) (v := ?_) (a' := ?_) (bm 5 1) rfl rfl sqF (fun _ _ _ h => h) (Or.inl ⟨by rfl, ?_⟩) ?_ ?_
            rotate_left
            ·intro w'
             go_simp; with_reducible rfl
            rotate_left
            ·simp only [Act.put, sqA, i64_w, i32_w]; rfl
            refine pure_ (i := 2) (N := (some 4)) (v := ?_) (a' := ?_) (bm 5 5) rfl rfl sqF (fun _ _ _ h => h) (Or.inl ⟨by rfl, ?_⟩) ?_ ?_
            rotate_left
            ·intro w'
             go_simp; with_reducible rfl
            rotate_left
            ·simp only [Act.put, sqA, i64_w, i32_w]; rfl
            refine take_ (i := 1) (N := (some 208)) (v := ?_) (a' := ?_) (bm 5 7) rfl rfl sqF (fun _ _ _ h => h) (Or.inl ⟨by rfl, ?_⟩) hHeld ?_ ?_
            rotate_left
            ·rintro w' ⟨s0, s1⟩
             go_simp; with_reducible rfl
            rotate_left
            ·simp only [Act.put, sqA, i64_w, i32_w]; rfl
            refine last_ (i := 3) (N := none) (bm 5 15) rfl rfl sqF (by decide) (fun K hK => ?_); refine skip_ (w1 := ?_) (by rfl) rfl ?_ ?_
            rotate_left
            ·go_simp
             rfl
            refine hK.out _ _ ?_; clear hK K; refine pure_ (i := 4) (N := (some 6)) (v := ?_) (a' := ?_) (bm 5 31) rfl rfl sqF (fun _ _ _ h => h) (Or.inl ⟨by rfl, ?_⟩) ?_ ?_
            rotate_left
            ·intro w'
             go_simp; with_reducible rfl
            rotate_left
            ·simp only [Act.put, sqA, i64_w, i32_w]; rfl
            refine done_ sqF ?_; refine NoPanic.normal ?_
            gi_wp2_with fail
            have HJC := Aside0.mk ((HJ.out.amt ta).then ((Up.refl _).drew)); refine ⟨by simp, .inl ⟨_, _, rfl, run_takeDeferred HJC.out.d, ?_⟩⟩; have hfin := HJC.out.fin; clear hq5 hf5; have hq5 := hfin.b5.cell; refine ⟨.tuple #[.slice (some ⟨g, 0, none⟩) N cap, .agg #[.int .i64 ta.lo, .int .i64 ta.hi], .bool true], ?_, .slice (some ⟨g, 0, none⟩) N cap, ?_, ?_, hfin.up⟩
            ·simp [results, Tryd.f72, go_sem, hq5]
            ·simp [HRT.out, HK1.out]
            ·have h9 := hfin.row.toOwn (base := w.heap.size) (by have := hfin.gb; omega)
             rw [thL5_len, ← HN.out] at h9; rw [thL, HK1.out]; simp only [if_true]; rw [thL5_len, ← HN.out]; exact h9
   case body =>
    rintro lq pre p post v Wd hl ⟨rq, hlr⟩ hL hI rfl
    try dsimp only
    have hpp := downL_at _ _ _ _ hL; have hq2 := hI.i.b2.cell; have hq3 := hI.i.b3.cell; have hq8 := hI.b8.cell
    by_cases hsp : s < p
    ·have hsp' : (p : Int) > (s : Int) := by omega
     by_cases hlt : p < st.length
     ·have hps : (p : Int) < (st.length : Int) := by omega
      have hk : pre.length = st.length - p := by omega
      have hrow := hI.i; rw [hk, Nat.min_eq_left (by omega)] at hrow; obtain ⟨hstp, hcur⟩ := gst_succ st (thL2 st wg s) (thL2_len st wg s) p hlt
      have hgl : (gst st (thL2 st wg s) (st.length - p)).length = st.length + 1 := by rw [gst_len, thL2_len]
      obtain ⟨ca, cb⟩ := hrow.cell p (by rw [hgl]; omega); obtain ⟨cc, cd⟩ := hrow.cell (p + 1) (by rw [hgl]; omega); have hso : okS (rdS (gst st (thL2 st wg s) (st.length - p)) (p : Nat)) := rd_ok (gst_ok (thL2_ok HOK.out s HS.out) _) p; have hsb := HOK.out.at p (by omega) (by omega); obtain ⟨d, hd⟩ : ∃ d : Nat, p = s + d := ⟨p - s, by omega⟩; obtain ⟨q, hq⟩ : ∃ q : Nat, d = q + 1 := ⟨d - 1, by omega⟩
      have hwd : IntKind.i64.wrap ((p : Int) - (s : Int)) = (d : Int) := by rw [IntWalk.i64_in _ (by omega)]; omega
      have hwq : IntKind.i64.wrap ((d : Int) - 1) = (q : Int) := by rw [IntWalk.i64_in _ (by omega)]; omega
      have e1 : p * 2 = (s + 1) * 2 + q * 2 := by omega
      have e2 : (p + 1) * 2 = (s + 1) * 2 + d * 2 := by omega
      rw [e1] at ca cb; rw [e2] at cc cd
      have hq0 : (0 : Int) ≤ (q : Int) := by omega
      have hd0 : (0 : Int) ≤ (d : Int) := by omega
      have hqM : (q : Int) < (M : Int) := by have := HM.out; have := HN.out; omega
      have hdM : (d : Int) < (M : Int) := by have := HM.out; have := HN.out; omega
      have hp0 : (0 : Int) ≤ (p : Int) := by omega
      have HE1 := Aside0.mk e1; have HLT : Aside0 (s < p ∧ p < st.length ∧ pre.length = st.length - p) := ⟨hsp, hlt, hk⟩
      generalize hgs : gst st (thL2 st wg s) (st.length - p) = G at *
      obtain ⟨x1, hx1⟩ : ∃ x, x = rdS G (p : Nat) := ⟨_, rfl⟩; obtain ⟨y1, hy1⟩ : ∃ y, y = rdS G ((p + 1 : Nat) : Int) := ⟨_, rfl⟩; rw [← hx1] at ca cb hso hcur hstp; rw [← hy1] at cc cd hstp; have HSP := Aside0.mk hstp; have HI := Aside0.mk hrow; have HI8 := Aside0.mk hI.b8; have HGL2 := Aside0.mk hgl; have HCALL : Aside0 (∀ W : World, Up Wd W → Calls Tryd.prog 103 #[.agg #[.slice A st.length c, .slice A2 wg.length c2], .int .i64 (p : Int), .agg #[.int .i64 x1.lo, .int .i64 x1.hi], .agg #[.int .i64 y1.lo, .int .i64 y1.hi]] W fun e w' => e = .returned (.agg #[.int .i64 (backS (rdS st (p : Nat)) x1 y1).lo, .int .i64 (backS (rdS st (p : Nat)) x1 y1).hi]) ∧ Up W w') := ⟨fun W hu => back_ A c st A2 c2 wg p x1 y1 W (C_up HR.out (HI.out.up.then hu)) hc (C_up HR2.out (HI.out.up.then hu)) hc2 hp0 hps hsb hso⟩; have HS4 : Aside0 (∀ W' : World, Up Wd W' → W'.cell? ⟨w.heap.size, 0, none⟩ = some (.slice A st.length c) ∧ W'.cell? ⟨w.heap.size, 1, none⟩ = some (.slice A2 wg.length c2) ∧ W'.cell? ⟨w.heap.size + 1, 0, none⟩ = some (.int .i64 (s : Int)) ∧ W'.cell? ⟨B8, 0, none⟩ = some (.slice (some ⟨g, (s + 1) * 2, none⟩) M KC) ∧ W'.cell? ⟨g, (s + 1) * 2 + q * 2, none⟩ = some (.int .i64 x1.lo) ∧ W'.cell? ⟨g, (s + 1) * 2 + q * 2 + 1, none⟩ = some (.int .i64 x1.hi) ∧ W'.cell? ⟨g, (s + 1) * 2 + d * 2, none⟩ = some (.int .i64 y1.lo) ∧ W'.cell? ⟨g, (s + 1) * 2 + d * 2 + 1, none⟩ = some (.int .i64 y1.hi)) := ⟨fun W' hu => ⟨hu.cell (hq2 0), hu.cell (hq2 1), hu.cell (hq3 0), hu.cell (hq8 0), hu.cell ca, hu.cell cb, hu.cell cc, hu.cell cd⟩⟩; clear hstp hcur hrow hgl hI hgs hx1 hy1 hsb hso hlr hpp hlt hk hsp ca cb cc cd hd hq e1 e2 hL; generalize backS (rdS st (p : Nat)) x1 y1 = z at *
      gi_wp2_with fail
      -- EV R11
      refine round_start (n := 23) (S := fun W' => W'.cell? ⟨w.heap.size, 0, none⟩ = some (.slice A st.length c) ∧ W'.cell? ⟨w.heap.size, 1, none⟩ = some (.slice A2 wg.length c2) ∧ W'.cell? ⟨w.heap.size + 1, 0, none⟩ = some (.int .i64 (s : Int)) ∧ W'.cell? ⟨B8, 0, none⟩ = some (.slice (some ⟨g, (s + 1) * 2, none⟩) M KC) ∧ W'.cell? ⟨g, (s + 1) * 2 + q * 2, none⟩ = some (.int .i64 x1.lo) ∧ W'.cell? ⟨g, (s + 1) * 2 + q * 2 + 1, none⟩ = some (.int .i64 x1.hi) ∧ W'.cell? ⟨g, (s + 1) * 2 + d * 2, none⟩ = some (.int .i64 y1.lo) ∧ W'.cell? ⟨g, (s + 1) * 2 + d * 2 + 1, none⟩ = some (.int .i64 y1.hi)) (ds := [22]) (bm 23 0) sqF sqF (by rintro ⟨_, _, h⟩; exact h) rfl rfl (HS4.out _ ((Up.refl Wd).drew)) (fun hHeld => ?_); refine take_ (i := 0) (N := (some 78)) (v := ?_) (a' := ?_) (bm 23 1) rfl rfl sqF (fun _ _ _ h => h) (Or.inl ⟨by rfl, ?_⟩) hHeld ?_ ?_
      rotate_left
      ·rintro w' ⟨s0, s1, s2, s3, s4, s5, s6, s7⟩
       go_simp; with_reducible rfl
      rotate_left
      ·simp only [Act.put, sqA, i64_w, i32_w]; rfl
      refine pure_ (i := 1) (N := (some 79)) (v := ?_) (a' := ?_) (bm 23 3) rfl rfl sqF (fun _ _ _ h => h) (Or.inl ⟨by rfl, ?_⟩) ?_ ?_
      rotate_left
      ·intro w'
       go_simp; with_reducible rfl
      rotate_left
      ·simp only [Act.put, sqA, i64_w, i32_w]; rfl
      refine take_ (i := 2) (N := (some 80)) (v := ?_) (a' := ?_) (bm 23 7) rfl rfl sqF (fun _ _ _ h => h) (Or.inl ⟨by rfl, ?_⟩) hHeld ?_ ?_
      rotate_left
      ·rintro w' ⟨s0, s1, s2, s3, s4, s5, s6, s7⟩
       go_simp; with_reducible rfl
      rotate_left
      ·simp only [Act.put, sqA, i64_w, i32_w]; rfl
      refine pure_ (i := 3) (N := (some 81)) (v := ?_) (a' := ?_) (bm 23 15) rfl rfl sqF (fun _ _ _ h => h) (Or.inl ⟨by rfl, ?_⟩) ?_ ?_
      rotate_left
      ·intro w'
       go_simp; with_reducible rfl
      rotate_left
      ·simp only [Act.put, sqA, i64_w, i32_w]; rfl
      refine pure_ (i := 4) (N := (some 82)) (v := ?_) (a' := ?_) (bm 23 31) rfl rfl sqF (fun _ _ _ h => h) (Or.inl ⟨by rfl, ?_⟩) ?_ ?_
      rotate_left
      ·intro w'
       go_simp; with_reducible rfl
      rotate_left
      ·simp only [Act.put, sqA, i64_w, i32_w]; rfl
      refine take_ (i := 5) (N := (some 83)) (v := ?_) (a' := ?_) (bm 23 63) rfl rfl sqF (fun _ _ _ h => h) (Or.inl ⟨by rfl, ?_⟩) hHeld ?_ ?_
      rotate_left
      ·rintro w' ⟨s0, s1, s2, s3, s4, s5, s6, s7⟩
       go_simp; with_reducible rfl
      rotate_left
      ·simp only [Act.put, sqA, i64_w, i32_w]; rfl
      refine pure_ (i := 6) (N := (some 84)) (v := ?_) (a' := ?_) (bm 23 127) rfl rfl sqF (fun _ _ _ h => h) (Or.inl ⟨by rfl, ?_⟩) ?_ ?_
      rotate_left
      ·intro w'
       go_simp; with_reducible rfl
      rotate_left
      ·simp only [Act.put, sqA, i64_w, i32_w]; rfl
      refine take_ (i := 7) (N := (some 85)) (v := ?_) (a' := ?_) (bm 23 255) rfl rfl sqF (fun _ _ _ h => h) (Or.inl ⟨by rfl, ?_⟩) hHeld ?_ ?_
      rotate_left
      ·rintro w' ⟨s0, s1, s2, s3, s4, s5, s6, s7⟩
       go_simp; with_reducible rfl
      rotate_left
      ·simp only [Act.put, sqA, i64_w, i32_w]; rfl
      refine pure_ (i := 8) (N := (some 86)) (v := ?_) (a' := ?_) (bm 23 511) rfl rfl sqF (fun _ _ _ h => h) (Or.inl ⟨by rfl, ?_⟩) ?_ ?_
      rotate_left
      ·intro w'
       go_simp; with_reducible rfl
      rotate_left
      ·simp only [Act.put, sqA, i64_w, i32_w]; rfl
      refine take_ (i := 9) (N := (some 87)) (v := ?_) (a' := ?_) (bm 23 1023) rfl rfl sqF (fun _ _ _ h => h) (Or.inl ⟨by rfl, ?_⟩) hHeld ?_ ?_
      rotate_left
      ·rintro w' ⟨s0, s1, s2, s3, s4, s5, s6, s7⟩
       go_simp; with_reducible rfl
      rotate_left
      ·simp only [Act.put, sqA, i64_w, i32_w]; rfl
      refine pure_ (i := 10) (N := (some 88)) (v := ?_) (a' := ?_) (bm 23 2047) rfl rfl sqF (fun _ _ _ h => h) (Or.inl ⟨by rfl, ?_⟩) ?_ ?_
      rotate_left
      ·intro w'
       go_simp; with_reducible rfl
      rotate_left
      ·simp only [Act.put, sqA, i64_w, i32_w]; rfl
      refine pure_ (i := 11) (N := (some 89)) (v := ?_) (a' := ?_) (bm 23 4095) rfl rfl sqF (fun _ _ _ h => h) (Or.inl ⟨by rfl, ?_⟩) ?_ ?_
      rotate_left
      ·intro w'
       go_simp; with_reducible rfl
      rotate_left
      ·simp only [Act.put, sqA, i64_w, i32_w]; rfl
      refine take_ (i := 12) (N := (some 90)) (v := ?_) (a' := ?_) (bm 23 8191) rfl rfl sqF (fun _ _ _ h => h) (Or.inl ⟨by rfl, ?_⟩) hHeld ?_ ?_
      rotate_left
      ·rintro w' ⟨s0, s1, s2, s3, s4, s5, s6, s7⟩
       go_simp; with_reducible rfl
      rotate_left
      ·simp only [Act.put, sqA, i64_w, i32_w]; rfl
      refine take_ (i := 13) (N := (some 91)) (v := ?_) (a' := ?_) (bm 23 16383) rfl rfl sqF (fun _ _ _ h => h) (Or.inl ⟨by rfl, ?_⟩) hHeld ?_ ?_
      rotate_left
      ·rintro w' ⟨s0, s1, s2, s3, s4, s5, s6, s7⟩
       go_simp; with_reducible rfl
      rotate_left
      ·simp only [Act.put, sqA, i64_w, i32_w]; rfl
      refine take_ (i := 14) (N := (some 92)) (v := ?_) (a' := ?_) (bm 23 32767) rfl rfl sqF (fun _ _ _ h => h) (Or.inl ⟨by rfl, ?_⟩) hHeld ?_ ?_
      rotate_left
      ·rintro w' ⟨s0, s1, s2, s3, s4, s5, s6, s7⟩
       go_simp; with_reducible rfl
      rotate_left
      ·simp only [Act.put, sqA, i64_w, i32_w]; rfl
      refine pure_ (i := 15) (N := (some 93)) (v := ?_) (a' := ?_) (bm 23 65535) rfl rfl sqF (fun _ _ _ h => h) (Or.inl ⟨by rfl, ?_⟩) ?_ ?_
      rotate_left
      ·intro w'
       go_simp; with_reducible rfl
      rotate_left
      ·simp only [Act.put, sqA, i64_w, i32_w]; rfl
      refine take_ (i := 16) (N := (some 94)) (v := ?_) (a' := ?_) (bm 23 131071) rfl rfl sqF (fun _ _ _ h => h) (Or.inl ⟨by rfl, ?_⟩) hHeld ?_ ?_
      rotate_left
      ·rintro w' ⟨s0, s1, s2, s3, s4, s5, s6, s7⟩
       go_simp; with_reducible rfl
      rotate_left
      ·simp only [Act.put, sqA, i64_w, i32_w]; rfl
      refine pure_ (i := 17) (N := (some 95)) (v := ?_) (a' := ?_) (bm 23 262143) rfl rfl sqF (fun _ _ _ h => h) (Or.inl ⟨by rfl, ?_⟩) ?_ ?_
      rotate_left
      ·intro w'
       go_simp; with_reducible rfl
      rotate_left
      ·simp only [Act.put, sqA, i64_w, i32_w]; rfl
      refine take_ (i := 18) (N := (some 96)) (v := ?_) (a' := ?_) (bm 23 524287) rfl rfl sqF (fun _ _ _ h => h) (Or.inl ⟨by rfl, ?_⟩) hHeld ?_ ?_
      rotate_left
      ·rintro w' ⟨s0, s1, s2, s3, s4, s5, s6, s7⟩
       go_simp; with_reducible rfl
      rotate_left
      ·simp only [Act.put, sqA, i64_w, i32_w]; rfl
      refine take_ (i := 19) (N := (some 97)) (v := ?_) (a' := ?_) (bm 23 1048575) rfl rfl sqF (fun _ _ _ h => h) (Or.inl ⟨by rfl, ?_⟩) hHeld ?_ ?_
      rotate_left
      ·rintro w' ⟨s0, s1, s2, s3, s4, s5, s6, s7⟩
       go_simp; with_reducible rfl
      rotate_left
      ·simp only [Act.put, sqA, i64_w, i32_w]; rfl
      refine one_ (i := 20) (N := (some 98)) (bm 23 2097151) rfl rfl sqF (by decide) (fun K hK => ?_); refine goes_ Tryd.func103 sqF rfl #[.agg #[.slice A st.length c, .slice A2 wg.length c2], .int .i64 (p : Int), .agg #[.int .i64 x1.lo, .int .i64 x1.hi], .agg #[.int .i64 y1.lo, .int .i64 y1.hi]] (by rfl) rfl rfl sqM ?_; refine (HCALL.out _ ((Up.refl Wd).drew)).mono ?_; rintro e w3 ⟨rfl, hb⟩; have HV3 : Aside0 (Up Wd w3) := ⟨((Up.refl Wd).drew).then hb⟩; clear hb; refine ⟨_, rfl, ?_⟩; refine hK.out _ _ (HS4.out _ HV3.out) (fun hHeld => ?_); clear hK K; refine norm_ (a' := ?_) ?_ ?_
      rotate_left
      ·show Act.put _ (some 98) _ = _
       simp only [Act.put, sqA, i64_w, i32_w]; rfl
      refine one_ (i := 21) (N := (some 99)) (bm 23 4194303) rfl rfl sqF (by decide) (fun K hK => ?_); refine value_ (v := ?_) (w1 := w3) (by rfl) rfl ?_ ?_
      rotate_left
      ·go_simp
       rfl
      refine hK.out _ _ hHeld (fun hHeld => ?_); clear hK K; refine norm_ (a' := ?_) ?_ ?_
      rotate_left
      ·show Act.put _ (some 99) _ = _
       simp only [Act.put, sqA, i64_w, i32_w]; rfl
      refine last_ (i := 22) (N := none) (bm 23 8388607) rfl rfl sqF (by decide) (fun K hK => ?_)
      have hyz := HI.out.then HV3.out
      obtain ⟨hz0, hz1⟩ := hyz.cell p (by rw [HGL2.out]; have := HLT.out; omega); rw [HE1.out] at hz0 hz1; have hfz := hyz.frozen; refine skip_ (w1 := ?_) (by rfl) rfl ?_ ?_
      rotate_left
      ·go_simp
       rfl
      refine hK.out _ _ ?_; clear hK K; refine done_ sqF ?_; have hput := hyz.put p (by rw [HGL2.out]; have := HLT.out; omega) z; rw [← HSP.out, HE1.out] at hput; have hne := hyz.ne (HI8.out.up HV3.out) (by decide); refine ⟨?_, ?_, ((HI8.out.up HV3.out).far hne _ _).far hne _ _⟩
      ·have hk9 := kt_set (Kt.up HV3.out : Kt ptLo Wd w3) (spc_typed hyz.row (lo := ptLo) rfl) ((s + 1) * 2 + q * 2) (.int .i64 z.lo)
       exact (kt_set hk9.1 hk9.2 ((s + 1) * 2 + q * 2 + 1) (.int .i64 z.hi)).1
      ·rw [List.length_append, HLT.out.2.2, List.length_singleton, Nat.min_eq_left (by have := HLT.out; omega)]
       exact hput
      -- END R11
     ·have hps : ¬ ((p : Int) < (st.length : Int)) := by omega
      gi_wp2_with fail
      have hk0 : pre.length = 0 := by omega
      refine ⟨Kt.refl _ _, ?_, hI.b8⟩; have h9 := hI.i; rw [hk0, Nat.zero_min, gst_zero] at h9; rw [List.length_append, hk0, List.length_singleton, Nat.min_eq_left (by have := HS.out; omega), gst_one st _ (thL2_len st wg s)]; exact h9
    ·have hsp' : ¬ ((p : Int) > (s : Int)) := by omega
     gi_wp2_with fail
     refine ⟨Kt.refl _ _, ?_, hI.b8⟩; have h9 := hI.i; rw [Nat.min_eq_right (by omega)] at h9; rw [List.length_append, List.length_singleton, Nat.min_eq_right (by omega)]; exact h9
end Go.Proofs.YtemingmeidmjkaaDoor.Q
namespace Go.Proofs.YtemingmeidmjkaaDoor.Q
open Go.RowKit Go.Shelf Go.Proofs.YtemingmeidmjkaaDoorW.PrintWords Go.Proofs.YtemingmeidmjkaaDoorW.PrintLast
set_option linter.unusedVariables false
set_option linter.unusedSimpArgs false
def whereL (st : List Sp) (wg : List Wg) : List Int := ((List.range st.length).filter fun i => thOk st wg i).map Int.ofNat
def whereN (st : List Sp) (wg : List Wg) (k : Nat) : List Int := ((List.range k).filter fun i => thOk st wg i).map Int.ofNat
theorem whereN_succ (st : List Sp) (wg : List Wg) (k : Nat) : whereN st wg (k + 1) = whereN st wg k ++ (if thOk st wg k then [(k : Int)] else []) := by
 unfold whereN
 rw [List.range_succ, List.filter_append, List.map_append]
 congr 1
 by_cases h : thOk st wg k = true
 ·simp [h]
 ·simp [h]
theorem whereN_len (st : List Sp) (wg : List Wg) (k : Nat) : (whereN st wg k).length ≤ k := by
 unfold whereN
 rw [List.length_map]; exact Nat.le_trans (List.length_filter_le _ _) (by simp)
set_option maxRecDepth 100000 in
set_option maxHeartbeats 1000000 in
theorem where_ (A : Option Addr) (c : Nat) (st : List Sp) (A2 : Option Addr) (c2 : Nat) (wg : List Wg) (w : World) (hG : GL w) (hr : Kd.C kSp w A st.length st) (hc : st.length ≤ c) (hr2 : Kd.C kWg w A2 wg.length wg) (hc2 : wg.length ≤ c2) (hok : RdOk st wg) :
  Calls Tryd.prog 85 #[.agg #[.slice A st.length c, .slice A2 wg.length c2]] w fun e w' => ∃ v, e = .returned v ∧ w'.ownsRow w.heap.size 3 1 v (whereL st wg).length (nums .i64 (whereL st wg)) ∧ (whereL st wg = [] → v = .slice none 0 0) ∧ Up w w' := by
 have hm := CF_len hr; have hl1 := hok.len; have HR := Aside0.mk hr; have HR2 := Aside0.mk hr2; have HOK := Aside0.mk hok; have HGL := Aside0.mk hG; clear hr hr2 hok hG; have HB1 : Aside0 (Bx (w.alloc (.cells #[.slice A st.length c, .slice A2 wg.length c2] 95)) w.heap.size #[.slice A st.length c, .slice A2 wg.length c2] 95) := ⟨Bx.new w _ _⟩; have HU1 : Aside0 (Up w (w.alloc (.cells #[.slice A st.length c, .slice A2 wg.length c2] 95))) := ⟨upA⟩
 go_enter Tryd.func85, Tryd.ntmps85
 go_wp2_with fail
 obtain ⟨i0, hi, hz0, hz1, hz2⟩ := info_parts info_int
 go_loopw [2, 11] (fun v2 i wr => ∃ k : Nat, k ≤ st.length ∧ i = .int .i64 (k : Int) ∧ Aside0 (wr.ownsRow w.heap.size 3 1 v2 (whereN st wg k).length (nums .i64 (whereN st wg k))) ∧ Aside0 (whereN st wg k = [] → v2 = .slice none 0 0) ∧ Aside0 (Bx wr w.heap.size #[.slice A st.length c, .slice A2 wg.length c2] 95) ∧ Aside0 (Up w wr)) (fun _ i _ => st.length - (intOf i).toNat)
 case atStart => exact ⟨0, Nat.zero_le _, rfl, ⟨⟨by simp [whereN, nums], .inl ⟨rfl, rfl⟩⟩⟩, ⟨fun _ => rfl⟩, HB1, HU1⟩
 case round =>
  clear HB1 HU1; obtain ⟨k, hk, rfl, hO, hE, hB, hU⟩ := hrel
  by_cases hlt : k < st.length
  ·have hk1 : (k : Int) < (st.length : Int) := by omega
   have hwk : IntKind.i64.wrap ((k : Int) + 1) = (k : Int) + 1 := IntWalk.i64_in _ (by omega); have hcl := theft_ A c st A2 c2 wg k wr (HGL.out.up hU.out) (C_up HR.out hU.out) hc (C_up HR2.out hU.out) hc2 HOK.out hlt; have hqb := hB.out.cell
   go_wp2_with fail
   refine hcl.mono ?_; clear hcl hqb; rintro e w2 ⟨v3, rfl, hown, hu2⟩; have HO3 := Aside0.mk (own_up hO.out hu2); have HU2 := Aside0.mk (hU.out.then hu2); have HB2 := Aside0.mk (hB.out.up hu2); obtain ⟨A3, c3, rfl, hc3, _⟩ := ownF_slice hown; clear hown hu2
   cases hth : thOk st wg k
   ·have HW : Aside0 (whereN st wg (k + 1) = whereN st wg k) := ⟨by rw [whereN_succ, hth]; simp⟩
    clear hth; have HUA : Aside0 (Up w2 (w2.alloc (.cells #[.int .i64 (thR st wg k).lo, .int .i64 (thR st wg k).hi] 100))) := ⟨upA⟩
    go_wp2_with fail
    go_roundw
    case rel => exact ⟨k + 1, by omega, by go_num, ⟨by rw [HW.out]; exact own_up HO3.out HUA.out⟩, ⟨by rw [HW.out]; exact hE.out⟩, ⟨HB2.out.up HUA.out⟩, ⟨HU2.out.then HUA.out⟩⟩
    case measure => simp [intOf]; omega
   ·have HW : Aside0 (whereN st wg (k + 1) = whereN st wg k ++ [(k : Int)]) := ⟨by rw [whereN_succ, hth]; simp⟩
    clear hth; have HUA : Aside0 (Up w2 ((w2.alloc (.cells #[.int .i64 (thR st wg k).lo, .int .i64 (thR st wg k).hi] 100)).alloc (.cells #[.int .i64 (k : Int)] 3))) := ⟨upA⟩; have HOA := Aside0.mk (own_up HO3.out HUA.out)
    have HRC : Aside0 (0 < 1 → ∃ ad', some (⟨w2.heap.size + 1, 0, none⟩ : Addr) = some ad' ∧ ∀ j u, ([.int .i64 (k : Int)] : List Value)[j]? = some u → ((w2.alloc (.cells #[.int .i64 (thR st wg k).lo, .int .i64 (thR st wg k).hi] 100)).alloc (.cells #[.int .i64 (k : Int)] 3)).cell? (ad'.add j) = some u) := ⟨fun _ => ⟨_, rfl, fun j u hu => by
     match j, hu with
     | 0, hu => simp at hu; subst hu; simp [go_sem]⟩⟩
    have hwl := whereN_len st wg k
    go_wp2_with (at_builtin; refine append_all w.heap.size rfl _ _ 45 3 (.int .i64 0) 1 8 rfl Tryd.underlying45 info_int rfl (by decide) (by decide) _ (whereN st wg k).length (nums .i64 (whereN st wg k)) [.int .i64 (k : Int)] (some ⟨w2.heap.size + 1, 0, none⟩) 1 1 rfl rfl HOA.out rfl HRC.out ?qc3 ?qc4 ?qc5 ?_)
    case qc3 => first | exact rfl | (intro u hu; simp at hu; subst hu; rfl) | simp [Value.oneCell']
    case qc4 => exact (HU2.out.then HUA.out).le
    case qc5 => omega
    intro v3 w3 hown hgrow; have HU3 := Aside0.mk ((HU2.out.then HUA.out).grown HOA.out (Nat.le_refl _) hgrow); have HB3 := Aside0.mk ((HB2.out.up HUA.out).grown HOA.out (by decide) hgrow); have HO4 := Aside0.mk hown; clear hown hgrow; go_wp2_with fail
    go_roundw
    case rel => exact ⟨k + 1, by omega, by go_num, ⟨by rw [HW.out]; have h9 := HO4.out; simpa [nums] using h9⟩, ⟨by rw [HW.out]; intro h; simp at h⟩, HB3, HU3⟩
    case measure => simp [intOf]; omega
  ·obtain rfl : k = st.length := by omega
   go_wp2_with fail
   go_ret
   have h9 := hO.out; have h10 := hE.out; exact ⟨_, rfl, h9, h10, hU.out⟩
theorem nilE (w : World) : (binOp BinOp.eql 45 (.slice none 0 0) (.slice none 0 0)).run Tryd.prog w = .ok (.bool true) w := by kernel_rfl
theorem nilN (w : World) (g n c : Nat) : (binOp BinOp.eql 45 (.slice (some ⟨g, 0, none⟩) n c) (.slice none 0 0)).run Tryd.prog w = .ok (.bool false) w := by kernel_rfl
def owE (st : List Sp) (wg : List Wg) : Int := if roadE st wg = 0 then (if honB st wg then 6 else if whereL st wg = [] then 9 else 0) else roadE st wg
def owL (st : List Sp) (wg : List Wg) : List Int := if owE st wg = 0 then whereL st wg else []
set_option maxRecDepth 100000 in
set_option maxHeartbeats 1000000 in
theorem openWhere_ (A : Option Addr) (c : Nat) (st : List Sp) (A2 : Option Addr) (c2 : Nat) (wg : List Wg) (w : World) (hG : GL w) (hr : Kd.C kSp w A st.length st) (hc : st.length ≤ c) (hr2 : Kd.C kWg w A2 wg.length wg) (hc2 : wg.length ≤ c2) :
  Calls Tryd.prog 71 #[.agg #[.slice A st.length c, .slice A2 wg.length c2]] w fun e w' => ∃ v, e = .returned (.tuple #[.agg #[.slice A st.length c, .slice A2 wg.length c2], v, .int .i64 (owE st wg)]) ∧ w'.ownsRow w.heap.size 3 1 v (owL st wg).length (nums .i64 (owL st wg)) ∧ Up w w' := by
 have HR := Aside0.mk hr; have HR2 := Aside0.mk hr2; have HGL := Aside0.mk hG; clear hr hr2 hG; have HU0 : Aside0 (Up w ((w.alloc (.cells #[.slice A st.length c, .slice A2 wg.length c2] 25)).alloc (.cells #[.slice none 0 0, .slice none 0 0] 95))) := ⟨upA⟩; have HB1 : Aside0 (Bx ((w.alloc (.cells #[.slice A st.length c, .slice A2 wg.length c2] 25)).alloc (.cells #[.slice none 0 0, .slice none 0 0] 95)) (w.heap.size + 1) #[.slice none 0 0, .slice none 0 0] 95) := ⟨by have h9 := Bx.new (w.alloc (.cells #[.slice A st.length c, .slice A2 wg.length c2] 25)) #[.slice none 0 0, .slice none 0 0] 95; simpa using h9⟩; have hcall := open_ A c st A2 c2 wg ((w.alloc (.cells #[.slice A st.length c, .slice A2 wg.length c2] 25)).alloc (.cells #[.slice none 0 0, .slice none 0 0] 95)) (C_up HR.out HU0.out) hc (C_up HR2.out HU0.out) hc2
 have hbe : (roadE st wg != 0) = !decide (roadE st wg = 0) := by by_cases h : roadE st wg = 0 <;> simp [h]
 go_enter Tryd.func71, Tryd.ntmps71
 go_wp2_with fail
 generalize ((w.alloc (.cells #[.slice A st.length c, .slice A2 wg.length c2] 25)).alloc (.cells #[.slice none 0 0, .slice none 0 0] 95)) = W0 at *
 refine hcall.mono ?_; clear hcall; rintro e w1 ⟨rfl, hb⟩; have HU1 := Aside0.mk (HU0.out.then hb); have HB2 := Aside0.mk (HB1.out.up hb); have hq1 := HB2.out.cell; have hf1 := HB2.out.frozen; have HU2 := Aside0.mk ((HU1.out.set ⟨w.heap.size + 1, 0, none⟩ (.slice A st.length c) (by simp)).set ⟨w.heap.size + 1, 1, none⟩ (.slice A2 wg.length c2) (by simp)); have HB3 := Aside0.mk ((HB2.out.set 0 (.slice A st.length c)).set 1 (.slice A2 wg.length c2)); clear hb HB1
 by_cases he : roadE st wg = 0
 ·have hd : (roadE st wg != 0) = false := by simp [he]
  have HE := Aside0.mk he; clear he hbe; go_wp2_with fail; refine (honest_ A c st A2 c2 wg _ (HGL.out.up HU2.out) (C_up HR.out HU2.out) hc (C_up HR2.out HU2.out) hc2 (road_ok HE.out).1).mono ?_; rintro e w2 ⟨v2, rfl, hown, hb⟩; have HU4 := Aside0.mk (HU2.out.then hb); have HB4 := Aside0.mk (HB3.out.up hb); clear hq1 hf1; have hq1 := HB4.out.cell; have hf1 := HB4.out.frozen; obtain ⟨A3, c3, rfl, hc3, _⟩ := ownF_slice hown; clear hown hb
  cases hh : honB st wg
  ·have HU5 := Aside0.mk (HU4.out)
   have hcw := where_ A c st A2 c2 wg w2 (HGL.out.up HU4.out) (C_up HR.out HU4.out) hc (C_up HR2.out HU4.out) hc2 (road_ok HE.out).1
   go_wp2_with fail
   refine hcw.mono ?_; clear hcw; rintro e w3 ⟨v3, rfl, hown, hnil, hb⟩; have HU6 := Aside0.mk (HU4.out.then hb); have HB6 := Aside0.mk (HB4.out.up hb); have HO6 := Aside0.mk (own_mono hown (Nat.le_trans HU4.out.le (Nat.le_refl _))); clear hq1 hf1; have hq1 := HB6.out.cell; have hf1 := HB6.out.frozen; have HB7 := Aside0.mk ((HB6.out.set 0 (.slice A st.length c)).set 1 (.slice A2 wg.length c2)); have HU7 := Aside0.mk ((HU6.out.set ⟨w.heap.size + 1, 0, none⟩ (.slice A st.length c) (by simp)).set ⟨w.heap.size + 1, 1, none⟩ (.slice A2 wg.length c2) (by simp)); have hq5 := HB7.out.cell
   by_cases hw : whereL st wg = []
   ·have hv := hnil hw
    subst hv; have HE2 : Aside0 (owE st wg = 9) := ⟨by simp [owE, HE.out, hh, hw]⟩; have HL : Aside0 (owL st wg = []) := ⟨by simp [owL, HE2.out]⟩; clear hown hnil hb hw hh; have hn0 := nilE
    go_wp2_with fail
    refine bodyPost_ret (v := .tuple #[.agg #[.slice A st.length c, .slice A2 wg.length c2], .slice none 0 0, .int .i64 (9)]) ?_ rfl ⟨.slice none 0 0, by rw [HE2.out], by rw [HL.out]; exact ⟨rfl, .inl ⟨rfl, rfl⟩⟩, HU7.out⟩; clear hq1 hf1; simp [results, Tryd.results71, go_sem, hq5]
   ·have HE2 : Aside0 (owE st wg = 0) := ⟨by simp [owE, HE.out, hh, hw]⟩
    have HL : Aside0 (owL st wg = whereL st wg) := ⟨by simp [owL, HE2.out]⟩; have h0 : 0 < (whereL st wg).length := List.length_pos_iff.2 hw; clear hnil hb hw hh
    rcases hown.2 with ⟨_, h1⟩ | ⟨g, cap, cur, rfl, h2⟩
    ·omega
    ·clear hown h2
     have hn1 := nilN
     go_wp2_with fail
     have HO7 : Aside0 (((w3.setCell ⟨w.heap.size + 1, 0, none⟩ (.slice A st.length c)).setCell ⟨w.heap.size + 1, 1, none⟩ (.slice A2 wg.length c2)).ownsRow w.heap.size 3 1 (.slice (some ⟨g, 0, none⟩) (whereL st wg).length cap) (whereL st wg).length (nums .i64 (whereL st wg))) := ⟨own_far (own_far HO6.out HB6.out (by decide) 0 _) (HB6.out.set 0 _) (by decide) 1 _⟩; refine bodyPost_ret (v := .tuple #[.agg #[.slice A st.length c, .slice A2 wg.length c2], .slice (some ⟨g, 0, none⟩) (whereL st wg).length cap, .int .i64 (0)]) ?_ rfl ⟨_, by rw [HE2.out], by rw [HL.out]; exact HO7.out, HU7.out⟩; clear hq1 hf1; simp [results, Tryd.results71, go_sem, hq5]
  ·have HE2 : Aside0 (owE st wg = 6) := ⟨by simp [owE, HE.out, hh]⟩
   have HL : Aside0 (owL st wg = []) := ⟨by simp [owL, HE2.out]⟩; clear hh; go_wp2_with fail; have HB5 := Aside0.mk ((HB4.out.set 0 (.slice A st.length c)).set 1 (.slice A2 wg.length c2)); have HU5 := Aside0.mk ((HU4.out.set ⟨w.heap.size + 1, 0, none⟩ (.slice A st.length c) (by simp)).set ⟨w.heap.size + 1, 1, none⟩ (.slice A2 wg.length c2) (by simp)); have hq5 := HB5.out.cell; refine bodyPost_ret (v := .tuple #[.agg #[.slice A st.length c, .slice A2 wg.length c2], .slice none 0 0, .int .i64 (6)]) ?_ rfl ⟨.slice none 0 0, by rw [HE2.out], by rw [HL.out]; exact ⟨rfl, .inl ⟨rfl, rfl⟩⟩, HU5.out⟩; clear hq1 hf1; simp [results, Tryd.results71, go_sem, hq5]
 ·have hd : (roadE st wg != 0) = true := by simp [he]
  have HE2 : Aside0 (owE st wg = roadE st wg) := ⟨by simp [owE, he]⟩; have HL : Aside0 (owL st wg = []) := ⟨by simp [owL, owE, he]⟩; have HB4 := HB3; have HU4 := HU2; clear he hbe; go_wp2_with fail; have HB5 := Aside0.mk ((HB4.out.set 0 (.slice A st.length c)).set 1 (.slice A2 wg.length c2)); have HU5 := Aside0.mk ((HU4.out.set ⟨w.heap.size + 1, 0, none⟩ (.slice A st.length c) (by simp)).set ⟨w.heap.size + 1, 1, none⟩ (.slice A2 wg.length c2) (by simp)); have hq5 := HB5.out.cell; refine bodyPost_ret (v := .tuple #[.agg #[.slice A st.length c, .slice A2 wg.length c2], .slice none 0 0, .int .i64 (roadE st wg)]) ?_ rfl ⟨.slice none 0 0, by rw [HE2.out], by rw [HL.out]; exact ⟨rfl, .inl ⟨rfl, rfl⟩⟩, HU5.out⟩; clear hq1 hf1; simp [results, Tryd.results71, go_sem, hq5]
end Go.Proofs.YtemingmeidmjkaaDoor.Q
namespace Go.Proofs.YtemingmeidmjkaaDoor.Q
open Go.RowKit Go.Shelf Go.Proofs.YtemingmeidmjkaaDoorW.PrintWords Go.Proofs.YtemingmeidmjkaaDoorW.PrintLast
set_option linter.unusedVariables false
set_option linter.unusedSimpArgs false
set_option maxRecDepth 100000 in
theorem Where_ (A : Option Addr) (c : Nat) (st : List Sp) (A2 : Option Addr) (c2 : Nat) (wg : List Wg) (w : World) (hG : GL w) (hr : Kd.C kSp w A st.length st) (hc : st.length ≤ c) (hr2 : Kd.C kWg w A2 wg.length wg) (hc2 : wg.length ≤ c2) :
  Calls Tryd.prog 31 #[.agg #[.slice A st.length c, .slice A2 wg.length c2]] w fun e w' => ∃ v, e = .returned (.tuple #[v, .int .i64 (owE st wg)]) ∧ w'.ownsRow w.heap.size 3 1 v (owL st wg).length (nums .i64 (owL st wg)) ∧ Up w w' := by
 have HR := Aside0.mk hr; have HR2 := Aside0.mk hr2; have HGL := Aside0.mk hG; clear hr hr2 hG; have HU0 : Aside0 (Up w (w.alloc (.cells #[.slice A st.length c, .slice A2 wg.length c2] 25))) := ⟨upA⟩; have hcall := openWhere_ A c st A2 c2 wg _ (HGL.out.up HU0.out) (C_up HR.out HU0.out) hc (C_up HR2.out HU0.out) hc2
 go_enter Tryd.func31, Tryd.ntmps31
 go_wp2_with fail
 refine hcall.mono ?_; clear hcall; rintro e w1 ⟨v1, rfl, hown, hb⟩; obtain ⟨A3, c3, rfl, hc3, _⟩ := ownF_slice hown; have HU1 := Aside0.mk (HU0.out.then hb); have HO := Aside0.mk (own_mono hown HU0.out.le); clear hown hb; go_wp2_with fail
 go_ret2
 exact ⟨_, rfl, own_up HO.out upA, HU1.out.then upA⟩
def amE (st : List Sp) (wg : List Wg) (s : Int) : Int := if roadE st wg = 0 then (if inB 0 ((st.length : Int) - 1) [s] then (if thOk st wg s.toNat then 0 else 9) else 7) else roadE st wg
def amS (st : List Sp) (wg : List Wg) (s : Int) : Sp := if amE st wg s = 0 then thAmt st wg s.toNat else ⟨0, 0⟩
set_option maxRecDepth 100000 in
set_option maxHeartbeats 1000000 in
theorem amount_ (A : Option Addr) (c : Nat) (st : List Sp) (A2 : Option Addr) (c2 : Nat) (wg : List Wg) (s : Int) (w : World) (hG : GL w) (hr : Kd.C kSp w A st.length st) (hc : st.length ≤ c) (hr2 : Kd.C kWg w A2 wg.length wg) (hc2 : wg.length ≤ c2) :
  Calls Tryd.prog 32 #[.agg #[.slice A st.length c, .slice A2 wg.length c2], .int .i64 s] w fun e w' => e = .returned (.tuple #[.agg #[.int .i64 (amS st wg s).lo, .int .i64 (amS st wg s).hi], .int .i64 (amE st wg s)]) ∧ Up w w' := by
 have hm := CF_len hr; have HR := Aside0.mk hr; have HR2 := Aside0.mk hr2; have HGL := Aside0.mk hG; clear hr hr2 hG; have HU0 : Aside0 (Up w ((w.alloc (.cells #[.slice A st.length c, .slice A2 wg.length c2] 25)).alloc (.cells #[.int .i64 0, .int .i64 0] 41))) := ⟨upA⟩; have HB4 : Aside0 (Bx ((w.alloc (.cells #[.slice A st.length c, .slice A2 wg.length c2] 25)).alloc (.cells #[.int .i64 0, .int .i64 0] 41)) (w.heap.size + 1) #[.int .i64 0, .int .i64 0] 41) := ⟨by have h9 := Bx.new (w.alloc (.cells #[.slice A st.length c, .slice A2 wg.length c2] 25)) #[.int .i64 0, .int .i64 0] 41; simpa using h9⟩; have hcall := open_ A c st A2 c2 wg _ (C_up HR.out HU0.out) hc (C_up HR2.out HU0.out) hc2
 have hbe : (roadE st wg != 0) = !decide (roadE st wg = 0) := by by_cases h : roadE st wg = 0 <;> simp [h]
 go_enter Tryd.func32, Tryd.ntmps32
 go_wp2_with fail
 generalize ((w.alloc (.cells #[.slice A st.length c, .slice A2 wg.length c2] 25)).alloc (.cells #[.int .i64 0, .int .i64 0] 41)) = W0 at *
 refine hcall.mono ?_; clear hcall; rintro e w1 ⟨rfl, hb⟩; have HU1 := Aside0.mk ((HU0.out.then hb).alloc (.cells #[.slice A st.length c, .slice A2 wg.length c2] 95)); have HB5 := Aside0.mk ((HB4.out.up hb).up ((Up.refl w1).alloc (.cells #[.slice A st.length c, .slice A2 wg.length c2] 95))); have HB6 : Aside0 (Bx (w1.alloc (.cells #[.slice A st.length c, .slice A2 wg.length c2] 95)) w1.heap.size #[.slice A st.length c, .slice A2 wg.length c2] 95) := ⟨Bx.new w1 _ _⟩
 have hne : w1.heap.size ≠ w.heap.size + 1 := by have := (HB4.out.up hb).lt; omega
 clear hb HB4
 by_cases he : roadE st wg = 0
 ·have hd : (roadE st wg != 0) = false := by simp [he]
  have HE := Aside0.mk he; clear he hbe; have hok := road_ok HE.out; have hwn : IntKind.i64.wrap ((st.length : Int) - 1) = (st.length : Int) - 1 := IntWalk.i64_in _ (by have := hok.2.2.1; omega); have HOK := Aside0.mk hok; clear hok; have hcw := withinL1 0 ((st.length : Int) - 1) s (w1.alloc (.cells #[.slice A st.length c, .slice A2 wg.length c2] 95)) (w1.heap.size + 1) (by simp); have hq6 := HB6.out.cell
  go_wp2_with fail
  refine hcw.mono ?_; clear hcw hq6; rintro e w2 ⟨rfl, hb⟩; have HU2 := Aside0.mk (HU1.out.then hb); have HB5' := Aside0.mk (HB5.out.up hb); have HB6' := Aside0.mk (HB6.out.up hb); clear hb HB5 HB6
  cases hi : inB 0 ((st.length : Int) - 1) [s]
  ·have HE2 : Aside0 (amE st wg s = 7) := ⟨by simp [amE, HE.out, hi]⟩
   have HS2 : Aside0 (amS st wg s = ⟨0, 0⟩) := ⟨by simp [amS, HE2.out]⟩; have hq5 := HB5'.out.cell; have hf5 := HB5'.out.frozen
   go_wp2_with fail
   have HB7 := Aside0.mk ((HB5'.out.set 0 (.int .i64 0)).set 1 (.int .i64 0)); have HU7 := Aside0.mk ((HU2.out.set ⟨w.heap.size + 1, 0, none⟩ (.int .i64 0) (by simp)).set ⟨w.heap.size + 1, 1, none⟩ (.int .i64 0) (by simp)); clear hq5 hf5; have hq5 := HB7.out.cell; refine bodyPost_ret (v := .tuple #[.agg #[.int .i64 0, .int .i64 0], .int .i64 7]) ?_ rfl ⟨by rw [HE2.out, HS2.out], HU7.out⟩
   simp [results, Tryd.results32, go_sem, hq5]
  ·have hi2 := (inB_iff _ _ _).1 hi
   simp only [List.mem_singleton, forall_eq] at hi2; obtain ⟨sn, rfl⟩ : ∃ n : Nat, s = (n : Int) := ⟨s.toNat, by omega⟩
   have hsn : sn < st.length := by omega
   have HI := Aside0.mk hi; have hct := theft_ A c st A2 c2 wg sn w2 (HGL.out.up HU2.out) (C_up HR.out HU2.out) hc (C_up HR2.out HU2.out) hc2 HOK.out.1 hsn; have hq6 := HB6'.out.cell; clear hi2 hi; go_wp2_with fail; refine hct.mono ?_; clear hct hq6; rintro e w3 ⟨v3, rfl, hown, hb⟩; obtain ⟨A3, c3, rfl, hc3, _⟩ := ownF_slice hown; have HU3 := Aside0.mk ((HU2.out.then hb).alloc (.cells #[.int .i64 (thR st wg sn).lo, .int .i64 (thR st wg sn).hi] 100)); have HB7 := Aside0.mk ((HB5'.out.up hb).up ((Up.refl w3).alloc (.cells #[.int .i64 (thR st wg sn).lo, .int .i64 (thR st wg sn).hi] 100))); have HB9 : Aside0 (Bx (w3.alloc (.cells #[.int .i64 (thR st wg sn).lo, .int .i64 (thR st wg sn).hi] 100)) w3.heap.size #[.int .i64 (thR st wg sn).lo, .int .i64 (thR st wg sn).hi] 100) := ⟨Bx.new w3 _ _⟩; clear hown hb HB5' HB6' HU2 hsn
   cases hth : thOk st wg sn
   ·have HE2 : Aside0 (amE st wg sn = 9) := ⟨by simp [amE, HE.out, HI.out, hth]⟩
    have HS2 : Aside0 (amS st wg sn = ⟨0, 0⟩) := ⟨by simp [amS, HE2.out]⟩; have hq5 := HB7.out.cell; have hf5 := HB7.out.frozen; clear hth; go_wp2_with fail; have HB8 := Aside0.mk ((HB7.out.set 0 (.int .i64 0)).set 1 (.int .i64 0)); have HU7 := Aside0.mk ((HU3.out.set ⟨w.heap.size + 1, 0, none⟩ (.int .i64 0) (by simp)).set ⟨w.heap.size + 1, 1, none⟩ (.int .i64 0) (by simp)); clear hq5 hf5; have hq5 := HB8.out.cell; refine bodyPost_ret (v := .tuple #[.agg #[.int .i64 0, .int .i64 0], .int .i64 9]) ?_ rfl ⟨by rw [HE2.out, HS2.out], HU7.out⟩
    simp [results, Tryd.results32, go_sem, hq5]
   ·have HE2 : Aside0 (amE st wg sn = 0) := ⟨by simp [amE, HE.out, HI.out, hth]⟩
    have HS2 : Aside0 (amS st wg sn = thR st wg sn) := ⟨by simp [amS, HE2.out, thR, hth]⟩; have hq9 := HB9.out.cell; have hcs := span_ (thR st wg sn) (w3.alloc (.cells #[.int .i64 (thR st wg sn).lo, .int .i64 (thR st wg sn).hi] 100)); clear hth; go_wp2_with fail; refine hcs.mono ?_; clear hcs hq9; rintro e w4 ⟨rfl, hb⟩; have HU4 := Aside0.mk (HU3.out.then hb); have HB8 := Aside0.mk (HB7.out.up hb); have hq5 := HB8.out.cell; have hf5 := HB8.out.frozen; clear hb; go_wp2_with fail; have HB10 := Aside0.mk ((HB8.out.set 0 (.int .i64 (thR st wg sn).lo)).set 1 (.int .i64 (thR st wg sn).hi)); have HU7 := Aside0.mk ((HU4.out.set ⟨w.heap.size + 1, 0, none⟩ (.int .i64 (thR st wg sn).lo) (by simp)).set ⟨w.heap.size + 1, 1, none⟩ (.int .i64 (thR st wg sn).hi) (by simp)); clear hq5 hf5; have hq5 := HB10.out.cell; refine bodyPost_ret (v := .tuple #[.agg #[.int .i64 (thR st wg sn).lo, .int .i64 (thR st wg sn).hi], .int .i64 0]) ?_ rfl ⟨by rw [HE2.out, HS2.out], HU7.out⟩
    simp [results, Tryd.results32, go_sem, hq5]
 ·have hd : (roadE st wg != 0) = true := by simp [he]
  have HE2 : Aside0 (amE st wg s = roadE st wg) := ⟨by simp [amE, he]⟩; have HS2 : Aside0 (amS st wg s = ⟨0, 0⟩) := ⟨by simp [amS, amE, he]⟩; have hq5 := HB5.out.cell; have hf5 := HB5.out.frozen; clear he hbe; go_wp2_with fail; have HB7 := Aside0.mk ((HB5.out.set 0 (.int .i64 0)).set 1 (.int .i64 0)); have HU7 := Aside0.mk ((HU1.out.set ⟨w.heap.size + 1, 0, none⟩ (.int .i64 0) (by simp)).set ⟨w.heap.size + 1, 1, none⟩ (.int .i64 0) (by simp)); clear hq5 hf5; have hq5 := HB7.out.cell; refine bodyPost_ret (v := .tuple #[.agg #[.int .i64 0, .int .i64 0], .int .i64 (roadE st wg)]) ?_ rfl ⟨by rw [HE2.out, HS2.out], HU7.out⟩
  simp [results, Tryd.results32, go_sem, hq5]
end Go.Proofs.YtemingmeidmjkaaDoor.Q
namespace Go.Proofs.YtemingmeidmjkaaDoor.Q
open Go.RowKit Go.Shelf Go.Proofs.YtemingmeidmjkaaDoorW.PrintWords Go.Proofs.YtemingmeidmjkaaDoorW.PrintLast
set_option linter.unusedVariables false
set_option linter.unusedSimpArgs false
def leN (st : List Sp) (x : Int) : Nat → Int
 | 0 => x
 | k + 1 => loS (rdS st k) (leN st x k)
theorem leN_bd {st : List Sp} {wg : List Wg} (h : RdOk st wg) {x : Int} (h0 : 0 ≤ x) : ∀ k : Nat, k ≤ st.length → 0 ≤ leN st x k ∧ leN st x k ≤ x
 | 0, _ => ⟨h0, Int.le_refl _⟩
 | k + 1, hk => by
  obtain ⟨h1, h2⟩ := leN_bd h h0 k (by omega); have h3 := h.at k (by omega) (by omega); have h4 := loS_nn h3 h1; have h5 := loS_hiS h3 h1; have h6 := hiS_le h3 h1; rw [leN]; omega
theorem fld0 (w : World) (a b : Int) : (Instr.field 100 (.agg #[.int .i64 a, .int .i64 b]) 0).run Tryd.prog w = .ok (.int .i64 a) w := by kernel_rfl
set_option maxRecDepth 100000 in
theorem need1_ (A : Option Addr) (c : Nat) (st : List Sp) (A2 : Option Addr) (c2 : Nat) (wg : List Wg) (x : Int) (b : Nat) (w : World) (hr : Kd.C kSp w A st.length st) (hc : st.length ≤ c) (hr2 : Kd.C kWg w A2 wg.length wg) (hc2 : wg.length ≤ c2) (hok : RdOk st wg) (hx : 0 ≤ x ∧ x ≤ 400) (hb : Bx w b #[.slice A st.length c, .slice A2 wg.length c2] 95) :
  Calls Tryd.prog 91 #[.int .i64 x, .pointer (some ⟨b, 0, none⟩)] w fun e w' => e = .returned (.int .i64 (leN st x st.length)) ∧ Up w w' := by
 have hm := CF_len hr; have hl1 := hok.len; have HR := Aside0.mk hr; have HR2 := Aside0.mk hr2; have HOK := Aside0.mk hok; have HB := Aside0.mk hb; have hq := hb.cell; clear hr hr2 hok hb; go_enter Tryd.func91, Tryd.ntmps91
 go_wp2_with fail
 clear hq; go_loopw [0, 9] (fun v0 i wr => ∃ k : Nat, k ≤ st.length ∧ i = .int .i64 (k : Int) ∧ v0 = .int .i64 (leN st x k) ∧ Aside0 (Up w wr)) (fun _ i _ => st.length - (intOf i).toNat)
 case atStart => exact ⟨0, Nat.zero_le _, rfl, rfl, ⟨Up.refl _⟩⟩
 case round =>
  obtain ⟨k, hk, rfl, rfl, hU⟩ := hrel
  by_cases hlt : k < st.length
  ·have hk1 : (k : Int) < (st.length : Int) := by omega
   have hwk : IntKind.i64.wrap ((k : Int) + 1) = (k : Int) + 1 := IntWalk.i64_in _ (by omega); have hbd := leN_bd HOK.out hx.1 k hk; have hcl := left_ A c st A2 c2 wg k (leN st x k) wr (C_up HR.out hU.out) hc (C_up HR2.out hU.out) hc2 (by omega) hk1 (HOK.out.at k (by omega) hk1) ⟨hbd.1, by omega⟩; have hq := (HB.out.up hU.out).cell; have hf0 := fld0; have HL : Aside0 (leN st x (k + 1) = loS (rdS st k) (leN st x k)) := ⟨rfl⟩
   go_wp2_with fail
   refine hcl.mono ?_; clear hcl hq; rintro e w2 ⟨rfl, hu⟩; have HU2 := Aside0.mk (hU.out.then hu); clear hu; go_wp2_with fail
   go_roundw
   case rel => exact ⟨k + 1, by omega, by go_num, by rw [HL.out], HU2⟩
   case measure => simp [intOf]; omega
  ·obtain rfl : k = st.length := by omega
   go_wp2_with fail
   go_ret
   exact ⟨rfl, hU.out⟩
set_option maxRecDepth 100000 in
theorem need2_ (A : Option Addr) (c : Nat) (st : List Sp) (A2 : Option Addr) (c2 : Nat) (wg : List Wg) (x want : Int) (b b8 b3 : Nat) (w : World) (hr : Kd.C kSp w A st.length st) (hc : st.length ≤ c) (hr2 : Kd.C kWg w A2 wg.length wg) (hc2 : wg.length ≤ c2) (hok : RdOk st wg) (hx : 0 ≤ x ∧ x ≤ 400) (hb : Bx w b #[.slice A st.length c, .slice A2 wg.length c2] 95)
  (h8 : Bx w b8 #[.func (.func 91) #[] #[.pointer (some ⟨b, 0, none⟩)]] 133) (h3 : Bx w b3 #[.int .i64 want] 3) :
  Calls Tryd.prog 93 #[.int .i64 x, .pointer (some ⟨b8, 0, none⟩), .pointer (some ⟨b3, 0, none⟩)] w fun e w' => e = .returned (.bool (decide (leN st x st.length ≥ want))) ∧ Up w w' := by
 have hcl := need1_ A c st A2 c2 wg x b w.drew hr hc hr2 hc2 hok hx hb; have hq8 := h8.cell; have hq3 := h3.cell; have H8 := Aside0.mk h8; have H3 := Aside0.mk h3; clear hr hr2 hok hb h8 h3; have hen := enters_of Tryd.func91 sqF rfl
 go_enter Tryd.func93, Tryd.ntmps93
 go_wp2_with fail
 -- EV n2
 refine start_ (n := 6) (S := fun W' => W'.cell? ⟨b8, 0, none⟩ = some (.func (.func 91) #[] #[.pointer (some ⟨b, 0, none⟩)]) ∧ W'.cell? ⟨b3, 0, none⟩ = some (.int .i64 want)) (ds := []) (bm 6 0) sqF rfl rfl ⟨hq8 0, hq3 0⟩ (fun hHeld => ?_); refine take_ (i := 0) (N := (some 5)) (v := ?_) (a' := ?_) (bm 6 1) rfl rfl sqF (fun _ _ _ h => h) (Or.inl ⟨by rfl, ?_⟩) hHeld ?_ ?_
 rotate_left
 ·rintro w' ⟨s0, s1⟩
  go_simp; with_reducible rfl
 rotate_left
 ·simp only [Act.put, sqA, i64_w, i32_w]; rfl
 refine pure_ (i := 1) (N := (some 6)) (v := ?_) (a' := ?_) (bm 6 3) rfl rfl sqF (fun _ _ _ h => h) (Or.inl ⟨by rfl, ?_⟩) ?_ ?_
 rotate_left
 ·intro w'
  go_simp; with_reducible rfl
 rotate_left
 ·simp only [Act.put, sqA, i64_w, i32_w]; rfl
 refine take_ (i := 3) (N := (some 8)) (v := ?_) (a' := ?_) (bm 6 11) rfl rfl sqF (fun _ _ _ h => h) (Or.inl ⟨by rfl, ?_⟩) hHeld ?_ ?_
 rotate_left
 ·rintro w' ⟨s0, s1⟩
  go_simp; with_reducible rfl
 rotate_left
 ·simp only [Act.put, sqA, i64_w, i32_w]; rfl
 refine one_ (i := 2) (N := (some 7)) (bm 6 15) rfl rfl sqF (by decide) (fun K hK => ?_); refine call_ 91 #[.int .i64 x, .pointer (some ⟨b, 0, none⟩)] (by rfl) rfl ?_ ?_
 ·go_simp
 refine (hcl).mono ?_; rintro e w1 ⟨rfl, hu⟩; have HV : Aside0 (Up w w1) := ⟨((Up.refl w).drew).then hu⟩; have hq8' := (H8.out.up HV.out).cell; have hq3' := (H3.out.up HV.out).cell; clear hu; refine ⟨_, rfl, ?_⟩; refine hK.out _ _ ⟨hq8' 0, hq3' 0⟩ (fun hHeld => ?_); clear hK K; refine norm_ (a' := ?_) ?_ ?_
 rotate_left
 ·show Act.put _ (some 7) _ = _
  simp only [Act.put, sqA, i64_w, i32_w]; rfl
 refine pure_ (i := 4) (N := (some 9)) (v := ?_) (a' := ?_) (bm 6 31) rfl rfl sqF (fun _ _ _ h => h) (Or.inl ⟨by rfl, ?_⟩) ?_ ?_
 rotate_left
 ·intro w'
  go_simp; with_reducible rfl
 rotate_left
 ·simp only [Act.put, sqA, i64_w, i32_w]; rfl
 refine pure_ (i := 5) (N := (some 4)) (v := ?_) (a' := ?_) (bm 6 63) rfl rfl sqF (fun _ _ _ h => h) (Or.inl ⟨by rfl, ?_⟩) ?_ ?_
 rotate_left
 ·intro w'
  go_simp; with_reducible rfl
 rotate_left
 ·simp only [Act.put, sqA, i64_w, i32_w]; rfl
 refine done_ sqF ?_
 -- END n2
 go_wp2_with fail
 go_ret
 exact ⟨rfl, HV.out⟩
end Go.Proofs.YtemingmeidmjkaaDoor.Q
namespace Go.Proofs.YtemingmeidmjkaaDoor.Q
open Go.RowKit Go.Shelf Go.Proofs.YtemingmeidmjkaaDoorW.PrintWords Go.Proofs.YtemingmeidmjkaaDoorW.PrintLast
set_option linter.unusedVariables false
set_option linter.unusedSimpArgs false
def bsS (f : Int → Bool) : Nat → Int → Int → Int
 | 0, i, _ => i
 | k + 1, i, j => if i < j then (if f ((i + j) / 2) then bsS f k i ((i + j) / 2) else bsS f k ((i + j) / 2 + 1) j) else i
set_option maxRecDepth 100000 in
theorem search_ (f : Int → Bool) (b8 b3 : Nat) (n : Int) (w : World) (hn : 0 ≤ n ∧ n ≤ 1000)
  (hf : ∀ (x : Int) (W : World), 0 ≤ x → x < n → Up w W → Calls Tryd.prog 93 #[.int .i64 x, .pointer (some ⟨b8, 0, none⟩), .pointer (some ⟨b3, 0, none⟩)] W fun e w' => e = .returned (.bool (f x)) ∧ Up W w') :
  Calls Tryd.prog 92 #[.int .i64 n, .func (.func 93) #[] #[.pointer (some ⟨b8, 0, none⟩), .pointer (some ⟨b3, 0, none⟩)]] w fun e w' => e = .returned (.int .i64 (bsS f 1001 0 n)) ∧ Up w w' := by
 have HF := Aside0.mk hf; clear hf; have hen := enters_of Tryd.func93 sqF rfl
 go_enter Tryd.func92, Tryd.ntmps92
 go_wp2_with fail
 go_loopw [5, 6] (fun v5 v6 wr => ∃ (i j : Int) (k : Nat), 0 ≤ i ∧ i ≤ j ∧ j ≤ n ∧ j - i < k ∧ v5 = .int .i64 i ∧ v6 = .int .i64 j ∧ Aside0 (bsS f 1001 0 n = bsS f k i j) ∧ Aside0 (Up w wr)) (fun v5 v6 _ => (intOf v6 - intOf v5).toNat)
 case atStart => exact ⟨0, n, 1001, by omega, by omega, by omega, by omega, rfl, rfl, ⟨rfl⟩, ⟨Up.refl _⟩⟩
 case round =>
  obtain ⟨i, j, k, hi, hij, hjn, hk, rfl, rfl, hB, hU⟩ := hrel; obtain ⟨k, rfl⟩ : ∃ m, k = m + 1 := ⟨k - 1, by omega⟩
  by_cases hlt : i < j
  ·have hw1 : IntKind.i64.wrap (i + j) = i + j := IntWalk.i64_in _ (by omega)
   have hh0 : 0 ≤ (i + j) / 2 := by omega
   have hh1 : (i + j) / 2 < j := by omega
   have hh2 : i ≤ (i + j) / 2 := by omega
   have hcl := HF.out ((i + j) / 2) wr hh0 (by omega) hU.out
   go_wp2_with fail
   refine hcl.mono ?_; clear hcl; rintro e w2 ⟨rfl, hu⟩; have HU2 := Aside0.mk (hU.out.then hu); clear hu
   cases hv : f ((i + j) / 2)
   ·have HS : Aside0 (bsS f 1001 0 n = bsS f k ((i + j) / 2 + 1) j) := ⟨by rw [hB.out, bsS, if_pos hlt, hv]; rfl⟩
    have hw2 : IntKind.i64.wrap ((i + j) / 2 + 1) = (i + j) / 2 + 1 := IntWalk.i64_in _ (by omega); clear hv; go_wp2_with fail
    go_roundw
    case rel => exact ⟨(i + j) / 2 + 1, j, k, by omega, by omega, by omega, by omega, rfl, rfl, HS, HU2⟩
    case measure => simp [intOf]; omega
   ·have HS : Aside0 (bsS f 1001 0 n = bsS f k i ((i + j) / 2)) := ⟨by rw [hB.out, bsS, if_pos hlt, hv]; rfl⟩
    clear hv; go_wp2_with fail
    go_roundw
    case rel => exact ⟨i, (i + j) / 2, k, by omega, by omega, by omega, by omega, rfl, rfl, HS, HU2⟩
    case measure => simp [intOf]; omega
  ·have hij2 : i = j := by omega
   subst hij2
   go_wp2_with fail
   go_ret
   exact ⟨by rw [hB.out, bsS, if_neg (by omega)]; rfl, hU.out⟩
theorem st_func {P : Program} {w : World} {a : Addr} {m : Mode} (fn : Fn) (first captured : Array Value) : (store a (.func fn first captured) m).run P w = stored P w a (.func fn first captured) m := run_store P w a _ m rfl
attribute [local go_sem] st_func
def ndV (st : List Sp) (want : Int) : Int := bsS (fun x => decide (leN st x st.length ≥ want)) 1001 0 401
def ndE (st : List Sp) (wg : List Wg) (want : Int) : Int := if roadE st wg = 0 then (if inB 0 400 [want] then (if ndV st want > 400 then 7 else 0) else 3) else roadE st wg
def ndR (st : List Sp) (wg : List Wg) (want : Int) : Int := if ndE st wg want = 0 then ndV st want else 0
set_option maxRecDepth 100000 in
set_option maxHeartbeats 1000000 in
theorem need_ (A : Option Addr) (c : Nat) (st : List Sp) (A2 : Option Addr) (c2 : Nat) (wg : List Wg) (want : Int) (w : World) (hr : Kd.C kSp w A st.length st) (hc : st.length ≤ c) (hr2 : Kd.C kWg w A2 wg.length wg) (hc2 : wg.length ≤ c2) :
  Calls Tryd.prog 43 #[.agg #[.slice A st.length c, .slice A2 wg.length c2], .int .i64 want] w fun e w' => e = .returned (.tuple #[.int .i64 (ndR st wg want), .int .i64 (ndE st wg want)]) ∧ Up w w' := by
 have HR := Aside0.mk hr; have HR2 := Aside0.mk hr2; clear hr hr2; have HU0 : Aside0 (Up w ((w.alloc (.cells #[.slice A st.length c, .slice A2 wg.length c2] 25)).alloc (.cells #[.int .i64 want] 3))) := ⟨upA⟩; have HB3 : Aside0 (Bx ((w.alloc (.cells #[.slice A st.length c, .slice A2 wg.length c2] 25)).alloc (.cells #[.int .i64 want] 3)) (w.heap.size + 1) #[.int .i64 want] 3) := ⟨by have h9 := Bx.new (w.alloc (.cells #[.slice A st.length c, .slice A2 wg.length c2] 25)) #[.int .i64 want] 3; simpa using h9⟩; have hcall := open_ A c st A2 c2 wg _ (C_up HR.out HU0.out) hc (C_up HR2.out HU0.out) hc2
 have hbe : (roadE st wg != 0) = !decide (roadE st wg = 0) := by by_cases h : roadE st wg = 0 <;> simp [h]
 go_enter Tryd.func43, Tryd.ntmps43
 go_wp2_with fail
 generalize ((w.alloc (.cells #[.slice A st.length c, .slice A2 wg.length c2] 25)).alloc (.cells #[.int .i64 want] 3)) = W0 at *
 refine hcall.mono ?_; clear hcall; rintro e w1 ⟨rfl, hb⟩; have HU1 := Aside0.mk ((HU0.out.then hb).alloc (.cells #[.slice A st.length c, .slice A2 wg.length c2] 95)); have HB4 := Aside0.mk ((HB3.out.up hb).up ((Up.refl w1).alloc (.cells #[.slice A st.length c, .slice A2 wg.length c2] 95))); have HB6 : Aside0 (Bx (w1.alloc (.cells #[.slice A st.length c, .slice A2 wg.length c2] 95)) w1.heap.size #[.slice A st.length c, .slice A2 wg.length c2] 95) := ⟨Bx.new w1 _ _⟩; clear hb HB3
 by_cases he : roadE st wg = 0
 ·have hd : (roadE st wg != 0) = false := by simp [he]
  have HE := Aside0.mk he; clear he hbe; have hcw := withinL1 0 400 want (w1.alloc (.cells #[.slice A st.length c, .slice A2 wg.length c2] 95)) (w1.heap.size + 1) (by simp); have hq3 := HB4.out.cell
  go_wp2_with fail
  refine hcw.mono ?_; clear hcw hq3; rintro e w2 ⟨rfl, hb⟩; have HU2 := Aside0.mk (HU1.out.then hb); have HB4' := Aside0.mk (HB4.out.up hb); have HB6' := Aside0.mk (HB6.out.up hb); clear hb HB4 HB6
  cases hi : inB 0 400 [want]
  ·have HE2 : Aside0 (ndE st wg want = 3) := ⟨by simp [ndE, HE.out, hi]⟩
   have HS2 : Aside0 (ndR st wg want = 0) := ⟨by simp [ndR, HE2.out]⟩; clear hi; go_wp2_with fail
   go_ret2
   exact ⟨by rw [HE2.out, HS2.out]; rfl, HU2.out⟩
  ·have HI := Aside0.mk hi
   obtain ⟨W3, hW3⟩ : ∃ W, W = w2.alloc (.cells #[.func (.func 91) #[] #[.pointer (some ⟨w1.heap.size, 0, none⟩)]] 133) := ⟨_, rfl⟩; have HU3 : Aside0 (Up w W3) := ⟨by rw [hW3]; exact HU2.out.alloc _⟩; have HB8 : Aside0 (Bx W3 w2.heap.size #[.func (.func 91) #[] #[.pointer (some ⟨w1.heap.size, 0, none⟩)]] 133) := ⟨by rw [hW3]; exact Bx.new w2 _ _⟩; have HB43 : Aside0 (Bx W3 (w.heap.size + 1) #[.int .i64 want] 3) := ⟨by rw [hW3]; exact HB4'.out.up ((Up.refl _).alloc _)⟩; have HB63 : Aside0 (Bx W3 w1.heap.size #[.slice A st.length c, .slice A2 wg.length c2] 95) := ⟨by rw [hW3]; exact HB6'.out.up ((Up.refl _).alloc _)⟩; have hcs := search_ (fun x => decide (leN st x st.length ≥ want)) w2.heap.size (w.heap.size + 1) 401 W3 (by omega) (fun x W h0 h1 hu => need2_ A c st A2 c2 wg x want w1.heap.size w2.heap.size (w.heap.size + 1) W (C_up HR.out (HU3.out.then hu)) hc (C_up HR2.out (HU3.out.then hu)) hc2 (road_ok HE.out).1 ⟨h0, by omega⟩ (HB63.out.up hu) (HB8.out.up hu) (HB43.out.up hu)); rw [hW3] at hcs; clear hi; go_wp2_with fail; refine hcs.mono ?_; clear hcs; rintro e w4 ⟨rfl, hb⟩; rw [← hW3] at hb; have HU4 := Aside0.mk (HU3.out.then hb); clear hb hW3; have HV : Aside0 (bsS (fun x => decide (leN st x st.length ≥ want)) 1001 0 401 = ndV st want) := ⟨rfl⟩; rw [HV.out]
   by_cases hg : ndV st want > 400
   ·have HE2 : Aside0 (ndE st wg want = 7) := ⟨by simp [ndE, HE.out, HI.out, hg]⟩
    have HS2 : Aside0 (ndR st wg want = 0) := ⟨by simp [ndR, HE2.out]⟩
    go_wp2_with fail
    go_ret2
    exact ⟨by rw [HE2.out, HS2.out]; rfl, HU4.out⟩
   ·have HE2 : Aside0 (ndE st wg want = 0) := ⟨by simp [ndE, HE.out, HI.out, hg]⟩
    have HS2 : Aside0 (ndR st wg want = ndV st want) := ⟨by simp [ndR, HE2.out]⟩
    go_wp2_with fail
    go_ret2
    exact ⟨by rw [HE2.out, HS2.out]; rfl, HU4.out⟩
 ·have hd : (roadE st wg != 0) = true := by simp [he]
  have HE2 : Aside0 (ndE st wg want = roadE st wg) := ⟨by simp [ndE, he]⟩; have HS2 : Aside0 (ndR st wg want = 0) := ⟨by simp [ndR, ndE, he]⟩; clear he hbe; go_wp2_with fail
  go_ret2
  exact ⟨by rw [HE2.out, HS2.out]; rfl, HU1.out⟩
end Go.Proofs.YtemingmeidmjkaaDoor.Q
namespace Go.Proofs.YtemingmeidmjkaaDoor.Q
open Go.RowKit Go.Proofs.YtemingmeidmjkaaDoorW.PrintWords Go.Proofs.YtemingmeidmjkaaDoorW.PrintLast Go.Proofs.YtemingmeidmjkaaDoorW.PrintMore
attribute [local go_sem] max2_int min2_int max_two min_two max_three min_three max_four min_four   -- for this text's walks alone
set_option linter.unusedVariables false
set_option linter.unusedSimpArgs false
def cmp_isNaN_int.f (a0 : Int) : Option (Bool) := some (a0 != a0)
set_option maxHeartbeats 8000000 in
set_option maxRecDepth 100000 in
theorem cmp_isNaN_int.calls (a0 : Int) (r : Bool) (w : World) (h : cmp_isNaN_int.f a0 = some r) :
  Calls Tryd.prog 112 #[.int .i64 a0] w fun e w' => e = .returned (.bool r) ∧ Drawn0 w w' := by
 have H : (some (a0 != a0)) = some r := h; clear h; obtain rfl := Option.some.inj H
 go_enter Tryd.func112, Tryd.ntmps112
 go_wp2
 go_ret
 exact ⟨by first | rfl | (simp; done) | (simp [*]; done), by repeat (first | exact Drawn0.refl _ | apply Drawn0.step)⟩
def cmp_Compare_int.f (a0 : Int) (a1 : Int) : Option (Int) := (cmp_isNaN_int.f a0).bind fun t145 => ((cmp_isNaN_int.f a1).bind fun t146 => (if t145 = true then (if t146 = true then (some 0) else (some (-1))) else (if t146 = true then (some 1) else (if a0 < a1 then (some (-1)) else (if a0 > a1 then (some 1) else (some 0))))))
set_option maxHeartbeats 8000000 in
set_option maxRecDepth 100000 in
theorem cmp_Compare_int.calls (a0 : Int) (a1 : Int) (r : Int) (w : World) (h : cmp_Compare_int.f a0 a1 = some r) :
  Calls Tryd.prog 106 #[.int .i64 a0, .int .i64 a1] w fun e w' => e = .returned (.int .i64 r) ∧ Drawn0 w w' := by
 have H : ((cmp_isNaN_int.f a0).bind fun t145 => ((cmp_isNaN_int.f a1).bind fun t146 => (if t145 = true then (if t146 = true then (some 0) else (some (-1))) else (if t146 = true then (some 1) else (if a0 < a1 then (some (-1)) else (if a0 > a1 then (some 1) else (some 0))))))) = some r := h; clear h; obtain ⟨t145, A30, H⟩ := Option.bind_eq_some_iff.mp H; have A3 := Aside0.mk A30; clear A30; obtain ⟨t146, A40, H⟩ := Option.bind_eq_some_iff.mp H; have A4 := Aside0.mk A40; clear A40
 by_cases c5 : t145 = true
 ·subst c5
  rw [if_pos rfl] at H
  by_cases c6 : t146 = true
  ·subst c6
   rw [if_pos rfl] at H; obtain rfl := Option.some.inj H
   go_enter Tryd.func106, Tryd.ntmps106
   go_wp2_with (first | ((with_reducible refine gate_callee (f := 112) rfl ?_); refine goesL_ (some 8) rfl rfl Tryd.func112 sqF rfl #[.int .i64 a0] rfl sqM ?_; (with_reducible refine (cmp_isNaN_int.calls a0 true _ A3.out).mono ?_); rintro e w' ⟨rfl, ⟨nd, rfl⟩⟩; refine ⟨_, rfl, ?_⟩) | ((with_reducible refine gate_callee (f := 112) rfl ?_); refine goesL_ (some 10) rfl rfl Tryd.func112 sqF rfl #[.int .i64 a1] rfl sqM ?_; (with_reducible refine (cmp_isNaN_int.calls a1 true _ A4.out).mono ?_); rintro e w' ⟨rfl, ⟨nd, rfl⟩⟩; refine ⟨_, rfl, ?_⟩))
   go_ret
   exact ⟨by first | rfl | (simp; done) | (simp [*]; done), by repeat (first | exact Drawn0.refl _ | apply Drawn0.step)⟩
  ·replace c6 := Bool.eq_false_iff.mpr c6
   subst c6; rw [if_neg Bool.false_ne_true] at H; obtain rfl := Option.some.inj H
   go_enter Tryd.func106, Tryd.ntmps106
   go_wp2_with (first | ((with_reducible refine gate_callee (f := 112) rfl ?_); refine goesL_ (some 8) rfl rfl Tryd.func112 sqF rfl #[.int .i64 a0] rfl sqM ?_; (with_reducible refine (cmp_isNaN_int.calls a0 true _ A3.out).mono ?_); rintro e w' ⟨rfl, ⟨nd, rfl⟩⟩; refine ⟨_, rfl, ?_⟩) | ((with_reducible refine gate_callee (f := 112) rfl ?_); refine goesL_ (some 10) rfl rfl Tryd.func112 sqF rfl #[.int .i64 a1] rfl sqM ?_; (with_reducible refine (cmp_isNaN_int.calls a1 false _ A4.out).mono ?_); rintro e w' ⟨rfl, ⟨nd, rfl⟩⟩; refine ⟨_, rfl, ?_⟩))
   go_ret
   exact ⟨by first | rfl | (simp; done) | (simp [*]; done), by repeat (first | exact Drawn0.refl _ | apply Drawn0.step)⟩
 ·replace c5 := Bool.eq_false_iff.mpr c5
  subst c5; rw [if_neg Bool.false_ne_true] at H
  by_cases c7 : t146 = true
  ·subst c7
   rw [if_pos rfl] at H; obtain rfl := Option.some.inj H
   go_enter Tryd.func106, Tryd.ntmps106
   go_wp2_with (first | ((with_reducible refine gate_callee (f := 112) rfl ?_); refine goesL_ (some 8) rfl rfl Tryd.func112 sqF rfl #[.int .i64 a0] rfl sqM ?_; (with_reducible refine (cmp_isNaN_int.calls a0 false _ A3.out).mono ?_); rintro e w' ⟨rfl, ⟨nd, rfl⟩⟩; refine ⟨_, rfl, ?_⟩) | ((with_reducible refine gate_callee (f := 112) rfl ?_); refine goesL_ (some 10) rfl rfl Tryd.func112 sqF rfl #[.int .i64 a1] rfl sqM ?_; (with_reducible refine (cmp_isNaN_int.calls a1 true _ A4.out).mono ?_); rintro e w' ⟨rfl, ⟨nd, rfl⟩⟩; refine ⟨_, rfl, ?_⟩))
   go_ret
   exact ⟨by first | rfl | (simp; done) | (simp [*]; done), by repeat (first | exact Drawn0.refl _ | apply Drawn0.step)⟩
  ·replace c7 := Bool.eq_false_iff.mpr c7
   subst c7; rw [if_neg Bool.false_ne_true] at H
   by_cases c8 : a0 < a1
   ·rw [if_pos c8] at H
    have c8b0 : decide (a0 < a1) = true := decide_eq_true c8; clear c8; obtain rfl := Option.some.inj H
    go_enter Tryd.func106, Tryd.ntmps106
    go_wp2_with (first | ((with_reducible refine gate_callee (f := 112) rfl ?_); refine goesL_ (some 8) rfl rfl Tryd.func112 sqF rfl #[.int .i64 a0] rfl sqM ?_; (with_reducible refine (cmp_isNaN_int.calls a0 false _ A3.out).mono ?_); rintro e w' ⟨rfl, ⟨nd, rfl⟩⟩; refine ⟨_, rfl, ?_⟩) | ((with_reducible refine gate_callee (f := 112) rfl ?_); refine goesL_ (some 10) rfl rfl Tryd.func112 sqF rfl #[.int .i64 a1] rfl sqM ?_; (with_reducible refine (cmp_isNaN_int.calls a1 false _ A4.out).mono ?_); rintro e w' ⟨rfl, ⟨nd, rfl⟩⟩; refine ⟨_, rfl, ?_⟩))
    go_ret
    exact ⟨by first | rfl | (simp; done) | (simp [*]; done), by repeat (first | exact Drawn0.refl _ | apply Drawn0.step)⟩
   ·rw [if_neg c8] at H
    have c8b0 : decide (a0 < a1) = false := decide_eq_false c8; clear c8
    by_cases c9 : a0 > a1
    ·rw [if_pos c9] at H
     have c9b0 : decide (a1 < a0) = true := decide_eq_true c9; clear c9; obtain rfl := Option.some.inj H
     go_enter Tryd.func106, Tryd.ntmps106
     go_wp2_with (first | ((with_reducible refine gate_callee (f := 112) rfl ?_); refine goesL_ (some 8) rfl rfl Tryd.func112 sqF rfl #[.int .i64 a0] rfl sqM ?_; (with_reducible refine (cmp_isNaN_int.calls a0 false _ A3.out).mono ?_); rintro e w' ⟨rfl, ⟨nd, rfl⟩⟩; refine ⟨_, rfl, ?_⟩) | ((with_reducible refine gate_callee (f := 112) rfl ?_); refine goesL_ (some 10) rfl rfl Tryd.func112 sqF rfl #[.int .i64 a1] rfl sqM ?_; (with_reducible refine (cmp_isNaN_int.calls a1 false _ A4.out).mono ?_); rintro e w' ⟨rfl, ⟨nd, rfl⟩⟩; refine ⟨_, rfl, ?_⟩))
     go_ret
     exact ⟨by first | rfl | (simp; done) | (simp [*]; done), by repeat (first | exact Drawn0.refl _ | apply Drawn0.step)⟩
    ·rw [if_neg c9] at H
     have c9b0 : decide (a1 < a0) = false := decide_eq_false c9; clear c9; obtain rfl := Option.some.inj H
     go_enter Tryd.func106, Tryd.ntmps106
     go_wp2_with (first | ((with_reducible refine gate_callee (f := 112) rfl ?_); refine goesL_ (some 8) rfl rfl Tryd.func112 sqF rfl #[.int .i64 a0] rfl sqM ?_; (with_reducible refine (cmp_isNaN_int.calls a0 false _ A3.out).mono ?_); rintro e w' ⟨rfl, ⟨nd, rfl⟩⟩; refine ⟨_, rfl, ?_⟩) | ((with_reducible refine gate_callee (f := 112) rfl ?_); refine goesL_ (some 10) rfl rfl Tryd.func112 sqF rfl #[.int .i64 a1] rfl sqM ?_; (with_reducible refine (cmp_isNaN_int.calls a1 false _ A4.out).mono ?_); rintro e w' ⟨rfl, ⟨nd, rfl⟩⟩; refine ⟨_, rfl, ?_⟩))
     go_ret
     exact ⟨by first | rfl | (simp; done) | (simp [*]; done), by repeat (first | exact Drawn0.refl _ | apply Drawn0.step)⟩
end Go.Proofs.YtemingmeidmjkaaDoor.Q
