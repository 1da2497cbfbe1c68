/- The walks of this program's functions. No condition. -/
import Derived.Test.YtemingmeidmjkaaDoorM2
import Derived.Test.YtemingmeidmjkaaDoorM0
set_option linter.unusedVariables false
set_option linter.unusedSimpArgs false
namespace Go.Proofs.YtemingmeidmjkaaDoor.Q
open Go.RowKit Go.Shelf Go.Proofs.YtemingmeidmjkaaDoorW.PrintWords Go.Proofs.YtemingmeidmjkaaDoorW.PrintLast
set_option linter.unusedVariables false
set_option linter.unusedSimpArgs false
attribute [local go_sem] Oper.semAt_some
attribute [local go_sem] bi_max2 bi_min2 bi_max_two bi_min_two
theorem fld1 (w : World) (a b : Int) : (Instr.field 100 (.agg #[.int .i64 a, .int .i64 b]) 1).run Tryd.prog w = .ok (.int .i64 b) w := by kernel_rfl
set_option maxRecDepth 100000 in
set_option maxHeartbeats 4000000 in
theorem theft_ (A : Option Addr) (c : Nat) (st : List Sp) (A2 : Option Addr) (c2 : Nat) (wg : List Wg) (s : Nat) (w : World) (hG : GL w) (hr : Kd.C kSp w A st.length st) (hc : st.length ≤ c) (hr2 : Kd.C kWg w A2 wg.length wg) (hc2 : wg.length ≤ c2) (hok : RdOk st wg) (hs : s < st.length) :
  Calls Tryd.prog 72 #[.agg #[.slice A st.length c, .slice A2 wg.length c2], .int .i64 (s : Int)] w fun e w' => ∃ v, e = .returned (.tuple #[v, .agg #[.int .i64 (thR st wg s).lo, .int .i64 (thR st wg s).hi], .bool (thOk st wg s)]) ∧ w'.ownsRow w.heap.size 100 2 v (thL st wg s).length (cellsS (thL st wg s)) ∧ Up w w' := by
 have hm := CF_len hr
 have hl1 := hok.len
 have HR := Aside0.mk hr
 have HR2 := Aside0.mk hr2
 have HOK := Aside0.mk hok
 have HGL := Aside0.mk hG
 have HS := Aside0.mk hs
 have hs1 : (s : Int) < (st.length : Int) := by omega
 have hs0 : (0 : Int) ≤ (s : Int) := by omega
 have hws : IntKind.i64.wrap ((s : Int) + 1) = (s : Int) + 1 := IntWalk.i64_in _ (by omega)
 have HU0 : Aside0 (Up w (((w.alloc (.cells #[.slice A st.length c, .slice A2 wg.length c2] 95)).alloc (.cells #[.int .i64 (s : Int)] 3)).alloc (.cells #[.int .i64 0, .int .i64 0] 100))) := ⟨upA⟩
 have HB2 : Aside0 (Bx (((w.alloc (.cells #[.slice A st.length c, .slice A2 wg.length c2] 95)).alloc (.cells #[.int .i64 (s : Int)] 3)).alloc (.cells #[.int .i64 0, .int .i64 0] 100)) w.heap.size #[.slice A st.length c, .slice A2 wg.length c2] 95) := ⟨(Bx.new w _ _).up upA⟩
 have HB3 : Aside0 (Bx (((w.alloc (.cells #[.slice A st.length c, .slice A2 wg.length c2] 95)).alloc (.cells #[.int .i64 (s : Int)] 3)).alloc (.cells #[.int .i64 0, .int .i64 0] 100)) (w.heap.size + 1) #[.int .i64 (s : Int)] 3) := ⟨by
  have h9 := (Bx.new (w.alloc (.cells #[.slice A st.length c, .slice A2 wg.length c2] 95)) #[.int .i64 (s : Int)] 3).up (w' := (((w.alloc (.cells #[.slice A st.length c, .slice A2 wg.length c2] 95)).alloc (.cells #[.int .i64 (s : Int)] 3)).alloc (.cells #[.int .i64 0, .int .i64 0] 100))) upA
  simpa using h9⟩
 have HB5 : Aside0 (Bx (((w.alloc (.cells #[.slice A st.length c, .slice A2 wg.length c2] 95)).alloc (.cells #[.int .i64 (s : Int)] 3)).alloc (.cells #[.int .i64 0, .int .i64 0] 100)) (w.heap.size + 2) #[.int .i64 0, .int .i64 0] 100) := ⟨by
  have h9 := Bx.new ((w.alloc (.cells #[.slice A st.length c, .slice A2 wg.length c2] 95)).alloc (.cells #[.int .i64 (s : Int)] 3)) #[.int .i64 0, .int .i64 0] 100
  simpa using h9⟩
 have hcl := come_ A c st A2 c2 wg _ (HGL.out.up HU0.out) (C_up HR.out HU0.out) hc (C_up HR2.out HU0.out) hc2 hok
 clear hr hr2 hok hG hs; refine (callsIn_wide (n := 7)).1 ?_
 refine callsIn_of_wp_marks Tryd.func72 rfl trivial ?_ rfl
 simp only [Tryd.ntmps72, List.size_toArray, List.length_cons, List.length_nil, Nat.reduceAdd, Nat.reduceSub, Array.replicate_succ, Array.replicate_zero, List.push_toArray, List.append_toArray, List.nil_append, List.cons_append]
 gi_wp2_with fail
 generalize hW0 : (((w.alloc (.cells #[.slice A st.length c, .slice A2 wg.length c2] 95)).alloc (.cells #[.int .i64 (s : Int)] 3)).alloc (.cells #[.int .i64 0, .int .i64 0] 100)) = W0 at *
 have hz0 : W0.heap.size = w.heap.size + 3 := by rw [← hW0]; simp
 refine ⟨trivial, (callsIn_wide.2 hcl).mono ?_⟩
 clear hcl hW0; rintro e W1 ⟨v1, rfl, hown, hu1⟩
 obtain ⟨g, cap, rfl, hgb, hcap, hsp⟩ := Spc.ofOwn hown (by rw [comeL_len]; omega)
 rw [hz0] at hgb
 have HI : Aside0 (ThI w g cap #[.slice A st.length c, .slice A2 wg.length c2] s ⟨0, 0⟩ (comeL st wg) W1) := ⟨⟨HU0.out.then hu1, HB2.out.up hu1, HB3.out.up hu1, HB5.out.up hu1, hsp, hgb⟩⟩
 have hlen : (comeL st wg).length = st.length + 1 := comeL_len st wg
 obtain ⟨N, hN⟩ : ∃ N, N = st.length + 1 := ⟨_, rfl⟩
 rw [hlen, ← hN]
 rw [hlen, ← hN] at hcap
 have HCAP := Aside0.mk hcap
 have HN := Aside0.mk hN
 clear hown hsp hgb HB2 HB3 HB5 hz0 hcap hlen; have hu1' := Aside0.mk (HU0.out.then hu1)
 clear HU0 hu1 W0; have hq2 := HI.out.b2.cell
 have hq3 := HI.out.b3.cell
 obtain ⟨hx0, hx1⟩ := HI.out.cell s (by rw [comeL_len]; omega)
 rw [comeL_rd st wg s (by omega)] at hx0 hx1
 have hxo := comeAt_ok HOK.out s (by omega)
 have HST := Aside0.mk (HOK.out.at s (by omega) (by omega))
 have hqb := (onS_bn HST.out hxo (comeAt_bn HOK.out s (by omega))).2
 generalize hx : comeAt st wg s = x at *
 have HON : Aside0 (∀ W, Up W1 W → Calls Tryd.prog 101 #[.agg #[.slice A st.length c, .slice A2 wg.length c2], .int .i64 (s : Int), .agg #[.int .i64 x.lo, .int .i64 x.hi]] W fun e w' => e = .returned (.agg #[.int .i64 (onS (rdS st s) x).lo, .int .i64 (onS (rdS st s) x).hi]) ∧ Up W w') := ⟨fun W hu => on_ A c st A2 c2 wg s x W (C_up HR.out (HI.out.up.then hu)) hc (C_up HR2.out (HI.out.up.then hu)) hc2 hs0 hs1 HST.out hxo⟩
 have HSE : Aside0 (∀ W (p : Int), Up w W → Calls Tryd.prog 68 #[.agg #[.slice A st.length c, .slice A2 wg.length c2], .int .i64 p] W fun e w' => e = .returned (.agg #[.int .i64 (seenS wg p).lo, .int .i64 (seenS wg p).hi]) ∧ Up W w') := ⟨fun W p hu => seen_ A c st A2 c2 wg p W (HGL.out.up hu) (C_up HR2.out hu) hc2 HOK.out.wgs⟩
 have HT1 : Aside0 (thM st wg s (s + 1) = (comeL st wg).set (s + 1) (andS ⟨0, (onS (rdS st s) x).hi - 1⟩ (seenS wg ((s + 1 : Nat) : Int)))) := ⟨by rw [thM_succ, thM_zero, thA_at, hx]⟩
 have hse : ((s + 1 : Nat) : Int) = (s : Int) + 1 := by omega
 rw [hse] at HT1
 obtain ⟨y, hy⟩ : ∃ y, y = onS (rdS st s) x := ⟨_, rfl⟩
 rw [← hy] at HON HT1 hqb
 have hwy : IntKind.i64.wrap (y.hi - 1) = y.hi - 1 := IntWalk.i64_in _ (by omega)
 have HS4 : Aside0 (∀ W' : World, Up W1 W' → W'.cell? ⟨w.heap.size, 0, none⟩ = some (.slice A st.length c) ∧ W'.cell? ⟨w.heap.size, 1, none⟩ = some (.slice A2 wg.length c2) ∧ W'.cell? ⟨w.heap.size + 1, 0, none⟩ = some (.int .i64 (s : Int)) ∧ W'.cell? ⟨g, s * 2, none⟩ = some (.int .i64 x.lo) ∧ W'.cell? ⟨g, s * 2 + 1, none⟩ = some (.int .i64 x.hi)) := ⟨fun W' hu => ⟨hu.cell (hq2 0), hu.cell (hq2 1), hu.cell (hq3 0), hu.cell hx0, hu.cell hx1⟩⟩
 have hsL : (s : Int) < (N : Int) := by omega
 have hsL1 : (s : Int) + 1 < (N : Int) := by omega
 clear hN; have hs2 : (0 : Int) ≤ (s : Int) + 1 := by omega
 have hst : ((s : Int) + 1).toNat = s + 1 := by omega
 have hfd1 := fld1
 clear hx hxo hy hqb
 gi_wp2_with fail
 -- EV R2
 refine wpIn_wide.2 ?_
 refine wp_region_noPanic ?_
 refine start_ (n := 20) (S := fun W' => W'.cell? ⟨w.heap.size, 0, none⟩ = some (.slice A st.length c) ∧ W'.cell? ⟨w.heap.size, 1, none⟩ = some (.slice A2 wg.length c2) ∧ W'.cell? ⟨w.heap.size + 1, 0, none⟩ = some (.int .i64 (s : Int)) ∧ W'.cell? ⟨g, s * 2, none⟩ = some (.int .i64 x.lo) ∧ W'.cell? ⟨g, s * 2 + 1, none⟩ = some (.int .i64 x.hi)) (ds := [19]) #[false, false, false, false, false, false, false, false, false, false, false, false, false, false, false, false, false, false, false, false] (by kernel_rfl) rfl rfl (HS4.out _ ((Up.refl W1).drew)) (fun hHeld => ?_)
 refine pure_ (i := 0) (N := (some 15)) (v := ?_) (a' := ?_) #[true, false, false, false, false, false, false, false, false, false, false, false, false, false, false, false, false, false, false, false] rfl rfl (by kernel_rfl) (fun _ _ _ h => h) (Or.inl ⟨by rfl, ?_⟩) ?_ ?_
 rotate_left
 ·intro w'
  go_simp
  with_reducible rfl
 rotate_left
 ·simp only [Act.put, List.setIfInBounds_toArray, List.set_cons_zero, List.set_cons_succ, i64_w, i32_w]; rfl
 refine pure_ (i := 5) (N := (some 20)) (v := ?_) (a' := ?_) #[true, false, false, false, false, true, false, false, false, false, false, false, false, false, false, false, false, false, false, false] rfl rfl (by kernel_rfl) (fun _ _ _ h => h) (Or.inl ⟨by rfl, ?_⟩) ?_ ?_
 rotate_left
 ·intro w'
  go_simp
  with_reducible rfl
 rotate_left
 ·simp only [Act.put, List.setIfInBounds_toArray, List.set_cons_zero, List.set_cons_succ, i64_w, i32_w]; rfl
 refine take_ (i := 1) (N := (some 16)) (v := ?_) (a' := ?_) #[true, true, false, false, false, true, false, false, false, false, false, false, false, false, false, false, false, false, false, false] rfl rfl (by kernel_rfl) (fun _ _ _ h => h) (Or.inl ⟨by rfl, ?_⟩) hHeld ?_ ?_
 rotate_left
 ·rintro w' ⟨s0, s1, s2, s3, s4⟩
  go_simp
  with_reducible rfl
 rotate_left
 ·simp only [Act.put, List.setIfInBounds_toArray, List.set_cons_zero, List.set_cons_succ, i64_w, i32_w]; rfl
 refine take_ (i := 4) (N := (some 19)) (v := ?_) (a' := ?_) #[true, true, false, false, true, true, false, false, false, false, false, false, false, false, false, false, false, false, false, false] rfl rfl (by kernel_rfl) (fun _ _ _ h => h) (Or.inl ⟨by rfl, ?_⟩) hHeld ?_ ?_
 rotate_left
 ·rintro w' ⟨s0, s1, s2, s3, s4⟩
  go_simp
  with_reducible rfl
 rotate_left
 ·simp only [Act.put, List.setIfInBounds_toArray, List.set_cons_zero, List.set_cons_succ, i64_w, i32_w]; rfl
 refine take_ (i := 6) (N := (some 21)) (v := ?_) (a' := ?_) #[true, true, false, false, true, true, true, false, false, false, false, false, false, false, false, false, false, false, false, false] rfl rfl (by kernel_rfl) (fun _ _ _ h => h) (Or.inl ⟨by rfl, ?_⟩) hHeld ?_ ?_
 rotate_left
 ·rintro w' ⟨s0, s1, s2, s3, s4⟩
  go_simp
  with_reducible rfl
 rotate_left
 ·simp only [Act.put, List.setIfInBounds_toArray, List.set_cons_zero, List.set_cons_succ, i64_w, i32_w]; rfl
 refine take_ (i := 14) (N := (some 29)) (v := ?_) (a' := ?_) #[true, true, false, false, true, true, true, false, false, false, false, false, false, false, true, false, false, false, false, false] rfl rfl (by kernel_rfl) (fun _ _ _ h => h) (Or.inl ⟨by rfl, ?_⟩) hHeld ?_ ?_
 rotate_left
 ·rintro w' ⟨s0, s1, s2, s3, s4⟩
  go_simp
  with_reducible rfl
 rotate_left
 ·simp only [Act.put, List.setIfInBounds_toArray, List.set_cons_zero, List.set_cons_succ, i64_w, i32_w]; rfl
 refine take_ (i := 3) (N := (some 18)) (v := ?_) (a' := ?_) #[true, true, false, true, true, true, true, false, false, false, false, false, false, false, true, false, false, false, false, false] rfl rfl (by kernel_rfl) (fun _ _ _ h => h) (Or.inl ⟨by rfl, ?_⟩) hHeld ?_ ?_
 rotate_left
 ·rintro w' ⟨s0, s1, s2, s3, s4⟩
  go_simp
  with_reducible rfl
 rotate_left
 ·simp only [Act.put, List.setIfInBounds_toArray, List.set_cons_zero, List.set_cons_succ, i64_w, i32_w]; rfl
 refine take_ (i := 13) (N := (some 28)) (v := ?_) (a' := ?_) #[true, true, false, true, true, true, true, false, false, false, false, false, false, true, true, false, false, false, false, false] rfl rfl (by kernel_rfl) (fun _ _ _ h => h) (Or.inl ⟨by rfl, ?_⟩) hHeld ?_ ?_
 rotate_left
 ·rintro w' ⟨s0, s1, s2, s3, s4⟩
  go_simp
  with_reducible rfl
 rotate_left
 ·simp only [Act.put, List.setIfInBounds_toArray, List.set_cons_zero, List.set_cons_succ, i64_w, i32_w]; rfl
 refine pure_ (i := 2) (N := (some 17)) (v := ?_) (a' := ?_) #[true, true, true, true, true, true, true, false, false, false, false, false, false, true, true, false, false, false, false, false] rfl rfl (by kernel_rfl) (fun _ _ _ h => h) (Or.inl ⟨by rfl, ?_⟩) ?_ ?_
 rotate_left
 ·intro w'
  go_simp
  with_reducible rfl
 rotate_left
 ·simp only [Act.put, List.setIfInBounds_toArray, List.set_cons_zero, List.set_cons_succ, i64_w, i32_w]; rfl
 refine pure_ (i := 15) (N := (some 30)) (v := ?_) (a' := ?_) #[true, true, true, true, true, true, true, false, false, false, false, false, false, true, true, true, false, false, false, false] rfl rfl (by kernel_rfl) (fun _ _ _ h => h) (Or.inl ⟨by rfl, ?_⟩) ?_ ?_
 rotate_left
 ·intro w'
  go_simp
  with_reducible rfl
 rotate_left
 ·simp only [Act.put, List.setIfInBounds_toArray, List.set_cons_zero, List.set_cons_succ, i64_w, i32_w]; rfl
 refine take_ (i := 7) (N := (some 22)) (v := ?_) (a' := ?_) #[true, true, true, true, true, true, true, true, false, false, false, false, false, true, true, true, false, false, false, false] rfl rfl (by kernel_rfl) (fun _ _ _ h => h) (Or.inl ⟨by rfl, ?_⟩) hHeld ?_ ?_
 rotate_left
 ·rintro w' ⟨s0, s1, s2, s3, s4⟩
  go_simp
  with_reducible rfl
 rotate_left
 ·simp only [Act.put, List.setIfInBounds_toArray, List.set_cons_zero, List.set_cons_succ, i64_w, i32_w]; rfl
 refine take_ (i := 8) (N := (some 23)) (v := ?_) (a' := ?_) #[true, true, true, true, true, true, true, true, true, false, false, false, false, true, true, true, false, false, false, false] rfl rfl (by kernel_rfl) (fun _ _ _ h => h) (Or.inl ⟨by rfl, ?_⟩) hHeld ?_ ?_
 rotate_left
 ·rintro w' ⟨s0, s1, s2, s3, s4⟩
  go_simp
  with_reducible rfl
 rotate_left
 ·simp only [Act.put, List.setIfInBounds_toArray, List.set_cons_zero, List.set_cons_succ, i64_w, i32_w]; rfl
 refine one_ (i := 9) (N := (some 24)) #[true, true, true, true, true, true, true, true, true, true, false, false, false, true, true, true, false, false, false, false] rfl rfl (by kernel_rfl) (by decide) (fun K hK => ?_)
 refine goes_ Tryd.func101 (by kernel_rfl) rfl #[.agg #[.slice A st.length c, .slice A2 wg.length c2], .int .i64 (s : Int), .agg #[.int .i64 x.lo, .int .i64 x.hi]] (by rfl) rfl rfl (by (try simp only [List.map_toArray, List.map_cons, List.map_nil]); first | done | rfl) ?_
 refine (HON.out _ ((Up.refl W1).drew)).mono ?_
 rintro e w3 ⟨rfl, hb⟩
 have HV3 : Aside0 (Up W1 w3) := ⟨((Up.refl W1).drew).then hb⟩
 clear hb; refine ⟨_, rfl, ?_⟩
 refine hK.out _ _ (HS4.out _ HV3.out) (fun hHeld => ?_)
 clear hK K; refine norm_ (a' := ?_) ?_ ?_
 rotate_left
 ·show Act.put _ (some 24) _ = _
  simp only [Act.put, List.setIfInBounds_toArray, List.set_cons_zero, List.set_cons_succ, i64_w, i32_w]
  rfl
 refine pure_ (i := 10) (N := (some 25)) (v := ?_) (a' := ?_) #[true, true, true, true, true, true, true, true, true, true, true, false, false, true, true, true, false, false, false, false] rfl rfl (by kernel_rfl) (fun _ _ _ h => h) (Or.inl ⟨by rfl, ?_⟩) ?_ ?_
 rotate_left
 ·intro w'
  go_simp
  with_reducible rfl
 rotate_left
 ·simp only [Act.put, List.setIfInBounds_toArray, List.set_cons_zero, List.set_cons_succ, i64_w, i32_w]; rfl
 refine pure_ (i := 11) (N := (some 26)) (v := ?_) (a' := ?_) #[true, true, true, true, true, true, true, true, true, true, true, true, false, true, true, true, false, false, false, false] rfl rfl (by kernel_rfl) (fun _ _ _ h => h) (Or.inl ⟨by rfl, ?_⟩) ?_ ?_
 rotate_left
 ·intro w'
  go_simp
  with_reducible rfl
 rotate_left
 ·simp only [Act.put, List.setIfInBounds_toArray, List.set_cons_zero, List.set_cons_succ, i64_w, i32_w]; rfl
 refine pure_ (i := 12) (N := (some 27)) (v := ?_) (a' := ?_) #[true, true, true, true, true, true, true, true, true, true, true, true, true, true, true, true, false, false, false, false] rfl rfl (by kernel_rfl) (fun _ _ _ h => h) (Or.inl ⟨by rfl, ?_⟩) ?_ ?_
 rotate_left
 ·intro w'
  go_simp
  with_reducible rfl
 rotate_left
 ·simp only [Act.put, List.setIfInBounds_toArray, List.set_cons_zero, List.set_cons_succ, i64_w, i32_w]; rfl
 refine one_ (i := 16) (N := (some 31)) #[true, true, true, true, true, true, true, true, true, true, true, true, true, true, true, true, true, false, false, false] rfl rfl (by kernel_rfl) (by decide) (fun K hK => ?_)
 refine goes_ Tryd.func68 (by kernel_rfl) rfl #[.agg #[.slice A st.length c, .slice A2 wg.length c2], .int .i64 ((s : Int) + 1)] (by rfl) rfl rfl (by (try simp only [List.map_toArray, List.map_cons, List.map_nil]); first | done | rfl) ?_
 refine (HSE.out _ _ (HI.out.up.then HV3.out)).mono ?_
 rintro e w4 ⟨rfl, hb⟩
 have HV4 : Aside0 (Up W1 w4) := ⟨(HV3.out).then hb⟩
 clear hb; refine ⟨_, rfl, ?_⟩
 refine hK.out _ _ (HS4.out _ HV4.out) (fun hHeld => ?_)
 clear hK K; refine norm_ (a' := ?_) ?_ ?_
 rotate_left
 ·show Act.put _ (some 31) _ = _
  simp only [Act.put, List.setIfInBounds_toArray, List.set_cons_zero, List.set_cons_succ, i64_w, i32_w]
  rfl
 refine one_ (i := 17) (N := (some 32)) #[true, true, true, true, true, true, true, true, true, true, true, true, true, true, true, true, true, true, false, false] rfl rfl (by kernel_rfl) (by decide) (fun K hK => ?_)
 refine goes_ Tryd.func63 (by kernel_rfl) rfl #[.agg #[.int .i64 0, .int .i64 (y.hi - 1)], .agg #[.int .i64 (seenS wg ((s : Int) + 1)).lo, .int .i64 (seenS wg ((s : Int) + 1)).hi]] (by rfl) rfl rfl (by (try simp only [List.map_toArray, List.map_cons, List.map_nil]); first | done | rfl) ?_
 refine (and_ ⟨0, y.hi - 1⟩ (seenS wg ((s : Int) + 1)) _).mono ?_
 rintro e w5 ⟨rfl, hb⟩
 have HV5 : Aside0 (Up W1 w5) := ⟨(HV4.out).then hb⟩
 clear hb; refine ⟨_, rfl, ?_⟩
 refine hK.out _ _ (HS4.out _ HV5.out) (fun hHeld => ?_)
 clear hK K; refine norm_ (a' := ?_) ?_ ?_
 rotate_left
 ·show Act.put _ (some 32) _ = _
  simp only [Act.put, List.setIfInBounds_toArray, List.set_cons_zero, List.set_cons_succ, i64_w, i32_w]
  rfl
 refine one_ (i := 18) (N := (some 33)) #[true, true, true, true, true, true, true, true, true, true, true, true, true, true, true, true, true, true, true, false] rfl rfl (by kernel_rfl) (by decide) (fun K hK => ?_)
 refine value_ (v := ?_) (w1 := w5) (by rfl) rfl ?_ ?_
 rotate_left
 ·go_simp
  rfl
 refine hK.out _ _ hHeld (fun hHeld => ?_)
 clear hK K; refine norm_ (a' := ?_) ?_ ?_
 rotate_left
 ·show Act.put _ (some 33) _ = _
  simp only [Act.put, List.setIfInBounds_toArray, List.set_cons_zero, List.set_cons_succ, i64_w, i32_w]
  rfl
 refine last_ (i := 19) (N := none) #[true, true, true, true, true, true, true, true, true, true, true, true, true, true, true, true, true, true, true, true] rfl rfl (by kernel_rfl) (by decide) (fun K hK => ?_)
 have hyz := HI.out.then HV5.out
 obtain ⟨hz0, hz1⟩ := hyz.cell (s + 1) (by rw [comeL_len]; omega)
 have hfz := hyz.frozen
 refine skip_ (w1 := ?_) (by rfl) rfl ?_ ?_
 rotate_left
 ·go_simp
  rfl
 refine hK.out _ _ ?_
 clear hK K; have HI2 := Aside0.mk ((HI.out.then HV5.out).put (s + 1) (by rw [comeL_len]; omega) (andS ⟨0, y.hi - 1⟩ (seenS wg ((s : Int) + 1))))
 rw [← HT1.out] at HI2
 clear hyz hfz hz0 hz1; refine done_ (by kernel_rfl) ?_
 refine NoPanic.normal ?_
 -- END R2
 generalize ((w5.setCell ⟨g, (s + 1) * 2, none⟩ (.int .i64 (andS ⟨0, y.hi - 1⟩ (seenS wg ((s : Int) + 1))).lo)).setCell ⟨g, (s + 1) * 2 + 1, none⟩ (.int .i64 (andS ⟨0, y.hi - 1⟩ (seenS wg ((s : Int) + 1))).hi)) = W2 at *
 clear HV3 HV4 HV5 HS4 HON HT1 hwy HI hx0 hx1 hq2 hq3 hu1'; have hq3 := HI2.out.b3.cell
 gi_wp2_with fail
 have HI2' := HI2
 clear hq3
 gi_loopw [7] (fun v7 W => ∃ i : Nat, s + 1 ≤ i ∧ i ≤ st.length ∧ v7 = .int .i64 (i : Int) ∧ Aside0 (ThI w g cap #[.slice A st.length c, .slice A2 wg.length c2] s ⟨0, 0⟩ (thM st wg s i) W)) (fun v7 _ => st.length - (intOf v7).toNat)
 case atStart => exact ⟨s + 1, Nat.le_refl _, by have := HS.out; omega, by congr 1, HI2'⟩
 case round =>
  clear HI2 HI2'; obtain ⟨i, hi1, hi2, rfl, HI⟩ := hrel
  have hq2 := HI.out.b2.cell
  by_cases hlt : i < st.length
  ·have hi3 : (i : Int) < (st.length : Int) := by omega
   have hi0 : (0 : Int) ≤ (i : Int) := by omega
   have hwi : IntKind.i64.wrap ((i : Int) + 1) = (i : Int) + 1 := IntWalk.i64_in _ (by omega)
   have hq3 := HI.out.b3.cell
   obtain ⟨hx0, hx1⟩ := HI.out.cell i (by rw [thM_len]; omega)
   rw [thM_rd st wg s i i (by omega), if_pos (Nat.le_refl _)] at hx0 hx1
   have hxo := thA_ok HOK.out s HS.out i (by omega)
   have hti := HOK.out.at i (by omega) (by omega)
   have HT1 : Aside0 (thM st wg s (i + 1) = (thM st wg s i).set (i + 1) (andS (onS (rdS st i) (thA st wg s i)) (seenS wg ((i + 1 : Nat) : Int)))) := ⟨by rw [thM_succ, thA_gt _ _ _ _ (by omega)]⟩
   have hse : ((i + 1 : Nat) : Int) = (i : Int) + 1 := by omega
   rw [hse] at HT1
   generalize thA st wg s i = x at *
   have HON : Aside0 (∀ W, Up wr W → Calls Tryd.prog 101 #[.agg #[.slice A st.length c, .slice A2 wg.length c2], .int .i64 (i : Int), .agg #[.int .i64 x.lo, .int .i64 x.hi]] W fun e w' => e = .returned (.agg #[.int .i64 (onS (rdS st i) x).lo, .int .i64 (onS (rdS st i) x).hi]) ∧ Up W w') := ⟨fun W hu => on_ A c st A2 c2 wg i x W (C_up HR.out (HI.out.up.then hu)) hc (C_up HR2.out (HI.out.up.then hu)) hc2 hi0 hi3 hti hxo⟩
   have HS4 : Aside0 (∀ W' : World, Up wr W' → W'.cell? ⟨w.heap.size, 0, none⟩ = some (.slice A st.length c) ∧ W'.cell? ⟨w.heap.size, 1, none⟩ = some (.slice A2 wg.length c2) ∧ W'.cell? ⟨w.heap.size + 1, 0, none⟩ = some (.int .i64 (s : Int)) ∧ W'.cell? ⟨g, i * 2, none⟩ = some (.int .i64 x.lo) ∧ W'.cell? ⟨g, i * 2 + 1, none⟩ = some (.int .i64 x.hi)) := ⟨fun W' hu => ⟨hu.cell (hq2 0), hu.cell (hq2 1), hu.cell (hq3 0), hu.cell hx0, hu.cell hx1⟩⟩
   have hsL : (i : Int) < (N : Int) := by have := HN.out; omega
   have hsL1 : (i : Int) + 1 < (N : Int) := by have := HN.out; omega
   have hs2 : (0 : Int) ≤ (i : Int) + 1 := by omega
   have hst : ((i : Int) + 1).toNat = i + 1 := by omega
   clear hxo hti; obtain ⟨y, hy⟩ : ∃ y, y = onS (rdS st i) x := ⟨_, rfl⟩
   rw [← hy] at HON HT1
   clear hy
   gi_wp2_with fail
   -- EV R6
   refine wpIn_wide.2 ?_
   refine wp_region_noPanic ?_
   refine start_ (n := 17) (S := fun W' => W'.cell? ⟨w.heap.size, 0, none⟩ = some (.slice A st.length c) ∧ W'.cell? ⟨w.heap.size, 1, none⟩ = some (.slice A2 wg.length c2) ∧ W'.cell? ⟨w.heap.size + 1, 0, none⟩ = some (.int .i64 (s : Int)) ∧ W'.cell? ⟨g, i * 2, none⟩ = some (.int .i64 x.lo) ∧ W'.cell? ⟨g, i * 2 + 1, none⟩ = some (.int .i64 x.hi)) (ds := [16]) #[false, false, false, false, false, false, false, false, false, false, false, false, false, false, false, false, false] (by kernel_rfl) rfl rfl (HS4.out _ ((Up.refl wr).drew)) (fun hHeld => ?_)
   refine pure_ (i := 0) (N := (some 44)) (v := ?_) (a' := ?_) #[true, false, false, false, false, false, false, false, false, false, false, false, false, false, false, false, false] rfl rfl (by kernel_rfl) (fun _ _ _ h => h) (Or.inl ⟨by rfl, ?_⟩) ?_ ?_
   rotate_left
   ·intro w'
    go_simp
    with_reducible rfl
   rotate_left
   ·simp only [Act.put, List.setIfInBounds_toArray, List.set_cons_zero, List.set_cons_succ, i64_w, i32_w]; rfl
   refine pure_ (i := 1) (N := (some 45)) (v := ?_) (a' := ?_) #[true, true, false, false, false, false, false, false, false, false, false, false, false, false, false, false, false] rfl rfl (by kernel_rfl) (fun _ _ _ h => h) (Or.inl ⟨by rfl, ?_⟩) ?_ ?_
   rotate_left
   ·intro w'
    go_simp
    with_reducible rfl
   rotate_left
   ·simp only [Act.put, List.setIfInBounds_toArray, List.set_cons_zero, List.set_cons_succ, i64_w, i32_w]; rfl
   refine pure_ (i := 2) (N := (some 46)) (v := ?_) (a' := ?_) #[true, true, true, false, false, false, false, false, false, false, false, false, false, false, false, false, false] rfl rfl (by kernel_rfl) (fun _ _ _ h => h) (Or.inl ⟨by rfl, ?_⟩) ?_ ?_
   rotate_left
   ·intro w'
    go_simp
    with_reducible rfl
   rotate_left
   ·simp only [Act.put, List.setIfInBounds_toArray, List.set_cons_zero, List.set_cons_succ, i64_w, i32_w]; rfl
   refine take_ (i := 3) (N := (some 47)) (v := ?_) (a' := ?_) #[true, true, true, true, false, false, false, false, false, false, false, false, false, false, false, false, false] rfl rfl (by kernel_rfl) (fun _ _ _ h => h) (Or.inl ⟨by rfl, ?_⟩) hHeld ?_ ?_
   rotate_left
   ·rintro w' ⟨s0, s1, s2, s3, s4⟩
    go_simp
    with_reducible rfl
   rotate_left
   ·simp only [Act.put, List.setIfInBounds_toArray, List.set_cons_zero, List.set_cons_succ, i64_w, i32_w]; rfl
   refine pure_ (i := 4) (N := (some 48)) (v := ?_) (a' := ?_) #[true, true, true, true, true, false, false, false, false, false, false, false, false, false, false, false, false] rfl rfl (by kernel_rfl) (fun _ _ _ h => h) (Or.inl ⟨by rfl, ?_⟩) ?_ ?_
   rotate_left
   ·intro w'
    go_simp
    with_reducible rfl
   rotate_left
   ·simp only [Act.put, List.setIfInBounds_toArray, List.set_cons_zero, List.set_cons_succ, i64_w, i32_w]; rfl
   refine pure_ (i := 5) (N := (some 49)) (v := ?_) (a' := ?_) #[true, true, true, true, true, true, false, false, false, false, false, false, false, false, false, false, false] rfl rfl (by kernel_rfl) (fun _ _ _ h => h) (Or.inl ⟨by rfl, ?_⟩) ?_ ?_
   rotate_left
   ·intro w'
    go_simp
    with_reducible rfl
   rotate_left
   ·simp only [Act.put, List.setIfInBounds_toArray, List.set_cons_zero, List.set_cons_succ, i64_w, i32_w]; rfl
   refine pure_ (i := 6) (N := (some 50)) (v := ?_) (a' := ?_) #[true, true, true, true, true, true, true, false, false, false, false, false, false, false, false, false, false] rfl rfl (by kernel_rfl) (fun _ _ _ h => h) (Or.inl ⟨by rfl, ?_⟩) ?_ ?_
   rotate_left
   ·intro w'
    go_simp
    with_reducible rfl
   rotate_left
   ·simp only [Act.put, List.setIfInBounds_toArray, List.set_cons_zero, List.set_cons_succ, i64_w, i32_w]; rfl
   refine take_ (i := 7) (N := (some 51)) (v := ?_) (a' := ?_) #[true, true, true, true, true, true, true, true, false, false, false, false, false, false, false, false, false] rfl rfl (by kernel_rfl) (fun _ _ _ h => h) (Or.inl ⟨by rfl, ?_⟩) hHeld ?_ ?_
   rotate_left
   ·rintro w' ⟨s0, s1, s2, s3, s4⟩
    go_simp
    with_reducible rfl
   rotate_left
   ·simp only [Act.put, List.setIfInBounds_toArray, List.set_cons_zero, List.set_cons_succ, i64_w, i32_w]; rfl
   refine take_ (i := 8) (N := (some 52)) (v := ?_) (a' := ?_) #[true, true, true, true, true, true, true, true, true, false, false, false, false, false, false, false, false] rfl rfl (by kernel_rfl) (fun _ _ _ h => h) (Or.inl ⟨by rfl, ?_⟩) hHeld ?_ ?_
   rotate_left
   ·rintro w' ⟨s0, s1, s2, s3, s4⟩
    go_simp
    with_reducible rfl
   rotate_left
   ·simp only [Act.put, List.setIfInBounds_toArray, List.set_cons_zero, List.set_cons_succ, i64_w, i32_w]; rfl
   refine take_ (i := 10) (N := (some 54)) (v := ?_) (a' := ?_) #[true, true, true, true, true, true, true, true, true, false, true, false, false, false, false, false, false] rfl rfl (by kernel_rfl) (fun _ _ _ h => h) (Or.inl ⟨by rfl, ?_⟩) hHeld ?_ ?_
   rotate_left
   ·rintro w' ⟨s0, s1, s2, s3, s4⟩
    go_simp
    with_reducible rfl
   rotate_left
   ·simp only [Act.put, List.setIfInBounds_toArray, List.set_cons_zero, List.set_cons_succ, i64_w, i32_w]; rfl
   refine pure_ (i := 11) (N := (some 55)) (v := ?_) (a' := ?_) #[true, true, true, true, true, true, true, true, true, false, true, true, false, false, false, false, false] rfl rfl (by kernel_rfl) (fun _ _ _ h => h) (Or.inl ⟨by rfl, ?_⟩) ?_ ?_
   rotate_left
   ·intro w'
    go_simp
    with_reducible rfl
   rotate_left
   ·simp only [Act.put, List.setIfInBounds_toArray, List.set_cons_zero, List.set_cons_succ, i64_w, i32_w]; rfl
   refine pure_ (i := 12) (N := (some 56)) (v := ?_) (a' := ?_) #[true, true, true, true, true, true, true, true, true, false, true, true, true, false, false, false, false] rfl rfl (by kernel_rfl) (fun _ _ _ h => h) (Or.inl ⟨by rfl, ?_⟩) ?_ ?_
   rotate_left
   ·intro w'
    go_simp
    with_reducible rfl
   rotate_left
   ·simp only [Act.put, List.setIfInBounds_toArray, List.set_cons_zero, List.set_cons_succ, i64_w, i32_w]; rfl
   refine one_ (i := 9) (N := (some 53)) #[true, true, true, true, true, true, true, true, true, true, true, true, true, false, false, false, false] rfl rfl (by kernel_rfl) (by decide) (fun K hK => ?_)
   refine goes_ Tryd.func101 (by kernel_rfl) rfl #[.agg #[.slice A st.length c, .slice A2 wg.length c2], .int .i64 (i : Int), .agg #[.int .i64 x.lo, .int .i64 x.hi]] (by rfl) rfl rfl (by (try simp only [List.map_toArray, List.map_cons, List.map_nil]); first | done | rfl) ?_
   refine (HON.out _ ((Up.refl wr).drew)).mono ?_
   rintro e w3 ⟨rfl, hb⟩
   have HV3 : Aside0 (Up wr w3) := ⟨((Up.refl wr).drew).then hb⟩
   clear hb; refine ⟨_, rfl, ?_⟩
   refine hK.out _ _ (HS4.out _ HV3.out) (fun hHeld => ?_)
   clear hK K; refine norm_ (a' := ?_) ?_ ?_
   rotate_left
   ·show Act.put _ (some 53) _ = _
    simp only [Act.put, List.setIfInBounds_toArray, List.set_cons_zero, List.set_cons_succ, i64_w, i32_w]
    rfl
   refine one_ (i := 13) (N := (some 57)) #[true, true, true, true, true, true, true, true, true, true, true, true, true, true, false, false, false] rfl rfl (by kernel_rfl) (by decide) (fun K hK => ?_)
   refine goes_ Tryd.func68 (by kernel_rfl) rfl #[.agg #[.slice A st.length c, .slice A2 wg.length c2], .int .i64 ((i : Int) + 1)] (by rfl) rfl rfl (by (try simp only [List.map_toArray, List.map_cons, List.map_nil]); first | done | rfl) ?_
   refine (HSE.out _ _ (HI.out.up.then HV3.out)).mono ?_
   rintro e w4 ⟨rfl, hb⟩
   have HV4 : Aside0 (Up wr w4) := ⟨(HV3.out).then hb⟩
   clear hb; refine ⟨_, rfl, ?_⟩
   refine hK.out _ _ (HS4.out _ HV4.out) (fun hHeld => ?_)
   clear hK K; refine norm_ (a' := ?_) ?_ ?_
   rotate_left
   ·show Act.put _ (some 57) _ = _
    simp only [Act.put, List.setIfInBounds_toArray, List.set_cons_zero, List.set_cons_succ, i64_w, i32_w]
    rfl
   refine one_ (i := 14) (N := (some 58)) #[true, true, true, true, true, true, true, true, true, true, true, true, true, true, true, false, false] rfl rfl (by kernel_rfl) (by decide) (fun K hK => ?_)
   refine goes_ Tryd.func63 (by kernel_rfl) rfl #[.agg #[.int .i64 y.lo, .int .i64 y.hi], .agg #[.int .i64 (seenS wg ((i : Int) + 1)).lo, .int .i64 (seenS wg ((i : Int) + 1)).hi]] (by rfl) rfl rfl (by (try simp only [List.map_toArray, List.map_cons, List.map_nil]); first | done | rfl) ?_
   refine (and_ y (seenS wg ((i : Int) + 1)) _).mono ?_
   rintro e w5 ⟨rfl, hb⟩
   have HV5 : Aside0 (Up wr w5) := ⟨(HV4.out).then hb⟩
   clear hb; refine ⟨_, rfl, ?_⟩
   refine hK.out _ _ (HS4.out _ HV5.out) (fun hHeld => ?_)
   clear hK K; refine norm_ (a' := ?_) ?_ ?_
   rotate_left
   ·show Act.put _ (some 58) _ = _
    simp only [Act.put, List.setIfInBounds_toArray, List.set_cons_zero, List.set_cons_succ, i64_w, i32_w]
    rfl
   refine one_ (i := 15) (N := (some 59)) #[true, true, true, true, true, true, true, true, true, true, true, true, true, true, true, true, false] rfl rfl (by kernel_rfl) (by decide) (fun K hK => ?_)
   refine value_ (v := ?_) (w1 := w5) (by rfl) rfl ?_ ?_
   rotate_left
   ·go_simp
    rfl
   refine hK.out _ _ hHeld (fun hHeld => ?_)
   clear hK K; refine norm_ (a' := ?_) ?_ ?_
   rotate_left
   ·show Act.put _ (some 59) _ = _
    simp only [Act.put, List.setIfInBounds_toArray, List.set_cons_zero, List.set_cons_succ, i64_w, i32_w]
    rfl
   refine last_ (i := 16) (N := none) #[true, true, true, true, true, true, true, true, true, true, true, true, true, true, true, true, true] rfl rfl (by kernel_rfl) (by decide) (fun K hK => ?_)
   have hyz := HI.out.then HV5.out
   obtain ⟨hz0, hz1⟩ := hyz.cell (i + 1) (by rw [thM_len]; omega)
   have hfz := hyz.frozen
   refine skip_ (w1 := ?_) (by rfl) rfl ?_ ?_
   rotate_left
   ·go_simp
    rfl
   refine hK.out _ _ ?_
   clear hK K; have HI2 := Aside0.mk ((HI.out.then HV5.out).put (i + 1) (by rw [thM_len]; omega) (andS y (seenS wg ((i : Int) + 1))))
   rw [← HT1.out] at HI2
   clear hyz hfz hz0 hz1; refine done_ (by kernel_rfl) ?_
   refine NoPanic.normal ?_
   generalize ((w5.setCell ⟨g, (i + 1) * 2, none⟩ (.int .i64 (andS y (seenS wg ((i : Int) + 1))).lo)).setCell ⟨g, (i + 1) * 2 + 1, none⟩ (.int .i64 (andS y (seenS wg ((i : Int) + 1))).hi)) = W2 at *
   gi_wp2_with fail
   go_roundw
   case rel => exact ⟨i + 1, by omega, by omega, by congr 1, HI2⟩
   case measure => simp [intOf]; omega
   -- END R6
  ·obtain rfl : i = st.length := by omega
   have hi3 : ¬ ((st.length : Int) < (st.length : Int)) := by omega
   have hq3 := HI.out.b3.cell
   have hsN : (s : Int) + 1 ≤ (N : Int) := by have := HN.out; omega
   have hcs1 : s + 1 < cap := by have := HN.out; have := HCAP.out; have := HS.out; omega
   have hcs2 : ¬ cap - (s + 1) = 0 := by omega
   have hcs3 : ¬ cap = s + 1 := by omega
   have hcs4 : ¬ cap ≤ s + 1 := by omega
   have hcs5 : (s : Int) + 1 ≠ (cap : Int) := by omega
   have hlt2 := HI.out.b2.lt; have hlt3 := HI.out.b3.lt; have hlt5 := HI.out.b5.lt
   gi_wp2_with fail
   have HJ0 : Aside0 (ThR w g cap #[.slice A st.length c, .slice A2 wg.length c2] s wr.heap.size (N - (s + 1)) (cap - (s + 1)) st.length st (thL2 st wg s) [] (wr.alloc (.cells #[.slice (some ⟨g, (s + 1) * 2, none⟩) (N - (s + 1)) (cap - (s + 1))] 96))) := ⟨by
    refine ⟨?_, Bx.new wr _ _⟩
    rw [show ([] : List Nat).length = 0 from rfl, Nat.zero_min, gst_zero]
    exact HI.out.then ((Up.refl wr).alloc _)⟩
   have hwz : w.heap.size ≤ wr.heap.size := HI.out.up.le
   clear hcs1 hcs2 hcs3 hcs4 hcs5 hlt2 hlt3 hlt5 hq2 hq3 HI hi1 hi2 hlt; obtain ⟨M, hM⟩ : ∃ M, M = N - (s + 1) := ⟨_, rfl⟩
   obtain ⟨KC, hKC⟩ : ∃ KC, KC = cap - (s + 1) := ⟨_, rfl⟩
   obtain ⟨W3, hW3⟩ : ∃ W3, W3 = wr.alloc (.cells #[.slice (some ⟨g, (s + 1) * 2, none⟩) (N - (s + 1)) (cap - (s + 1))] 96) := ⟨_, rfl⟩
   rw [← hW3] at HJ0
   rw [← hW3]
   rw [← hM, ← hKC] at HJ0
   simp only [← hM, ← hKC]
   have hwz3 : w.heap.size ≤ W3.heap.size := HJ0.out.i.up.le
   have HM := Aside0.mk hM
   clear hW3 hM hKC; obtain ⟨B8, hB8⟩ : ∃ B, B = wr.heap.size := ⟨_, rfl⟩
   rw [← hB8] at HJ0 hwz
   simp only [← hB8]
   clear hB8; have hJ0 := HJ0.out
   clear HJ0; apply range_gives_fr (F := Fence.wide) (n := 7) rfl (by omega) (gf := 102) (pb := #[.agg #[.slice A st.length c, .slice A2 wg.length c2]]) (lb := #[]) rfl trivial (enters_of Tryd.func102 (by kernel_rfl) rfl) (G := isN) (lo := ptLo) (ow := noOw) (L := downL st.length) ((points_gives A st.length c A2 wg.length c2 W3 hl1).any 6) (Up.refl _) rfl (fun _ _ _ _ _ _ _ _ h => h)
    (ThR w g cap #[.slice A st.length c, .slice A2 wg.length c2] s B8 M KC st.length st (thL2 st wg s)) (ThR.stays hwz3) hJ0
    ?assign ?body ?done
   case assign =>
    intro l v Wd K hK
    have HK := Aside0.mk hK
    clear hK
    gi_wp2_with fail
    exact HK.out
   case done =>
    intro D Wd hD hI hDd
    have hdl : ∀ n : Nat, (downL n).length = n + 1 := by
     intro n
     induction n with
     | zero => rfl
     | succ n ih => simp [downL, ih]
    have HJ : Aside0 (ThJ w g cap #[.slice A st.length c, .slice A2 wg.length c2] s B8 M KC D ⟨0, 0⟩ (thL3 st wg s) Wd) := by
     refine ⟨⟨?_, hI.b8, hDd, by omega⟩⟩
     have := hI.i
     rw [hdl, Nat.min_eq_right (by omega)] at this
     exact this
    clear hdl hI hDd hJ0; have hcl := containsNone (some ⟨g, 0, none⟩) cap (thL3 st wg s) Wd (HJ.out.C (by rw [thL3_len]; omega)) HJ.out.i.capL
    rw [thL3_len, ← HN.out] at hcl
    gi_wp2_with fail
    refine ⟨trivial, (callsIn_wide.2 hcl).mono ?_⟩
    clear hcl; rintro e W4 ⟨rfl, hu4⟩
    have HJ4 := Aside0.mk (HJ.out.then hu4)
    clear hu4 HJ; have hl3 := thL3_len st wg s
    cases h3 : (thL3 st wg s).any noneB
    case true =>
     have hq5 := HJ4.out.i.b5.cell; have hf5 := HJ4.out.i.b5.frozen
     have HK0 : Aside0 (thOk st wg s = false) := ⟨by unfold thOk; rw [h3]; rfl⟩
     clear h3
     gi_wp2_with fail
     have HJ5 := Aside0.mk (HJ4.out.amt ⟨0, 0⟩)
     refine ⟨by simp, .inl ⟨_, _, rfl, run_takeDeferred HJ5.out.d, ?_⟩⟩
     have hfin := HJ5.out.fin; have hq5 := hfin.b5.cell
     refine ⟨.tuple #[.slice none 0 0, .agg #[.int .i64 0, .int .i64 0], .bool false], ?_, .slice none 0 0, ?_, ?_, hfin.up⟩
     ·simp [results, Tryd.f72, go_sem, hq5]
     ·simp [thR, HK0.out]
     ·rw [thL, HK0.out]; exact ⟨rfl, .inl ⟨rfl, rfl⟩⟩
    case false =>
     have HF := Aside0.mk (any_full (thL3_ok HOK.out s HS.out) h3)
     have HN3 := Aside0.mk h3
     have hfx := rd_full HF.out s (by rw [thL3_len]; omega)
     have hfy := rd_full HF.out (s + 1) (by rw [thL3_len]; omega)
     clear h3; obtain ⟨x3, hx3⟩ : ∃ x, x = rdS (thL3 st wg s) s := ⟨_, rfl⟩
     obtain ⟨y3, hy3⟩ : ∃ y, y = rdS (thL3 st wg s) ((s + 1 : Nat) : Int) := ⟨_, rfl⟩
     rw [← hx3] at hfx
     rw [← hy3] at hfy
     have HX3 := Aside0.mk hx3
     have HY3 := Aside0.mk hy3
     obtain ⟨hfx0, hfx1, hfx2⟩ := hfx
     obtain ⟨hfy0, hfy1, hfy2⟩ := hfy
     have HJ5 : Aside0 (ThJ w g cap #[.slice A st.length c, .slice A2 wg.length c2] s B8 M KC D ⟨0, 0⟩ ((thL3 st wg s).set s ⟨x3.lo + ((0 : Nat) : Int), x3.hi⟩) W4) := ⟨by
      have h9 := HJ4.out
      have e : (⟨x3.lo + ((0 : Nat) : Int), x3.hi⟩ : Sp) = rdS (thL3 st wg s) s := by rw [← hx3]; simp
      rw [e, set_rd (by rw [hl3]; omega)]
      exact h9⟩
     have hM0 : 0 < M := by have := HM.out; have := HN.out; have := HS.out; omega
     clear hx3 hy3 hl3
     gi_wp2_with fail
     gi_loopw [] (fun W => ∃ d m : Nat, d + m = 402 ∧ x3.lo + (d : Int) ≤ x3.hi + 1 ∧ Aside0 (trimLo (rdS st s) ⟨y3.lo + 1, 0⟩ 402 x3 = trimLo (rdS st s) ⟨y3.lo + 1, 0⟩ m ⟨x3.lo + (d : Int), x3.hi⟩) ∧ Aside0 (ThJ w g cap #[.slice A st.length c, .slice A2 wg.length c2] s B8 M KC D ⟨0, 0⟩ ((thL3 st wg s).set s ⟨x3.lo + (d : Int), x3.hi⟩) W)) (fun W => (402 - loOf W ⟨g, s * 2, none⟩).toNat)
     case atStart => exact ⟨0, 402, rfl, by omega, ⟨by simp⟩, HJ5⟩
     case round =>
      clear HJ4 HJ5; obtain ⟨d, m, hdm, hdl, HT, HJ⟩ := hrel
      have hL : ((thL3 st wg s).set s ⟨x3.lo + (d : Int), x3.hi⟩).length = st.length + 1 := by rw [List.length_set, thL3_len]
      obtain ⟨ca, cb⟩ := HJ.out.i.cell s (by rw [hL]; omega)
      obtain ⟨cc, cd⟩ := HJ.out.i.cell (s + 1) (by rw [hL]; omega)
      rw [rd_set _ (by rw [thL3_len]; omega), if_pos rfl] at ca cb
      rw [rd_set _ (by rw [thL3_len]; omega), if_neg (by omega), ← HY3.out] at cc cd
      obtain ⟨v, hv⟩ : ∃ v, v = x3.lo + (d : Int) := ⟨_, rfl⟩
      rw [← hv] at ca cb hdl HT HJ
      have HV := Aside0.mk hv
      have hv0 : 0 ≤ v := by omega
      have hq2 := HJ.out.i.b2.cell; have hq3 := HJ.out.i.b3.cell; have hq8 := HJ.out.b8.cell
      have hMES : (402 - loOf wr ⟨g, s * 2, none⟩).toNat = (402 - v).toNat := by unfold loOf; rw [ca]
      have HS4 : Aside0 (∀ W' : World, Up wr W' → W'.cell? ⟨w.heap.size, 0, none⟩ = some (.slice A st.length c) ∧ W'.cell? ⟨w.heap.size, 1, none⟩ = some (.slice A2 wg.length c2) ∧ W'.cell? ⟨w.heap.size + 1, 0, none⟩ = some (.int .i64 (s : Int)) ∧ W'.cell? ⟨B8, 0, none⟩ = some (.slice (some ⟨g, (s + 1) * 2, none⟩) M KC) ∧ W'.cell? ⟨g, s * 2, none⟩ = some (.int .i64 v) ∧ W'.cell? ⟨g, s * 2 + 1, none⟩ = some (.int .i64 x3.hi) ∧ W'.cell? ⟨g, (s + 1) * 2, none⟩ = some (.int .i64 y3.lo) ∧ W'.cell? ⟨g, (s + 1) * 2 + 1, none⟩ = some (.int .i64 y3.hi)) := ⟨fun W' hu => ⟨hu.cell (hq2 0), hu.cell (hq2 1), hu.cell (hq3 0), hu.cell (hq8 0), hu.cell ca, hu.cell cb, hu.cell cc, hu.cell cd⟩⟩
      have HMES := Aside0.mk hMES
      clear hL hq2 hq3 hq8 ca cb cc cd hMES hv
      by_cases hn : v > x3.hi
      ·have hdec : decide (v > x3.hi) = true := by simp [hn]
       gi_wp2_with fail
       -- EV R14n
       refine wpIn_wide.2 ?_
       refine wp_region_noPanic ?_
       refine start_ (n := 23) (S := fun W' => W'.cell? ⟨w.heap.size, 0, none⟩ = some (.slice A st.length c) ∧ W'.cell? ⟨w.heap.size, 1, none⟩ = some (.slice A2 wg.length c2) ∧ W'.cell? ⟨w.heap.size + 1, 0, none⟩ = some (.int .i64 (s : Int)) ∧ W'.cell? ⟨B8, 0, none⟩ = some (.slice (some ⟨g, (s + 1) * 2, none⟩) M KC) ∧ W'.cell? ⟨g, s * 2, none⟩ = some (.int .i64 v) ∧ W'.cell? ⟨g, s * 2 + 1, none⟩ = some (.int .i64 x3.hi) ∧ W'.cell? ⟨g, (s + 1) * 2, none⟩ = some (.int .i64 y3.lo) ∧ W'.cell? ⟨g, (s + 1) * 2 + 1, none⟩ = some (.int .i64 y3.hi)) (ds := []) #[false, false, false, false, false, false, false, false, false, false, false, false, false, false, false, false, false, false, false, false, false, false, false] (by kernel_rfl) rfl rfl (HS4.out _ ((Up.refl wr).drew)) (fun hHeld => ?_)
       refine pure_ (i := 0) (N := (some 103)) (v := ?_) (a' := ?_) #[true, false, false, false, false, false, false, false, false, false, false, false, false, false, false, false, false, false, false, false, false, false, false] rfl rfl (by kernel_rfl) (fun _ _ _ h => h) (Or.inl ⟨by rfl, ?_⟩) ?_ ?_
       rotate_left
       ·intro w'
        go_simp
        with_reducible rfl
       rotate_left
       ·simp only [Act.put, List.setIfInBounds_toArray, List.set_cons_zero, List.set_cons_succ, i64_w, i32_w]; rfl
       refine take_ (i := 1) (N := (some 104)) (v := ?_) (a' := ?_) #[true, true, false, false, false, false, false, false, false, false, false, false, false, false, false, false, false, false, false, false, false, false, false] rfl rfl (by kernel_rfl) (fun _ _ _ h => h) (Or.inl ⟨by rfl, ?_⟩) hHeld ?_ ?_
       rotate_left
       ·rintro w' ⟨s0, s1, s2, s3, s4, s5, s6, s7⟩
        go_simp
        with_reducible rfl
       rotate_left
       ·simp only [Act.put, List.setIfInBounds_toArray, List.set_cons_zero, List.set_cons_succ, i64_w, i32_w]; rfl
       refine take_ (i := 2) (N := (some 105)) (v := ?_) (a' := ?_) #[true, true, true, false, false, false, false, false, false, false, false, false, false, false, false, false, false, false, false, false, false, false, false] rfl rfl (by kernel_rfl) (fun _ _ _ h => h) (Or.inl ⟨by rfl, ?_⟩) hHeld ?_ ?_
       rotate_left
       ·rintro w' ⟨s0, s1, s2, s3, s4, s5, s6, s7⟩
        go_simp
        with_reducible rfl
       rotate_left
       ·simp only [Act.put, List.setIfInBounds_toArray, List.set_cons_zero, List.set_cons_succ, i64_w, i32_w]; rfl
       refine take_ (i := 3) (N := (some 106)) (v := ?_) (a' := ?_) #[true, true, true, true, false, false, false, false, false, false, false, false, false, false, false, false, false, false, false, false, false, false, false] rfl rfl (by kernel_rfl) (fun _ _ _ h => h) (Or.inl ⟨by rfl, ?_⟩) hHeld ?_ ?_
       rotate_left
       ·rintro w' ⟨s0, s1, s2, s3, s4, s5, s6, s7⟩
        go_simp
        with_reducible rfl
       rotate_left
       ·simp only [Act.put, List.setIfInBounds_toArray, List.set_cons_zero, List.set_cons_succ, i64_w, i32_w]; rfl
       refine one_ (i := 4) (N := (some 107)) #[true, true, true, true, true, false, false, false, false, false, false, false, false, false, false, false, false, false, false, false, false, false, false] rfl rfl (by kernel_rfl) (by decide) (fun K hK => ?_)
       refine goes_ Tryd.func82 (by kernel_rfl) rfl #[.agg #[.int .i64 v, .int .i64 x3.hi]] (by rfl) rfl rfl (by (try simp only [List.map_toArray, List.map_cons, List.map_nil]); first | done | rfl) ?_
       refine (isNone_ ⟨v, x3.hi⟩ _).mono ?_
       rintro e w3 ⟨rfl, hb⟩
       simp only [hdec]
       have HV3 : Aside0 (Up wr w3) := ⟨((Up.refl wr).drew).then hb⟩
       clear hb; refine ⟨_, rfl, ?_⟩
       refine hK.out _ _ (HS4.out _ HV3.out) (fun hHeld => ?_)
       clear hK K; refine norm_ (a' := ?_) ?_ ?_
       rotate_left
       ·show Act.put _ (some 107) _ = _
        simp only [Act.put, List.setIfInBounds_toArray, List.set_cons_zero, List.set_cons_succ, i64_w, i32_w]
        rfl
       refine pure_ (i := 5) (N := (some 108)) (v := ?_) (a' := ?_) #[true, true, true, true, true, true, false, false, false, false, false, false, false, false, false, false, false, false, false, false, false, false, false] rfl rfl (by kernel_rfl) (fun _ _ _ h => h) (Or.inl ⟨by rfl, ?_⟩) ?_ ?_
       rotate_left
       ·intro w'
        go_simp
        with_reducible rfl
       rotate_left
       ·simp only [Act.put, List.setIfInBounds_toArray, List.set_cons_zero, List.set_cons_succ, i64_w, i32_w]; rfl
       refine pure_ (i := 6) (N := (some 109)) (v := ?_) (a' := ?_) #[true, true, true, true, true, true, true, false, false, false, false, false, false, false, false, false, false, false, false, false, false, false, false] rfl rfl (by kernel_rfl) (fun _ _ _ h => h) (Or.inl ⟨by rfl, ?_⟩) ?_ ?_
       rotate_left
       ·intro w'
        go_simp
        with_reducible rfl
       rotate_left
       ·simp only [Act.put, List.setIfInBounds_toArray, List.set_cons_zero, List.set_cons_succ, i64_w, i32_w]; rfl
       refine pure_ (i := 7) (N := (some 110)) (v := undef) (a' := ?_) #[true, true, true, true, true, true, true, true, false, false, false, false, false, false, false, false, false, false, false, false, false, false, false] rfl rfl (by kernel_rfl) (fun _ _ _ h => h) (Or.inr ⟨by rfl, rfl⟩) ?_ ?_
       rotate_left
       ·simp only [Act.put, List.setIfInBounds_toArray, List.set_cons_zero, List.set_cons_succ, i64_w, i32_w]; rfl
       refine pure_ (i := 8) (N := (some 111)) (v := undef) (a' := ?_) #[true, true, true, true, true, true, true, true, true, false, false, false, false, false, false, false, false, false, false, false, false, false, false] rfl rfl (by kernel_rfl) (fun _ _ _ h => h) (Or.inr ⟨by rfl, rfl⟩) ?_ ?_
       rotate_left
       ·simp only [Act.put, List.setIfInBounds_toArray, List.set_cons_zero, List.set_cons_succ, i64_w, i32_w]; rfl
       refine pure_ (i := 9) (N := (some 112)) (v := undef) (a' := ?_) #[true, true, true, true, true, true, true, true, true, true, false, false, false, false, false, false, false, false, false, false, false, false, false] rfl rfl (by kernel_rfl) (fun _ _ _ h => h) (Or.inr ⟨by rfl, rfl⟩) ?_ ?_
       rotate_left
       ·simp only [Act.put, List.setIfInBounds_toArray, List.set_cons_zero, List.set_cons_succ, i64_w, i32_w]; rfl
       refine pure_ (i := 10) (N := (some 113)) (v := undef) (a' := ?_) #[true, true, true, true, true, true, true, true, true, true, true, false, false, false, false, false, false, false, false, false, false, false, false] rfl rfl (by kernel_rfl) (fun _ _ _ h => h) (Or.inr ⟨by rfl, rfl⟩) ?_ ?_
       rotate_left
       ·simp only [Act.put, List.setIfInBounds_toArray, List.set_cons_zero, List.set_cons_succ, i64_w, i32_w]; rfl
       refine pure_ (i := 11) (N := (some 114)) (v := undef) (a' := ?_) #[true, true, true, true, true, true, true, true, true, true, true, true, false, false, false, false, false, false, false, false, false, false, false] rfl rfl (by kernel_rfl) (fun _ _ _ h => h) (Or.inr ⟨by rfl, rfl⟩) ?_ ?_
       rotate_left
       ·simp only [Act.put, List.setIfInBounds_toArray, List.set_cons_zero, List.set_cons_succ, i64_w, i32_w]; rfl
       refine pure_ (i := 12) (N := (some 115)) (v := undef) (a' := ?_) #[true, true, true, true, true, true, true, true, true, true, true, true, true, false, false, false, false, false, false, false, false, false, false] rfl rfl (by kernel_rfl) (fun _ _ _ h => h) (Or.inr ⟨by rfl, rfl⟩) ?_ ?_
       rotate_left
       ·simp only [Act.put, List.setIfInBounds_toArray, List.set_cons_zero, List.set_cons_succ, i64_w, i32_w]; rfl
       refine pure_ (i := 13) (N := (some 116)) (v := undef) (a' := ?_) #[true, true, true, true, true, true, true, true, true, true, true, true, true, true, false, false, false, false, false, false, false, false, false] rfl rfl (by kernel_rfl) (fun _ _ _ h => h) (Or.inr ⟨by rfl, rfl⟩) ?_ ?_
       rotate_left
       ·simp only [Act.put, List.setIfInBounds_toArray, List.set_cons_zero, List.set_cons_succ, i64_w, i32_w]; rfl
       refine pure_ (i := 14) (N := (some 117)) (v := undef) (a' := ?_) #[true, true, true, true, true, true, true, true, true, true, true, true, true, true, true, false, false, false, false, false, false, false, false] rfl rfl (by kernel_rfl) (fun _ _ _ h => h) (Or.inr ⟨by rfl, rfl⟩) ?_ ?_
       rotate_left
       ·simp only [Act.put, List.setIfInBounds_toArray, List.set_cons_zero, List.set_cons_succ, i64_w, i32_w]; rfl
       refine pure_ (i := 15) (N := (some 118)) (v := undef) (a' := ?_) #[true, true, true, true, true, true, true, true, true, true, true, true, true, true, true, true, false, false, false, false, false, false, false] rfl rfl (by kernel_rfl) (fun _ _ _ h => h) (Or.inr ⟨by rfl, rfl⟩) ?_ ?_
       rotate_left
       ·simp only [Act.put, List.setIfInBounds_toArray, List.set_cons_zero, List.set_cons_succ, i64_w, i32_w]; rfl
       refine pure_ (i := 16) (N := (some 119)) (v := undef) (a' := ?_) #[true, true, true, true, true, true, true, true, true, true, true, true, true, true, true, true, true, false, false, false, false, false, false] rfl rfl (by kernel_rfl) (fun _ _ _ h => h) (Or.inr ⟨by rfl, rfl⟩) ?_ ?_
       rotate_left
       ·simp only [Act.put, List.setIfInBounds_toArray, List.set_cons_zero, List.set_cons_succ, i64_w, i32_w]; rfl
       refine pure_ (i := 17) (N := (some 120)) (v := undef) (a' := ?_) #[true, true, true, true, true, true, true, true, true, true, true, true, true, true, true, true, true, true, false, false, false, false, false] rfl rfl (by kernel_rfl) (fun _ _ _ h => h) (Or.inr ⟨by rfl, rfl⟩) ?_ ?_
       rotate_left
       ·simp only [Act.put, List.setIfInBounds_toArray, List.set_cons_zero, List.set_cons_succ, i64_w, i32_w]; rfl
       refine pure_ (i := 18) (N := (some 121)) (v := undef) (a' := ?_) #[true, true, true, true, true, true, true, true, true, true, true, true, true, true, true, true, true, true, true, false, false, false, false] rfl rfl (by kernel_rfl) (fun _ _ _ h => h) (Or.inr ⟨by rfl, rfl⟩) ?_ ?_
       rotate_left
       ·simp only [Act.put, List.setIfInBounds_toArray, List.set_cons_zero, List.set_cons_succ, i64_w, i32_w]; rfl
       refine pure_ (i := 19) (N := (some 122)) (v := undef) (a' := ?_) #[true, true, true, true, true, true, true, true, true, true, true, true, true, true, true, true, true, true, true, true, false, false, false] rfl rfl (by kernel_rfl) (fun _ _ _ h => h) (Or.inr ⟨by rfl, rfl⟩) ?_ ?_
       rotate_left
       ·simp only [Act.put, List.setIfInBounds_toArray, List.set_cons_zero, List.set_cons_succ, i64_w, i32_w]; rfl
       refine pure_ (i := 20) (N := (some 123)) (v := undef) (a' := ?_) #[true, true, true, true, true, true, true, true, true, true, true, true, true, true, true, true, true, true, true, true, true, false, false] rfl rfl (by kernel_rfl) (fun _ _ _ h => h) (Or.inr ⟨by rfl, rfl⟩) ?_ ?_
       rotate_left
       ·simp only [Act.put, List.setIfInBounds_toArray, List.set_cons_zero, List.set_cons_succ, i64_w, i32_w]; rfl
       refine pure_ (i := 21) (N := (some 124)) (v := undef) (a' := ?_) #[true, true, true, true, true, true, true, true, true, true, true, true, true, true, true, true, true, true, true, true, true, true, false] rfl rfl (by kernel_rfl) (fun _ _ _ h => h) (Or.inr ⟨by rfl, rfl⟩) ?_ ?_
       rotate_left
       ·simp only [Act.put, List.setIfInBounds_toArray, List.set_cons_zero, List.set_cons_succ, i64_w, i32_w]; rfl
       refine pure_ (i := 22) (N := (some 125)) (v := ?_) (a' := ?_) #[true, true, true, true, true, true, true, true, true, true, true, true, true, true, true, true, true, true, true, true, true, true, true] rfl rfl (by kernel_rfl) (fun _ _ _ h => h) (Or.inl ⟨by rfl, ?_⟩) ?_ ?_
       rotate_left
       ·intro w'
        go_simp
        with_reducible rfl
       rotate_left
       ·simp only [Act.put, List.setIfInBounds_toArray, List.set_cons_zero, List.set_cons_succ, i64_w, i32_w]; rfl
       refine done_ (by kernel_rfl) ?_
       refine NoPanic.normal ?_
       have HL4 : Aside0 ((thL3 st wg s).set s ⟨v, x3.hi⟩ = thL4 st wg s) := ⟨by rw [thL4, thX, ← HX3.out, ← HY3.out, HT.out, thX_none (x := ⟨v, x3.hi⟩) (y := y3) (by simp only; omega)]⟩
       have HJ7 := Aside0.mk (HJ.out.then HV3.out)
       rw [HL4.out] at HJ7
       have hq3 := HJ7.out.i.b3.cell
       have hws1 : IntKind.i64.wrap ((s : Int) - 1) = (s : Int) - 1 := IntWalk.i64_in _ (by omega)
       gi_wp2_with fail
       clear hq3 hws1 HL4 HT HV HMES HS4 HJ HX3 HY3 hdec
       gi_loopw [10] (fun v10 W => ∃ p : Int, -1 ≤ p ∧ p < (s : Int) ∧ v10 = .int .i64 p ∧ Aside0 (ThJ w g cap #[.slice A st.length c, .slice A2 wg.length c2] s B8 M KC D ⟨0, 0⟩ (thG st (thL4 st wg s) s ((s : Int) - p).toNat) W)) (fun v10 _ => (intOf v10 + 1).toNat)
       case atStart => exact ⟨(s : Int) - 1, by omega, by omega, rfl, ⟨by rw [show ((s : Int) - ((s : Int) - 1)).toNat = 1 by omega, thG_one st _ s HS.out (thL4_len st wg s)]; exact HJ7.out⟩⟩
       case round =>
        clear HJ7; obtain ⟨p, hp1, hp2, rfl, HJ⟩ := hrel
        by_cases hpn : 0 ≤ p
        ·obtain ⟨p, rfl⟩ : ∃ q : Nat, p = (q : Int) := ⟨p.toNat, by omega⟩
         have hps : p < s := by omega
         rw [show ((s : Int) - (p : Int)).toNat = s - p by omega] at HJ
         obtain ⟨hstp, hcur⟩ := thG_succ st (thL4 st wg s) s p HS.out (thL4_len st wg s) hps
         have hgl : (thG st (thL4 st wg s) s (s - p)).length = st.length + 1 := by rw [thG_len, thL4_len]
         obtain ⟨ca, cb⟩ := HJ.out.i.cell p (by rw [hgl]; omega)
         obtain ⟨cc, cd⟩ := HJ.out.i.cell (p + 1) (by rw [hgl]; omega)
         have hso : okS (rdS (thG st (thL4 st wg s) s (s - p)) (p : Nat)) := by rw [hcur]; exact rd_ok (thL4_ok HOK.out s HS.out) p
         have hsb := HOK.out.at p (by omega) (by omega)
         have hpl : (p : Int) < (st.length : Int) := by omega
         have hpN : (p : Int) < (N : Int) := by have := HN.out; omega
         have hpN1 : (p : Int) + 1 < (N : Int) := by have := HN.out; omega
         have hp3 : (0 : Int) ≤ (p : Int) + 1 := by omega
         have hpt : ((p : Int) + 1).toNat = p + 1 := by omega
         have hwp : IntKind.i64.wrap ((p : Int) + 1) = (p : Int) + 1 := IntWalk.i64_in _ (by omega)
         have hwp2 : IntKind.i64.wrap ((p : Int) - 1) = (p : Int) - 1 := IntWalk.i64_in _ (by omega)
         have hq2 := HJ.out.i.b2.cell
         have HLT : Aside0 (p < s) := ⟨hps⟩
         generalize hgs : thG st (thL4 st wg s) s (s - p) = G at *
         obtain ⟨x1, hx1⟩ : ∃ x, x = rdS G (p : Nat) := ⟨_, rfl⟩
         obtain ⟨y1, hy1⟩ : ∃ y, y = rdS G ((p + 1 : Nat) : Int) := ⟨_, rfl⟩
         rw [← hx1] at ca cb hso hcur hstp
         rw [← hy1] at cc cd hstp
         have HSP := Aside0.mk hstp
         have HGL2 := Aside0.mk hgl
         have HCALL : Aside0 (∀ W : World, Up wr W → Calls Tryd.prog 103 #[.agg #[.slice A st.length c, .slice A2 wg.length c2], .int .i64 (p : Int), .agg #[.int .i64 x1.lo, .int .i64 x1.hi], .agg #[.int .i64 y1.lo, .int .i64 y1.hi]] W fun e w' => e = .returned (.agg #[.int .i64 (backS (rdS st (p : Nat)) x1 y1).lo, .int .i64 (backS (rdS st (p : Nat)) x1 y1).hi]) ∧ Up W w') := ⟨fun W hu => back_ A c st A2 c2 wg p x1 y1 W (C_up HR.out (HJ.out.i.up.then hu)) hc (C_up HR2.out (HJ.out.i.up.then hu)) hc2 hpn hpl hsb hso⟩
         have HS4 : Aside0 (∀ W' : World, Up wr W' → W'.cell? ⟨w.heap.size, 0, none⟩ = some (.slice A st.length c) ∧ W'.cell? ⟨w.heap.size, 1, none⟩ = some (.slice A2 wg.length c2) ∧ W'.cell? ⟨g, p * 2, none⟩ = some (.int .i64 x1.lo) ∧ W'.cell? ⟨g, p * 2 + 1, none⟩ = some (.int .i64 x1.hi) ∧ W'.cell? ⟨g, (p + 1) * 2, none⟩ = some (.int .i64 y1.lo) ∧ W'.cell? ⟨g, (p + 1) * 2 + 1, none⟩ = some (.int .i64 y1.hi)) := ⟨fun W' hu => ⟨hu.cell (hq2 0), hu.cell (hq2 1), hu.cell ca, hu.cell cb, hu.cell cc, hu.cell cd⟩⟩
         clear hstp hcur hgl hgs hx1 hy1 hsb hso ca cb cc cd hq2 hps; generalize backS (rdS st (p : Nat)) x1 y1 = z at *
         gi_wp2_with fail
         refine wpIn_wide.2 ?_
         refine wp_region_noPanic ?_
         refine start_ (n := 16) (S := fun W' => W'.cell? ⟨w.heap.size, 0, none⟩ = some (.slice A st.length c) ∧ W'.cell? ⟨w.heap.size, 1, none⟩ = some (.slice A2 wg.length c2) ∧ W'.cell? ⟨g, p * 2, none⟩ = some (.int .i64 x1.lo) ∧ W'.cell? ⟨g, p * 2 + 1, none⟩ = some (.int .i64 x1.hi) ∧ W'.cell? ⟨g, (p + 1) * 2, none⟩ = some (.int .i64 y1.lo) ∧ W'.cell? ⟨g, (p + 1) * 2 + 1, none⟩ = some (.int .i64 y1.hi)) (ds := [15]) #[false, false, false, false, false, false, false, false, false, false, false, false, false, false, false, false] (by kernel_rfl) rfl rfl (HS4.out _ ((Up.refl wr).drew)) (fun hHeld => ?_)
         refine pure_ (i := 0) (N := (some 140)) (v := ?_) (a' := ?_) #[true, false, false, false, false, false, false, false, false, false, false, false, false, false, false, false] rfl rfl (by kernel_rfl) (fun _ _ _ h => h) (Or.inl ⟨by rfl, ?_⟩) ?_ ?_
         rotate_left
         ·intro w'
          go_simp
          with_reducible rfl
         rotate_left
         ·simp only [Act.put, List.setIfInBounds_toArray, List.set_cons_zero, List.set_cons_succ, i64_w, i32_w]; rfl
         refine pure_ (i := 1) (N := (some 141)) (v := ?_) (a' := ?_) #[true, true, false, false, false, false, false, false, false, false, false, false, false, false, false, false] rfl rfl (by kernel_rfl) (fun _ _ _ h => h) (Or.inl ⟨by rfl, ?_⟩) ?_ ?_
         rotate_left
         ·intro w'
          go_simp
          with_reducible rfl
         rotate_left
         ·simp only [Act.put, List.setIfInBounds_toArray, List.set_cons_zero, List.set_cons_succ, i64_w, i32_w]; rfl
         refine take_ (i := 2) (N := (some 142)) (v := ?_) (a' := ?_) #[true, true, true, false, false, false, false, false, false, false, false, false, false, false, false, false] rfl rfl (by kernel_rfl) (fun _ _ _ h => h) (Or.inl ⟨by rfl, ?_⟩) hHeld ?_ ?_
         rotate_left
         ·rintro w' ⟨s0, s1, s2, s3, s4, s5⟩
          go_simp
          with_reducible rfl
         rotate_left
         ·simp only [Act.put, List.setIfInBounds_toArray, List.set_cons_zero, List.set_cons_succ, i64_w, i32_w]; rfl
         refine pure_ (i := 3) (N := (some 143)) (v := ?_) (a' := ?_) #[true, true, true, true, false, false, false, false, false, false, false, false, false, false, false, false] rfl rfl (by kernel_rfl) (fun _ _ _ h => h) (Or.inl ⟨by rfl, ?_⟩) ?_ ?_
         rotate_left
         ·intro w'
          go_simp
          with_reducible rfl
         rotate_left
         ·simp only [Act.put, List.setIfInBounds_toArray, List.set_cons_zero, List.set_cons_succ, i64_w, i32_w]; rfl
         refine pure_ (i := 4) (N := (some 144)) (v := ?_) (a' := ?_) #[true, true, true, true, true, false, false, false, false, false, false, false, false, false, false, false] rfl rfl (by kernel_rfl) (fun _ _ _ h => h) (Or.inl ⟨by rfl, ?_⟩) ?_ ?_
         rotate_left
         ·intro w'
          go_simp
          with_reducible rfl
         rotate_left
         ·simp only [Act.put, List.setIfInBounds_toArray, List.set_cons_zero, List.set_cons_succ, i64_w, i32_w]; rfl
         refine pure_ (i := 5) (N := (some 145)) (v := ?_) (a' := ?_) #[true, true, true, true, true, true, false, false, false, false, false, false, false, false, false, false] rfl rfl (by kernel_rfl) (fun _ _ _ h => h) (Or.inl ⟨by rfl, ?_⟩) ?_ ?_
         rotate_left
         ·intro w'
          go_simp
          with_reducible rfl
         rotate_left
         ·simp only [Act.put, List.setIfInBounds_toArray, List.set_cons_zero, List.set_cons_succ, i64_w, i32_w]; rfl
         refine take_ (i := 6) (N := (some 146)) (v := ?_) (a' := ?_) #[true, true, true, true, true, true, true, false, false, false, false, false, false, false, false, false] rfl rfl (by kernel_rfl) (fun _ _ _ h => h) (Or.inl ⟨by rfl, ?_⟩) hHeld ?_ ?_
         rotate_left
         ·rintro w' ⟨s0, s1, s2, s3, s4, s5⟩
          go_simp
          with_reducible rfl
         rotate_left
         ·simp only [Act.put, List.setIfInBounds_toArray, List.set_cons_zero, List.set_cons_succ, i64_w, i32_w]; rfl
         refine take_ (i := 7) (N := (some 147)) (v := ?_) (a' := ?_) #[true, true, true, true, true, true, true, true, false, false, false, false, false, false, false, false] rfl rfl (by kernel_rfl) (fun _ _ _ h => h) (Or.inl ⟨by rfl, ?_⟩) hHeld ?_ ?_
         rotate_left
         ·rintro w' ⟨s0, s1, s2, s3, s4, s5⟩
          go_simp
          with_reducible rfl
         rotate_left
         ·simp only [Act.put, List.setIfInBounds_toArray, List.set_cons_zero, List.set_cons_succ, i64_w, i32_w]; rfl
         refine pure_ (i := 8) (N := (some 148)) (v := ?_) (a' := ?_) #[true, true, true, true, true, true, true, true, true, false, false, false, false, false, false, false] rfl rfl (by kernel_rfl) (fun _ _ _ h => h) (Or.inl ⟨by rfl, ?_⟩) ?_ ?_
         rotate_left
         ·intro w'
          go_simp
          with_reducible rfl
         rotate_left
         ·simp only [Act.put, List.setIfInBounds_toArray, List.set_cons_zero, List.set_cons_succ, i64_w, i32_w]; rfl
         refine pure_ (i := 9) (N := (some 149)) (v := ?_) (a' := ?_) #[true, true, true, true, true, true, true, true, true, true, false, false, false, false, false, false] rfl rfl (by kernel_rfl) (fun _ _ _ h => h) (Or.inl ⟨by rfl, ?_⟩) ?_ ?_
         rotate_left
         ·intro w'
          go_simp
          with_reducible rfl
         rotate_left
         ·simp only [Act.put, List.setIfInBounds_toArray, List.set_cons_zero, List.set_cons_succ, i64_w, i32_w]; rfl
         refine pure_ (i := 10) (N := (some 150)) (v := ?_) (a' := ?_) #[true, true, true, true, true, true, true, true, true, true, true, false, false, false, false, false] rfl rfl (by kernel_rfl) (fun _ _ _ h => h) (Or.inl ⟨by rfl, ?_⟩) ?_ ?_
         rotate_left
         ·intro w'
          go_simp
          with_reducible rfl
         rotate_left
         ·simp only [Act.put, List.setIfInBounds_toArray, List.set_cons_zero, List.set_cons_succ, i64_w, i32_w]; rfl
         refine take_ (i := 11) (N := (some 151)) (v := ?_) (a' := ?_) #[true, true, true, true, true, true, true, true, true, true, true, true, false, false, false, false] rfl rfl (by kernel_rfl) (fun _ _ _ h => h) (Or.inl ⟨by rfl, ?_⟩) hHeld ?_ ?_
         rotate_left
         ·rintro w' ⟨s0, s1, s2, s3, s4, s5⟩
          go_simp
          with_reducible rfl
         rotate_left
         ·simp only [Act.put, List.setIfInBounds_toArray, List.set_cons_zero, List.set_cons_succ, i64_w, i32_w]; rfl
         refine take_ (i := 12) (N := (some 152)) (v := ?_) (a' := ?_) #[true, true, true, true, true, true, true, true, true, true, true, true, true, false, false, false] rfl rfl (by kernel_rfl) (fun _ _ _ h => h) (Or.inl ⟨by rfl, ?_⟩) hHeld ?_ ?_
         rotate_left
         ·rintro w' ⟨s0, s1, s2, s3, s4, s5⟩
          go_simp
          with_reducible rfl
         rotate_left
         ·simp only [Act.put, List.setIfInBounds_toArray, List.set_cons_zero, List.set_cons_succ, i64_w, i32_w]; rfl
         refine one_ (i := 13) (N := (some 153)) #[true, true, true, true, true, true, true, true, true, true, true, true, true, true, false, false] rfl rfl (by kernel_rfl) (by decide) (fun K hK => ?_)
         refine goes_ Tryd.func103 (by kernel_rfl) rfl #[.agg #[.slice A st.length c, .slice A2 wg.length c2], .int .i64 (p : Int), .agg #[.int .i64 x1.lo, .int .i64 x1.hi], .agg #[.int .i64 y1.lo, .int .i64 y1.hi]] (by rfl) rfl rfl (by (try simp only [List.map_toArray, List.map_cons, List.map_nil]); first | done | rfl) ?_
         refine (HCALL.out _ ((Up.refl wr).drew)).mono ?_
         rintro e w3 ⟨rfl, hb⟩
         have HV3 : Aside0 (Up wr w3) := ⟨((Up.refl wr).drew).then hb⟩
         clear hb; refine ⟨_, rfl, ?_⟩
         refine hK.out _ _ (HS4.out _ HV3.out) (fun hHeld => ?_)
         clear hK K; refine norm_ (a' := ?_) ?_ ?_
         rotate_left
         ·show Act.put _ (some 153) _ = _
          simp only [Act.put, List.setIfInBounds_toArray, List.set_cons_zero, List.set_cons_succ, i64_w, i32_w]
          rfl
         refine one_ (i := 14) (N := (some 154)) #[true, true, true, true, true, true, true, true, true, true, true, true, true, true, true, false] rfl rfl (by kernel_rfl) (by decide) (fun K hK => ?_)
         refine value_ (v := ?_) (w1 := w3) (by rfl) rfl ?_ ?_
         rotate_left
         ·go_simp
          rfl
         refine hK.out _ _ hHeld (fun hHeld => ?_)
         clear hK K; refine norm_ (a' := ?_) ?_ ?_
         rotate_left
         ·show Act.put _ (some 154) _ = _
          simp only [Act.put, List.setIfInBounds_toArray, List.set_cons_zero, List.set_cons_succ, i64_w, i32_w]
          rfl
         refine last_ (i := 15) (N := none) #[true, true, true, true, true, true, true, true, true, true, true, true, true, true, true, true] rfl rfl (by kernel_rfl) (by decide) (fun K hK => ?_)
         have hyz := HJ.out.then HV3.out
         obtain ⟨hz0, hz1⟩ := hyz.i.cell p (by rw [HGL2.out]; have := HLT.out; have := HS.out; omega)
         have hfz := hyz.i.frozen
         refine skip_ (w1 := ?_) (by rfl) rfl ?_ ?_
         rotate_left
         ·go_simp
          rfl
         refine hK.out _ _ ?_
         clear hK K hz0 hz1 hfz; refine done_ (by kernel_rfl) ?_
         refine NoPanic.normal ?_
         have hput := hyz.put p (by rw [HGL2.out]; have := HLT.out; have := HS.out; omega) z
         rw [← HSP.out] at hput
         have HPUT := Aside0.mk hput
         clear hput hyz
         gi_wp2_with fail
         go_roundw
         case rel => exact ⟨(p : Int) - 1, by omega, by have := HLT.out; omega, rfl, ⟨by rw [show ((s : Int) - ((p : Int) - 1)).toNat = s - p + 1 by have := HLT.out; omega]; exact HPUT.out⟩⟩
         case measure => simp [intOf]
        ·obtain rfl : p = -1 := by omega
         rw [show ((s : Int) - (-1)).toNat = s + 1 by omega] at HJ
         have HJ8 : Aside0 (ThJ w g cap #[.slice A st.length c, .slice A2 wg.length c2] s B8 M KC D ⟨0, 0⟩ (thL5 st wg s) wr) := ⟨HJ.out⟩
         clear HJ; have hcl := containsNone (some ⟨g, 0, none⟩) cap (thL5 st wg s) wr (HJ8.out.C (by rw [thL5_len]; omega)) HJ8.out.i.capL
         rw [thL5_len, ← HN.out] at hcl
         gi_wp2_with fail
         refine ⟨trivial, (callsIn_wide.2 hcl).mono ?_⟩
         clear hcl; rintro e W6 ⟨rfl, hu6⟩
         have HJ9 := Aside0.mk (HJ8.out.then hu6)
         clear hu6 HJ8
         cases h5 : (thL5 st wg s).any noneB
         case true =>
          have hq5 := HJ9.out.i.b5.cell; have hf5 := HJ9.out.i.b5.frozen
          have HK0 : Aside0 (thOk st wg s = false) := ⟨by unfold thOk; rw [h5]; simp⟩
          clear h5
          gi_wp2_with fail
          have HJ10 := Aside0.mk (HJ9.out.amt ⟨0, 0⟩)
          refine ⟨by simp, .inl ⟨_, _, rfl, run_takeDeferred HJ10.out.d, ?_⟩⟩
          have hfin := HJ10.out.fin; have hq5 := hfin.b5.cell
          refine ⟨.tuple #[.slice none 0 0, .agg #[.int .i64 0, .int .i64 0], .bool false], ?_, .slice none 0 0, ?_, ?_, hfin.up⟩
          ·simp [results, Tryd.f72, go_sem, hq5]
          ·simp [thR, HK0.out]
          ·rw [thL, HK0.out]; exact ⟨rfl, .inl ⟨rfl, rfl⟩⟩
         case false =>
          have HF5 := Aside0.mk (any_full (thL5_ok HOK.out s HS.out) h5)
          have HK1 : Aside0 (thOk st wg s = true) := ⟨by unfold thOk; rw [h5, HN3.out]; rfl⟩
          have hfx := rd_full HF5.out s (by rw [thL5_len]; omega)
          have hfy := rd_full HF5.out (s + 1) (by rw [thL5_len]; omega)
          obtain ⟨cx0, cx1⟩ := HJ9.out.i.cell s (by rw [thL5_len]; omega)
          obtain ⟨cy0, cy1⟩ := HJ9.out.i.cell (s + 1) (by rw [thL5_len]; omega)
          clear h5; obtain ⟨x5, hx5⟩ : ∃ x, x = rdS (thL5 st wg s) s := ⟨_, rfl⟩
          obtain ⟨y5, hy5⟩ : ∃ y, y = rdS (thL5 st wg s) ((s + 1 : Nat) : Int) := ⟨_, rfl⟩
          rw [← hx5] at hfx cx0 cx1
          rw [← hy5] at hfy cy0 cy1
          have HX5 := Aside0.mk hx5
          have HY5 := Aside0.mk hy5
          obtain ⟨hfx0, hfx1, hfx2⟩ := hfx
          obtain ⟨hfy0, hfy1, hfy2⟩ := hfy
          clear hx5 hy5; have hq2 := HJ9.out.i.b2.cell
          have hq3 := HJ9.out.i.b3.cell; have hq8 := HJ9.out.b8.cell
          have HLC : Aside0 (∀ W : World, Up W6 W → Calls Tryd.prog 62 #[.agg #[.slice A st.length c, .slice A2 wg.length c2], .int .i64 (s : Int), .int .i64 x5.hi] W fun e w' => e = .returned (.agg #[.int .i64 (loS (rdS st s) x5.hi), .int .i64 (hiS (rdS st s) x5.hi)]) ∧ Up W w') := ⟨fun W hu => left_ A c st A2 c2 wg s x5.hi W (C_up HR.out (HJ9.out.i.up.then hu)) hc (C_up HR2.out (HJ9.out.i.up.then hu)) hc2 hs0 hs1 HST.out ⟨by omega, hfx2⟩⟩
          have HS4 : Aside0 (∀ W' : World, Up W6 W' → W'.cell? ⟨w.heap.size, 0, none⟩ = some (.slice A st.length c) ∧ W'.cell? ⟨w.heap.size, 1, none⟩ = some (.slice A2 wg.length c2) ∧ W'.cell? ⟨w.heap.size + 1, 0, none⟩ = some (.int .i64 (s : Int)) ∧ W'.cell? ⟨B8, 0, none⟩ = some (.slice (some ⟨g, (s + 1) * 2, none⟩) M KC) ∧ W'.cell? ⟨g, s * 2 + 1, none⟩ = some (.int .i64 x5.hi) ∧ W'.cell? ⟨g, (s + 1) * 2, none⟩ = some (.int .i64 y5.lo)) := ⟨fun W' hu => ⟨hu.cell (hq2 0), hu.cell (hq2 1), hu.cell (hq3 0), hu.cell (hq8 0), hu.cell cx1, hu.cell cy0⟩⟩
          have hwq : IntKind.i64.wrap (hiS (rdS st s) x5.hi - y5.lo) = hiS (rdS st s) x5.hi - y5.lo := IntWalk.i64_in _ (by have := hiS_le HST.out (w := x5.hi) (by omega); have := loS_hiS HST.out (w := x5.hi) (by omega); have := loS_nn HST.out (w := x5.hi) (by omega); omega)
          have hfd1 := fld1
          clear hq2 hq3 hq8 cx0 cx1 cy0 cy1
          gi_wp2_with fail
          refine wpIn_wide.2 ?_
          refine wp_region_noPanic ?_
          refine start_ (n := 16) (S := fun W' => W'.cell? ⟨w.heap.size, 0, none⟩ = some (.slice A st.length c) ∧ W'.cell? ⟨w.heap.size, 1, none⟩ = some (.slice A2 wg.length c2) ∧ W'.cell? ⟨w.heap.size + 1, 0, none⟩ = some (.int .i64 (s : Int)) ∧ W'.cell? ⟨B8, 0, none⟩ = some (.slice (some ⟨g, (s + 1) * 2, none⟩) M KC) ∧ W'.cell? ⟨g, s * 2 + 1, none⟩ = some (.int .i64 x5.hi) ∧ W'.cell? ⟨g, (s + 1) * 2, none⟩ = some (.int .i64 y5.lo)) (ds := [15]) #[false, false, false, false, false, false, false, false, false, false, false, false, false, false, false, false] (by kernel_rfl) rfl rfl (HS4.out _ ((Up.refl W6).drew)) (fun hHeld => ?_)
          refine take_ (i := 0) (N := (some 158)) (v := ?_) (a' := ?_) #[true, false, false, false, false, false, false, false, false, false, false, false, false, false, false, false] rfl rfl (by kernel_rfl) (fun _ _ _ h => h) (Or.inl ⟨by rfl, ?_⟩) hHeld ?_ ?_
          rotate_left
          ·rintro w' ⟨s0, s1, s2, s3, s4, s5⟩
           go_simp
           with_reducible rfl
          rotate_left
          ·simp only [Act.put, List.setIfInBounds_toArray, List.set_cons_zero, List.set_cons_succ, i64_w, i32_w]; rfl
          refine take_ (i := 1) (N := (some 159)) (v := ?_) (a' := ?_) #[true, true, false, false, false, false, false, false, false, false, false, false, false, false, false, false] rfl rfl (by kernel_rfl) (fun _ _ _ h => h) (Or.inl ⟨by rfl, ?_⟩) hHeld ?_ ?_
          rotate_left
          ·rintro w' ⟨s0, s1, s2, s3, s4, s5⟩
           go_simp
           with_reducible rfl
          rotate_left
          ·simp only [Act.put, List.setIfInBounds_toArray, List.set_cons_zero, List.set_cons_succ, i64_w, i32_w]; rfl
          refine pure_ (i := 2) (N := (some 160)) (v := ?_) (a' := ?_) #[true, true, true, false, false, false, false, false, false, false, false, false, false, false, false, false] rfl rfl (by kernel_rfl) (fun _ _ _ h => h) (Or.inl ⟨by rfl, ?_⟩) ?_ ?_
          rotate_left
          ·intro w'
           go_simp
           with_reducible rfl
          rotate_left
          ·simp only [Act.put, List.setIfInBounds_toArray, List.set_cons_zero, List.set_cons_succ, i64_w, i32_w]; rfl
          refine take_ (i := 3) (N := (some 161)) (v := ?_) (a' := ?_) #[true, true, true, true, false, false, false, false, false, false, false, false, false, false, false, false] rfl rfl (by kernel_rfl) (fun _ _ _ h => h) (Or.inl ⟨by rfl, ?_⟩) hHeld ?_ ?_
          rotate_left
          ·rintro w' ⟨s0, s1, s2, s3, s4, s5⟩
           go_simp
           with_reducible rfl
          rotate_left
          ·simp only [Act.put, List.setIfInBounds_toArray, List.set_cons_zero, List.set_cons_succ, i64_w, i32_w]; rfl
          refine take_ (i := 4) (N := (some 162)) (v := ?_) (a' := ?_) #[true, true, true, true, true, false, false, false, false, false, false, false, false, false, false, false] rfl rfl (by kernel_rfl) (fun _ _ _ h => h) (Or.inl ⟨by rfl, ?_⟩) hHeld ?_ ?_
          rotate_left
          ·rintro w' ⟨s0, s1, s2, s3, s4, s5⟩
           go_simp
           with_reducible rfl
          rotate_left
          ·simp only [Act.put, List.setIfInBounds_toArray, List.set_cons_zero, List.set_cons_succ, i64_w, i32_w]; rfl
          refine take_ (i := 5) (N := (some 163)) (v := ?_) (a' := ?_) #[true, true, true, true, true, true, false, false, false, false, false, false, false, false, false, false] rfl rfl (by kernel_rfl) (fun _ _ _ h => h) (Or.inl ⟨by rfl, ?_⟩) hHeld ?_ ?_
          rotate_left
          ·rintro w' ⟨s0, s1, s2, s3, s4, s5⟩
           go_simp
           with_reducible rfl
          rotate_left
          ·simp only [Act.put, List.setIfInBounds_toArray, List.set_cons_zero, List.set_cons_succ, i64_w, i32_w]; rfl
          refine take_ (i := 6) (N := (some 164)) (v := ?_) (a' := ?_) #[true, true, true, true, true, true, true, false, false, false, false, false, false, false, false, false] rfl rfl (by kernel_rfl) (fun _ _ _ h => h) (Or.inl ⟨by rfl, ?_⟩) hHeld ?_ ?_
          rotate_left
          ·rintro w' ⟨s0, s1, s2, s3, s4, s5⟩
           go_simp
           with_reducible rfl
          rotate_left
          ·simp only [Act.put, List.setIfInBounds_toArray, List.set_cons_zero, List.set_cons_succ, i64_w, i32_w]; rfl
          refine take_ (i := 9) (N := (some 167)) (v := ?_) (a' := ?_) #[true, true, true, true, true, true, true, false, false, true, false, false, false, false, false, false] rfl rfl (by kernel_rfl) (fun _ _ _ h => h) (Or.inl ⟨by rfl, ?_⟩) hHeld ?_ ?_
          rotate_left
          ·rintro w' ⟨s0, s1, s2, s3, s4, s5⟩
           go_simp
           with_reducible rfl
          rotate_left
          ·simp only [Act.put, List.setIfInBounds_toArray, List.set_cons_zero, List.set_cons_succ, i64_w, i32_w]; rfl
          refine take_ (i := 10) (N := (some 168)) (v := ?_) (a' := ?_) #[true, true, true, true, true, true, true, false, false, true, true, false, false, false, false, false] rfl rfl (by kernel_rfl) (fun _ _ _ h => h) (Or.inl ⟨by rfl, ?_⟩) hHeld ?_ ?_
          rotate_left
          ·rintro w' ⟨s0, s1, s2, s3, s4, s5⟩
           go_simp
           with_reducible rfl
          rotate_left
          ·simp only [Act.put, List.setIfInBounds_toArray, List.set_cons_zero, List.set_cons_succ, i64_w, i32_w]; rfl
          refine take_ (i := 11) (N := (some 169)) (v := ?_) (a' := ?_) #[true, true, true, true, true, true, true, false, false, true, true, true, false, false, false, false] rfl rfl (by kernel_rfl) (fun _ _ _ h => h) (Or.inl ⟨by rfl, ?_⟩) hHeld ?_ ?_
          rotate_left
          ·rintro w' ⟨s0, s1, s2, s3, s4, s5⟩
           go_simp
           with_reducible rfl
          rotate_left
          ·simp only [Act.put, List.setIfInBounds_toArray, List.set_cons_zero, List.set_cons_succ, i64_w, i32_w]; rfl
          refine take_ (i := 12) (N := (some 170)) (v := ?_) (a' := ?_) #[true, true, true, true, true, true, true, false, false, true, true, true, true, false, false, false] rfl rfl (by kernel_rfl) (fun _ _ _ h => h) (Or.inl ⟨by rfl, ?_⟩) hHeld ?_ ?_
          rotate_left
          ·rintro w' ⟨s0, s1, s2, s3, s4, s5⟩
           go_simp
           with_reducible rfl
          rotate_left
          ·simp only [Act.put, List.setIfInBounds_toArray, List.set_cons_zero, List.set_cons_succ, i64_w, i32_w]; rfl
          refine one_ (i := 7) (N := (some 165)) #[true, true, true, true, true, true, true, true, false, true, true, true, true, false, false, false] rfl rfl (by kernel_rfl) (by decide) (fun K hK => ?_)
          refine goes_ Tryd.func62 (by kernel_rfl) rfl #[.agg #[.slice A st.length c, .slice A2 wg.length c2], .int .i64 (s : Int), .int .i64 x5.hi] (by rfl) rfl rfl (by (try simp only [List.map_toArray, List.map_cons, List.map_nil]); first | done | rfl) ?_
          refine (HLC.out _ ((Up.refl W6).drew)).mono ?_
          rintro e w7 ⟨rfl, hb⟩
          have HV7 : Aside0 (Up W6 w7) := ⟨((Up.refl W6).drew).then hb⟩
          clear hb; refine ⟨_, rfl, ?_⟩
          refine hK.out _ _ (HS4.out _ HV7.out) (fun hHeld => ?_)
          clear hK K; refine norm_ (a' := ?_) ?_ ?_
          rotate_left
          ·show Act.put _ (some 165) _ = _
           simp only [Act.put, List.setIfInBounds_toArray, List.set_cons_zero, List.set_cons_succ, i64_w, i32_w]
           rfl
          refine pure_ (i := 8) (N := (some 166)) (v := ?_) (a' := ?_) #[true, true, true, true, true, true, true, true, true, true, true, true, true, false, false, false] rfl rfl (by kernel_rfl) (fun _ _ _ h => h) (Or.inl ⟨by rfl, ?_⟩) ?_ ?_
          rotate_left
          ·intro w'
           go_simp
           with_reducible rfl
          rotate_left
          ·simp only [Act.put, List.setIfInBounds_toArray, List.set_cons_zero, List.set_cons_succ, i64_w, i32_w]; rfl
          refine pure_ (i := 13) (N := (some 171)) (v := ?_) (a' := ?_) #[true, true, true, true, true, true, true, true, true, true, true, true, true, true, false, false] rfl rfl (by kernel_rfl) (fun _ _ _ h => h) (Or.inl ⟨by rfl, ?_⟩) ?_ ?_
          rotate_left
          ·intro w'
           go_simp
           with_reducible rfl
          rotate_left
          ·simp only [Act.put, List.setIfInBounds_toArray, List.set_cons_zero, List.set_cons_succ, i64_w, i32_w]; rfl
          refine pure_ (i := 14) (N := (some 172)) (v := ?_) (a' := ?_) #[true, true, true, true, true, true, true, true, true, true, true, true, true, true, true, false] rfl rfl (by kernel_rfl) (fun _ _ _ h => h) (Or.inl ⟨by rfl, ?_⟩) ?_ ?_
          rotate_left
          ·intro w'
           go_simp
           with_reducible rfl
          rotate_left
          ·simp only [Act.put, List.setIfInBounds_toArray, List.set_cons_zero, List.set_cons_succ, i64_w, i32_w]; rfl
          refine last_ (i := 15) (N := none) #[true, true, true, true, true, true, true, true, true, true, true, true, true, true, true, true] rfl rfl (by kernel_rfl) (by decide) (fun K hK => ?_)
          have hyz := HJ9.out.then HV7.out
          have hz0 := hyz.i.b5.cell; have hfz := hyz.i.b5.frozen
          refine skip_ (w1 := ?_) (by rfl) rfl ?_ ?_
          rotate_left
          ·go_simp
           rfl
          refine hK.out _ _ ?_
          clear hK K hz0 hfz; refine done_ (by kernel_rfl) ?_
          refine NoPanic.normal ?_
          have HJA := Aside0.mk (hyz.amt ⟨400, hiS (rdS st s) x5.hi - y5.lo⟩)
          clear hyz HS4 HLC hwq HV7 HJ9; generalize hWa : ((w7.setCell ⟨w.heap.size + 1 + 1, 0, none⟩ (.int .i64 400)).setCell ⟨w.heap.size + 1 + 1, 1, none⟩ (.int .i64 (hiS (rdS st s) x5.hi - y5.lo))) = W8 at *
          clear hWa; have hq3 := HJA.out.i.b3.cell
          obtain ⟨cx0, cx1⟩ := HJA.out.i.cell s (by rw [thL5_len]; omega)
          rw [← HX5.out] at cx0 cx1
          gi_wp2_with fail
          clear hq3 cx0 cx1
          gi_loopw [11] (fun v11 W => ∃ j : Nat, x5.lo + (j : Int) ≤ x5.hi + 1 ∧ v11 = .int .i64 (x5.lo + (j : Int)) ∧ Aside0 (ThJ w g cap #[.slice A st.length c, .slice A2 wg.length c2] s B8 M KC D ⟨thN (rdS st s) x5 y5 j, hiS (rdS st s) x5.hi - y5.lo⟩ (thL5 st wg s) W)) (fun v11 _ => (x5.hi + 1 - intOf v11).toNat)
          case atStart => exact ⟨0, by omega, by simp, HJA⟩
          case round =>
           clear HJA; obtain ⟨j, hj, rfl, HJ⟩ := hrel
           obtain ⟨v5, hv5⟩ : ∃ x, x = x5.lo + (j : Int) := ⟨_, rfl⟩
           rw [← hv5] at hj
           rw [← hv5]
           have HV5 := Aside0.mk hv5
           have hv50 : 0 ≤ v5 := by omega
           clear hv5; have hq2 := HJ.out.i.b2.cell
           have hq3 := HJ.out.i.b3.cell; have hq8 := HJ.out.b8.cell
           obtain ⟨cx0, cx1⟩ := HJ.out.i.cell s (by rw [thL5_len]; omega)
           rw [← HX5.out] at cx0 cx1
           by_cases hle : v5 ≤ x5.hi
           ·have hv54 : v5 ≤ 400 := by omega
            have hp0 := loS_nn HST.out hv50
            have hpq := loS_hiS HST.out hv50
            have hqv := hiS_le HST.out hv50
            have hcl := left_ A c st A2 c2 wg s v5 wr (C_up HR.out HJ.out.i.up) hc (C_up HR2.out HJ.out.i.up) hc2 hs0 hs1 HST.out ⟨hv50, hv54⟩
            have HST5 : Aside0 (thN (rdS st s) x5 y5 (j + 1) = min (thN (rdS st s) x5 y5 j) (max 1 (loS (rdS st s) v5 - min y5.hi (hiS (rdS st s) v5 - 1)))) := ⟨by rw [thN_succ, ← HV5.out]; rfl⟩
            gi_wp2_with fail
            refine ⟨trivial, (callsIn_wide.2 hcl).mono ?_⟩
            clear hcl; rintro e W9 ⟨rfl, hu9⟩
            generalize loS (rdS st s) v5 = lp at *
            generalize hiS (rdS st s) v5 = lq at *
            generalize thN (rdS st s) x5 y5 j = am at *
            have HJ10 := Aside0.mk ((HJ.out.then hu9).then ((Up.refl W9).alloc (.cells #[.int .i64 lp, .int .i64 lq] 100)))
            have HB12 : Aside0 (Bx (W9.alloc (.cells #[.int .i64 lp, .int .i64 lq] 100)) W9.heap.size #[.int .i64 lp, .int .i64 lq] 100) := ⟨Bx.new W9 _ _⟩
            clear hu9 hq2 hq3 hq8 cx0 cx1 HJ
            gi_wp2_with fail
            obtain ⟨B12, hB12⟩ : ∃ B, B = W9.heap.size := ⟨_, rfl⟩
            obtain ⟨W10, hW10⟩ : ∃ W, W = W9.alloc (.cells #[.int .i64 lp, .int .i64 lq] 100) := ⟨_, rfl⟩
            rw [← hW10] at HJ10 HB12
            rw [← hB12] at HB12
            simp only [← hW10, ← hB12]
            clear hW10 hB12; have hq5 := HJ10.out.i.b5.cell
            have hqc := HB12.out.cell; have hq8 := HJ10.out.b8.cell
            obtain ⟨cy0, cy1⟩ := HJ10.out.i.cell (s + 1) (by rw [thL5_len]; omega)
            rw [← HY5.out] at cy0 cy1
            have hwl : IntKind.i64.wrap (lq - 1) = lq - 1 := IntWalk.i64_in _ (by omega)
            have hwm : IntKind.i64.wrap (lp - min y5.hi (lq - 1)) = lp - min y5.hi (lq - 1) := IntWalk.i64_in _ (by omega)
            have hwv : IntKind.i64.wrap (v5 + 1) = v5 + 1 := IntWalk.i64_in _ (by omega)
            refine wpIn_wide.2 ?_
            refine wp_region_noPanic ?_
            refine start_ (n := 17) (S := fun W' => W'.cell? ⟨w.heap.size + 1 + 1, 0, none⟩ = some (.int .i64 am) ∧ W'.cell? ⟨B12, 0, none⟩ = some (.int .i64 lp) ∧ W'.cell? ⟨B12, 1, none⟩ = some (.int .i64 lq) ∧ W'.cell? ⟨B8, 0, none⟩ = some (.slice (some ⟨g, (s + 1) * 2, none⟩) M KC) ∧ W'.cell? ⟨g, (s + 1) * 2 + 1, none⟩ = some (.int .i64 y5.hi)) (ds := [16]) #[false, false, false, false, false, false, false, false, false, false, false, false, false, false, false, false, false] (by kernel_rfl) rfl rfl ⟨hq5 0, hqc 0, hqc 1, hq8 0, cy1⟩ (fun hHeld => ?_)
            refine take_ (i := 0) (N := (some 191)) (v := ?_) (a' := ?_) #[true, false, false, false, false, false, false, false, false, false, false, false, false, false, false, false, false] rfl rfl (by kernel_rfl) (fun _ _ _ h => h) (Or.inl ⟨by rfl, ?_⟩) hHeld ?_ ?_
            rotate_left
            ·rintro w' ⟨s0, s1, s2, s3, s4⟩
             go_simp
             with_reducible rfl
            rotate_left
            ·simp only [Act.put, List.setIfInBounds_toArray, List.set_cons_zero, List.set_cons_succ, i64_w, i32_w]; rfl
            refine take_ (i := 1) (N := (some 192)) (v := ?_) (a' := ?_) #[true, true, false, false, false, false, false, false, false, false, false, false, false, false, false, false, false] rfl rfl (by kernel_rfl) (fun _ _ _ h => h) (Or.inl ⟨by rfl, ?_⟩) hHeld ?_ ?_
            rotate_left
            ·rintro w' ⟨s0, s1, s2, s3, s4⟩
             go_simp
             with_reducible rfl
            rotate_left
            ·simp only [Act.put, List.setIfInBounds_toArray, List.set_cons_zero, List.set_cons_succ, i64_w, i32_w]; rfl
            refine take_ (i := 2) (N := (some 193)) (v := ?_) (a' := ?_) #[true, true, true, false, false, false, false, false, false, false, false, false, false, false, false, false, false] rfl rfl (by kernel_rfl) (fun _ _ _ h => h) (Or.inl ⟨by rfl, ?_⟩) hHeld ?_ ?_
            rotate_left
            ·rintro w' ⟨s0, s1, s2, s3, s4⟩
             go_simp
             with_reducible rfl
            rotate_left
            ·simp only [Act.put, List.setIfInBounds_toArray, List.set_cons_zero, List.set_cons_succ, i64_w, i32_w]; rfl
            refine take_ (i := 3) (N := (some 194)) (v := ?_) (a' := ?_) #[true, true, true, true, false, false, false, false, false, false, false, false, false, false, false, false, false] rfl rfl (by kernel_rfl) (fun _ _ _ h => h) (Or.inl ⟨by rfl, ?_⟩) hHeld ?_ ?_
            rotate_left
            ·rintro w' ⟨s0, s1, s2, s3, s4⟩
             go_simp
             with_reducible rfl
            rotate_left
            ·simp only [Act.put, List.setIfInBounds_toArray, List.set_cons_zero, List.set_cons_succ, i64_w, i32_w]; rfl
            refine take_ (i := 4) (N := (some 195)) (v := ?_) (a' := ?_) #[true, true, true, true, true, false, false, false, false, false, false, false, false, false, false, false, false] rfl rfl (by kernel_rfl) (fun _ _ _ h => h) (Or.inl ⟨by rfl, ?_⟩) hHeld ?_ ?_
            rotate_left
            ·rintro w' ⟨s0, s1, s2, s3, s4⟩
             go_simp
             with_reducible rfl
            rotate_left
            ·simp only [Act.put, List.setIfInBounds_toArray, List.set_cons_zero, List.set_cons_succ, i64_w, i32_w]; rfl
            refine take_ (i := 5) (N := (some 196)) (v := ?_) (a' := ?_) #[true, true, true, true, true, true, false, false, false, false, false, false, false, false, false, false, false] rfl rfl (by kernel_rfl) (fun _ _ _ h => h) (Or.inl ⟨by rfl, ?_⟩) hHeld ?_ ?_
            rotate_left
            ·rintro w' ⟨s0, s1, s2, s3, s4⟩
             go_simp
             with_reducible rfl
            rotate_left
            ·simp only [Act.put, List.setIfInBounds_toArray, List.set_cons_zero, List.set_cons_succ, i64_w, i32_w]; rfl
            refine take_ (i := 6) (N := (some 197)) (v := ?_) (a' := ?_) #[true, true, true, true, true, true, true, false, false, false, false, false, false, false, false, false, false] rfl rfl (by kernel_rfl) (fun _ _ _ h => h) (Or.inl ⟨by rfl, ?_⟩) hHeld ?_ ?_
            rotate_left
            ·rintro w' ⟨s0, s1, s2, s3, s4⟩
             go_simp
             with_reducible rfl
            rotate_left
            ·simp only [Act.put, List.setIfInBounds_toArray, List.set_cons_zero, List.set_cons_succ, i64_w, i32_w]; rfl
            refine take_ (i := 7) (N := (some 198)) (v := ?_) (a' := ?_) #[true, true, true, true, true, true, true, true, false, false, false, false, false, false, false, false, false] rfl rfl (by kernel_rfl) (fun _ _ _ h => h) (Or.inl ⟨by rfl, ?_⟩) hHeld ?_ ?_
            rotate_left
            ·rintro w' ⟨s0, s1, s2, s3, s4⟩
             go_simp
             with_reducible rfl
            rotate_left
            ·simp only [Act.put, List.setIfInBounds_toArray, List.set_cons_zero, List.set_cons_succ, i64_w, i32_w]; rfl
            refine take_ (i := 8) (N := (some 199)) (v := ?_) (a' := ?_) #[true, true, true, true, true, true, true, true, true, false, false, false, false, false, false, false, false] rfl rfl (by kernel_rfl) (fun _ _ _ h => h) (Or.inl ⟨by rfl, ?_⟩) hHeld ?_ ?_
            rotate_left
            ·rintro w' ⟨s0, s1, s2, s3, s4⟩
             go_simp
             with_reducible rfl
            rotate_left
            ·simp only [Act.put, List.setIfInBounds_toArray, List.set_cons_zero, List.set_cons_succ, i64_w, i32_w]; rfl
            refine take_ (i := 9) (N := (some 200)) (v := ?_) (a' := ?_) #[true, true, true, true, true, true, true, true, true, true, false, false, false, false, false, false, false] rfl rfl (by kernel_rfl) (fun _ _ _ h => h) (Or.inl ⟨by rfl, ?_⟩) hHeld ?_ ?_
            rotate_left
            ·rintro w' ⟨s0, s1, s2, s3, s4⟩
             go_simp
             with_reducible rfl
            rotate_left
            ·simp only [Act.put, List.setIfInBounds_toArray, List.set_cons_zero, List.set_cons_succ, i64_w, i32_w]; rfl
            refine pure_ (i := 10) (N := (some 201)) (v := ?_) (a' := ?_) #[true, true, true, true, true, true, true, true, true, true, true, false, false, false, false, false, false] rfl rfl (by kernel_rfl) (fun _ _ _ h => h) (Or.inl ⟨by rfl, ?_⟩) ?_ ?_
            rotate_left
            ·intro w'
             go_simp
             with_reducible rfl
            rotate_left
            ·simp only [Act.put, List.setIfInBounds_toArray, List.set_cons_zero, List.set_cons_succ, i64_w, i32_w]; rfl
            refine one_ (i := 11) (N := (some 202)) #[true, true, true, true, true, true, true, true, true, true, true, true, false, false, false, false, false] rfl rfl (by kernel_rfl) (by decide) (fun K hK => ?_)
            refine value_ (v := ?_) (w1 := W10.drew) (by rfl) rfl ?_ ?_
            rotate_left
            ·go_simp
             rfl
            refine hK.out _ _ hHeld (fun hHeld => ?_)
            clear hK K; refine norm_ (a' := ?_) ?_ ?_
            rotate_left
            ·show Act.put _ (some 202) _ = _
             simp only [Act.put, List.setIfInBounds_toArray, List.set_cons_zero, List.set_cons_succ, i64_w, i32_w]
             rfl
            refine pure_ (i := 12) (N := (some 203)) (v := ?_) (a' := ?_) #[true, true, true, true, true, true, true, true, true, true, true, true, true, false, false, false, false] rfl rfl (by kernel_rfl) (fun _ _ _ h => h) (Or.inl ⟨by rfl, ?_⟩) ?_ ?_
            rotate_left
            ·intro w'
             go_simp
             with_reducible rfl
            rotate_left
            ·simp only [Act.put, List.setIfInBounds_toArray, List.set_cons_zero, List.set_cons_succ, i64_w, i32_w]; rfl
            refine one_ (i := 13) (N := (some 204)) #[true, true, true, true, true, true, true, true, true, true, true, true, true, true, false, false, false] rfl rfl (by kernel_rfl) (by decide) (fun K hK => ?_)
            refine value_ (v := ?_) (w1 := W10.drew) (by rfl) rfl ?_ ?_
            rotate_left
            ·go_simp
             rfl
            refine hK.out _ _ hHeld (fun hHeld => ?_)
            clear hK K; refine norm_ (a' := ?_) ?_ ?_
            rotate_left
            ·show Act.put _ (some 204) _ = _
             simp only [Act.put, List.setIfInBounds_toArray, List.set_cons_zero, List.set_cons_succ, i64_w, i32_w]
             rfl
            refine one_ (i := 14) (N := (some 205)) #[true, true, true, true, true, true, true, true, true, true, true, true, true, true, true, false, false] rfl rfl (by kernel_rfl) (by decide) (fun K hK => ?_)
            refine value_ (v := ?_) (w1 := W10.drew) (by rfl) rfl ?_ ?_
            rotate_left
            ·go_simp
             rfl
            refine hK.out _ _ hHeld (fun hHeld => ?_)
            clear hK K; refine norm_ (a' := ?_) ?_ ?_
            rotate_left
            ·show Act.put _ (some 205) _ = _
             simp only [Act.put, List.setIfInBounds_toArray, List.set_cons_zero, List.set_cons_succ, i64_w, i32_w]
             rfl
            refine one_ (i := 15) (N := (some 206)) #[true, true, true, true, true, true, true, true, true, true, true, true, true, true, true, true, false] rfl rfl (by kernel_rfl) (by decide) (fun K hK => ?_)
            refine value_ (v := ?_) (w1 := W10.drew) (by rfl) rfl ?_ ?_
            rotate_left
            ·go_simp
             rfl
            refine hK.out _ _ hHeld (fun hHeld => ?_)
            clear hK K; refine norm_ (a' := ?_) ?_ ?_
            rotate_left
            ·show Act.put _ (some 206) _ = _
             simp only [Act.put, List.setIfInBounds_toArray, List.set_cons_zero, List.set_cons_succ, i64_w, i32_w]
             rfl
            refine last_ (i := 16) (N := none) #[true, true, true, true, true, true, true, true, true, true, true, true, true, true, true, true, true] rfl rfl (by kernel_rfl) (by decide) (fun K hK => ?_)
            have hyz := HJ10.out.then ((Up.refl W10).drew)
            have hz0 := hyz.i.b5.cell; have hfz := hyz.i.b5.frozen
            refine skip_ (w1 := ?_) (by rfl) rfl ?_ ?_
            rotate_left
            ·go_simp
             rfl
            refine hK.out _ _ ?_
            clear hK K hz0 hfz; refine done_ (by kernel_rfl) ?_
            refine NoPanic.normal ?_
            have HJB := Aside0.mk ((HJ10.out.amtLo (min am (max 1 (lp - min y5.hi (lq - 1))))).then ((Up.refl _).drew))
            clear hyz hq5 hqc hq8 cy0 cy1
            gi_wp2_with fail
            go_roundw
            case rel => exact ⟨j + 1, by have := HV5.out; omega, by rw [HV5.out]; congr 1; omega, ⟨by rw [HST5.out]; exact HJB.out⟩⟩
            case measure => simp [intOf]; omega
           ·have hje : j = (x5.hi + 1 - x5.lo).toNat := by have := HV5.out; omega
            have HAM : Aside0 ((⟨thN (rdS st s) x5 y5 j, hiS (rdS st s) x5.hi - y5.lo⟩ : Sp) = thAmt st wg s) := ⟨by rw [hje]; simp only [thAmt, ← HX5.out, ← HY5.out]⟩
            rw [HAM.out] at HJ
            have hq5 := HJ.out.i.b5.cell; have hf5 := HJ.out.i.b5.frozen
            have HRT : Aside0 (thR st wg s = thAmt st wg s) := ⟨by simp [thR, HK1.out]⟩
            generalize thAmt st wg s = ta at *
            gi_wp2_with fail
            refine wpIn_wide.2 ?_
            refine wp_region_noPanic ?_
            refine start_ (n := 5) (S := fun W' => W'.cell? ⟨w.heap.size + 1 + 1, 0, none⟩ = some (.int .i64 ta.lo) ∧ W'.cell? ⟨w.heap.size + 1 + 1, 1, none⟩ = some (.int .i64 ta.hi)) (ds := [3]) #[false, false, false, false, false] (by kernel_rfl) rfl rfl ⟨hq5 0, hq5 1⟩ (fun hHeld => ?_)
            refine pure_ (i := 0) (N := (some 207)) (v := ?_) (a' := ?_) #[true, false, false, false, false] rfl rfl (by kernel_rfl) (fun _ _ _ h => h) (Or.inl ⟨by rfl, ?_⟩) ?_ ?_
            rotate_left
            ·intro w'
             go_simp
             with_reducible rfl
            rotate_left
            ·simp only [Act.put, List.setIfInBounds_toArray, List.set_cons_zero, List.set_cons_succ, i64_w, i32_w]; rfl
            refine pure_ (i := 2) (N := (some 4)) (v := ?_) (a' := ?_) #[true, false, true, false, false] rfl rfl (by kernel_rfl) (fun _ _ _ h => h) (Or.inl ⟨by rfl, ?_⟩) ?_ ?_
            rotate_left
            ·intro w'
             go_simp
             with_reducible rfl
            rotate_left
            ·simp only [Act.put, List.setIfInBounds_toArray, List.set_cons_zero, List.set_cons_succ, i64_w, i32_w]; rfl
            refine take_ (i := 1) (N := (some 208)) (v := ?_) (a' := ?_) #[true, true, true, false, false] rfl rfl (by kernel_rfl) (fun _ _ _ h => h) (Or.inl ⟨by rfl, ?_⟩) hHeld ?_ ?_
            rotate_left
            ·rintro w' ⟨s0, s1⟩
             go_simp
             with_reducible rfl
            rotate_left
            ·simp only [Act.put, List.setIfInBounds_toArray, List.set_cons_zero, List.set_cons_succ, i64_w, i32_w]; rfl
            refine last_ (i := 3) (N := none) #[true, true, true, true, false] rfl rfl (by kernel_rfl) (by decide) (fun K hK => ?_)
            refine skip_ (w1 := ?_) (by rfl) rfl ?_ ?_
            rotate_left
            ·go_simp
             rfl
            refine hK.out _ _ ?_
            clear hK K; refine pure_ (i := 4) (N := (some 6)) (v := ?_) (a' := ?_) #[true, true, true, true, true] rfl rfl (by kernel_rfl) (fun _ _ _ h => h) (Or.inl ⟨by rfl, ?_⟩) ?_ ?_
            rotate_left
            ·intro w'
             go_simp
             with_reducible rfl
            rotate_left
            ·simp only [Act.put, List.setIfInBounds_toArray, List.set_cons_zero, List.set_cons_succ, i64_w, i32_w]; rfl
            refine done_ (by kernel_rfl) ?_
            refine NoPanic.normal ?_
            gi_wp2_with fail
            have HJC := Aside0.mk ((HJ.out.amt ta).then ((Up.refl _).drew))
            refine ⟨by simp, .inl ⟨_, _, rfl, run_takeDeferred HJC.out.d, ?_⟩⟩
            have hfin := HJC.out.fin
            clear hq5 hf5; have hq5 := hfin.b5.cell
            refine ⟨.tuple #[.slice (some ⟨g, 0, none⟩) N cap, .agg #[.int .i64 ta.lo, .int .i64 ta.hi], .bool true], ?_, .slice (some ⟨g, 0, none⟩) N cap, ?_, ?_, hfin.up⟩
            ·simp [results, Tryd.f72, go_sem, hq5]
            ·simp [HRT.out, HK1.out]
            ·have h9 := hfin.row.toOwn (base := w.heap.size) (by have := hfin.gb; omega)
             rw [thL5_len, ← HN.out] at h9
             rw [thL, HK1.out]
             simp only [if_true]
             rw [thL5_len, ← HN.out]
             exact h9
       -- END R14n
      ·have hdec : decide (v > x3.hi) = false := by simp [hn]
       have HLC : Aside0 (∀ W : World, Up wr W → Calls Tryd.prog 62 #[.agg #[.slice A st.length c, .slice A2 wg.length c2], .int .i64 (s : Int), .int .i64 v] W fun e w' => e = .returned (.agg #[.int .i64 (loS (rdS st s) v), .int .i64 (hiS (rdS st s) v)]) ∧ Up W w') := ⟨fun W hu => left_ A c st A2 c2 wg s v W (C_up HR.out (HJ.out.i.up.then hu)) hc (C_up HR2.out (HJ.out.i.up.then hu)) hc2 hs0 hs1 HST.out ⟨hv0, by omega⟩⟩
       have hwq : IntKind.i64.wrap (hiS (rdS st s) v - 1) = hiS (rdS st s) v - 1 := IntWalk.i64_in _ (by have := hiS_le HST.out hv0; have := loS_hiS HST.out hv0; have := loS_nn HST.out hv0; omega)
       have hfd1 := fld1
       gi_wp2_with fail
       -- EV R14
       refine wpIn_wide.2 ?_
       refine wp_region_noPanic ?_
       refine start_ (n := 23) (S := fun W' => W'.cell? ⟨w.heap.size, 0, none⟩ = some (.slice A st.length c) ∧ W'.cell? ⟨w.heap.size, 1, none⟩ = some (.slice A2 wg.length c2) ∧ W'.cell? ⟨w.heap.size + 1, 0, none⟩ = some (.int .i64 (s : Int)) ∧ W'.cell? ⟨B8, 0, none⟩ = some (.slice (some ⟨g, (s + 1) * 2, none⟩) M KC) ∧ W'.cell? ⟨g, s * 2, none⟩ = some (.int .i64 v) ∧ W'.cell? ⟨g, s * 2 + 1, none⟩ = some (.int .i64 x3.hi) ∧ W'.cell? ⟨g, (s + 1) * 2, none⟩ = some (.int .i64 y3.lo) ∧ W'.cell? ⟨g, (s + 1) * 2 + 1, none⟩ = some (.int .i64 y3.hi)) (ds := []) #[false, false, false, false, false, false, false, false, false, false, false, false, false, false, false, false, false, false, false, false, false, false, false] (by kernel_rfl) rfl rfl (HS4.out _ ((Up.refl wr).drew)) (fun hHeld => ?_)
       refine pure_ (i := 0) (N := (some 103)) (v := ?_) (a' := ?_) #[true, false, false, false, false, false, false, false, false, false, false, false, false, false, false, false, false, false, false, false, false, false, false] rfl rfl (by kernel_rfl) (fun _ _ _ h => h) (Or.inl ⟨by rfl, ?_⟩) ?_ ?_
       rotate_left
       ·intro w'
        go_simp
        with_reducible rfl
       rotate_left
       ·simp only [Act.put, List.setIfInBounds_toArray, List.set_cons_zero, List.set_cons_succ, i64_w, i32_w]; rfl
       refine take_ (i := 1) (N := (some 104)) (v := ?_) (a' := ?_) #[true, true, false, false, false, false, false, false, false, false, false, false, false, false, false, false, false, false, false, false, false, false, false] rfl rfl (by kernel_rfl) (fun _ _ _ h => h) (Or.inl ⟨by rfl, ?_⟩) hHeld ?_ ?_
       rotate_left
       ·rintro w' ⟨s0, s1, s2, s3, s4, s5, s6, s7⟩
        go_simp
        with_reducible rfl
       rotate_left
       ·simp only [Act.put, List.setIfInBounds_toArray, List.set_cons_zero, List.set_cons_succ, i64_w, i32_w]; rfl
       refine take_ (i := 2) (N := (some 105)) (v := ?_) (a' := ?_) #[true, true, true, false, false, false, false, false, false, false, false, false, false, false, false, false, false, false, false, false, false, false, false] rfl rfl (by kernel_rfl) (fun _ _ _ h => h) (Or.inl ⟨by rfl, ?_⟩) hHeld ?_ ?_
       rotate_left
       ·rintro w' ⟨s0, s1, s2, s3, s4, s5, s6, s7⟩
        go_simp
        with_reducible rfl
       rotate_left
       ·simp only [Act.put, List.setIfInBounds_toArray, List.set_cons_zero, List.set_cons_succ, i64_w, i32_w]; rfl
       refine take_ (i := 3) (N := (some 106)) (v := ?_) (a' := ?_) #[true, true, true, true, false, false, false, false, false, false, false, false, false, false, false, false, false, false, false, false, false, false, false] rfl rfl (by kernel_rfl) (fun _ _ _ h => h) (Or.inl ⟨by rfl, ?_⟩) hHeld ?_ ?_
       rotate_left
       ·rintro w' ⟨s0, s1, s2, s3, s4, s5, s6, s7⟩
        go_simp
        with_reducible rfl
       rotate_left
       ·simp only [Act.put, List.setIfInBounds_toArray, List.set_cons_zero, List.set_cons_succ, i64_w, i32_w]; rfl
       refine one_ (i := 4) (N := (some 107)) #[true, true, true, true, true, false, false, false, false, false, false, false, false, false, false, false, false, false, false, false, false, false, false] rfl rfl (by kernel_rfl) (by decide) (fun K hK => ?_)
       refine goes_ Tryd.func82 (by kernel_rfl) rfl #[.agg #[.int .i64 v, .int .i64 x3.hi]] (by rfl) rfl rfl (by (try simp only [List.map_toArray, List.map_cons, List.map_nil]); first | done | rfl) ?_
       refine (isNone_ ⟨v, x3.hi⟩ _).mono ?_
       rintro e w3 ⟨rfl, hb⟩
       simp only [hdec]
       have HV3 : Aside0 (Up wr w3) := ⟨((Up.refl wr).drew).then hb⟩
       clear hb; refine ⟨_, rfl, ?_⟩
       refine hK.out _ _ (HS4.out _ HV3.out) (fun hHeld => ?_)
       clear hK K; refine norm_ (a' := ?_) ?_ ?_
       rotate_left
       ·show Act.put _ (some 107) _ = _
        simp only [Act.put, List.setIfInBounds_toArray, List.set_cons_zero, List.set_cons_succ, i64_w, i32_w]
        rfl
       refine pure_ (i := 5) (N := (some 108)) (v := ?_) (a' := ?_) #[true, true, true, true, true, true, false, false, false, false, false, false, false, false, false, false, false, false, false, false, false, false, false] rfl rfl (by kernel_rfl) (fun _ _ _ h => h) (Or.inl ⟨by rfl, ?_⟩) ?_ ?_
       rotate_left
       ·intro w'
        go_simp
        with_reducible rfl
       rotate_left
       ·simp only [Act.put, List.setIfInBounds_toArray, List.set_cons_zero, List.set_cons_succ, i64_w, i32_w]; rfl
       refine pure_ (i := 6) (N := (some 109)) (v := ?_) (a' := ?_) #[true, true, true, true, true, true, true, false, false, false, false, false, false, false, false, false, false, false, false, false, false, false, false] rfl rfl (by kernel_rfl) (fun _ _ _ h => h) (Or.inl ⟨by rfl, ?_⟩) ?_ ?_
       rotate_left
       ·intro w'
        go_simp
        with_reducible rfl
       rotate_left
       ·simp only [Act.put, List.setIfInBounds_toArray, List.set_cons_zero, List.set_cons_succ, i64_w, i32_w]; rfl
       refine take_ (i := 7) (N := (some 110)) (v := ?_) (a' := ?_) #[true, true, true, true, true, true, true, true, false, false, false, false, false, false, false, false, false, false, false, false, false, false, false] rfl rfl (by kernel_rfl) (fun _ _ _ h => h) (Or.inl ⟨by rfl, ?_⟩) hHeld ?_ ?_
       rotate_left
       ·rintro w' ⟨s0, s1, s2, s3, s4, s5, s6, s7⟩
        go_simp
        with_reducible rfl
       rotate_left
       ·simp only [Act.put, List.setIfInBounds_toArray, List.set_cons_zero, List.set_cons_succ, i64_w, i32_w]; rfl
       refine take_ (i := 8) (N := (some 111)) (v := ?_) (a' := ?_) #[true, true, true, true, true, true, true, true, true, false, false, false, false, false, false, false, false, false, false, false, false, false, false] rfl rfl (by kernel_rfl) (fun _ _ _ h => h) (Or.inl ⟨by rfl, ?_⟩) hHeld ?_ ?_
       rotate_left
       ·rintro w' ⟨s0, s1, s2, s3, s4, s5, s6, s7⟩
        go_simp
        with_reducible rfl
       rotate_left
       ·simp only [Act.put, List.setIfInBounds_toArray, List.set_cons_zero, List.set_cons_succ, i64_w, i32_w]; rfl
       refine pure_ (i := 9) (N := (some 112)) (v := ?_) (a' := ?_) #[true, true, true, true, true, true, true, true, true, true, false, false, false, false, false, false, false, false, false, false, false, false, false] rfl rfl (by kernel_rfl) (fun _ _ _ h => h) (Or.inl ⟨by rfl, ?_⟩) ?_ ?_
       rotate_left
       ·intro w'
        go_simp
        with_reducible rfl
       rotate_left
       ·simp only [Act.put, List.setIfInBounds_toArray, List.set_cons_zero, List.set_cons_succ, i64_w, i32_w]; rfl
       refine take_ (i := 10) (N := (some 113)) (v := ?_) (a' := ?_) #[true, true, true, true, true, true, true, true, true, true, true, false, false, false, false, false, false, false, false, false, false, false, false] rfl rfl (by kernel_rfl) (fun _ _ _ h => h) (Or.inl ⟨by rfl, ?_⟩) hHeld ?_ ?_
       rotate_left
       ·rintro w' ⟨s0, s1, s2, s3, s4, s5, s6, s7⟩
        go_simp
        with_reducible rfl
       rotate_left
       ·simp only [Act.put, List.setIfInBounds_toArray, List.set_cons_zero, List.set_cons_succ, i64_w, i32_w]; rfl
       refine take_ (i := 11) (N := (some 114)) (v := ?_) (a' := ?_) #[true, true, true, true, true, true, true, true, true, true, true, true, false, false, false, false, false, false, false, false, false, false, false] rfl rfl (by kernel_rfl) (fun _ _ _ h => h) (Or.inl ⟨by rfl, ?_⟩) hHeld ?_ ?_
       rotate_left
       ·rintro w' ⟨s0, s1, s2, s3, s4, s5, s6, s7⟩
        go_simp
        with_reducible rfl
       rotate_left
       ·simp only [Act.put, List.setIfInBounds_toArray, List.set_cons_zero, List.set_cons_succ, i64_w, i32_w]; rfl
       refine take_ (i := 12) (N := (some 115)) (v := ?_) (a' := ?_) #[true, true, true, true, true, true, true, true, true, true, true, true, true, false, false, false, false, false, false, false, false, false, false] rfl rfl (by kernel_rfl) (fun _ _ _ h => h) (Or.inl ⟨by rfl, ?_⟩) hHeld ?_ ?_
       rotate_left
       ·rintro w' ⟨s0, s1, s2, s3, s4, s5, s6, s7⟩
        go_simp
        with_reducible rfl
       rotate_left
       ·simp only [Act.put, List.setIfInBounds_toArray, List.set_cons_zero, List.set_cons_succ, i64_w, i32_w]; rfl
       refine take_ (i := 13) (N := (some 116)) (v := ?_) (a' := ?_) #[true, true, true, true, true, true, true, true, true, true, true, true, true, true, false, false, false, false, false, false, false, false, false] rfl rfl (by kernel_rfl) (fun _ _ _ h => h) (Or.inl ⟨by rfl, ?_⟩) hHeld ?_ ?_
       rotate_left
       ·rintro w' ⟨s0, s1, s2, s3, s4, s5, s6, s7⟩
        go_simp
        with_reducible rfl
       rotate_left
       ·simp only [Act.put, List.setIfInBounds_toArray, List.set_cons_zero, List.set_cons_succ, i64_w, i32_w]; rfl
       refine take_ (i := 17) (N := (some 120)) (v := ?_) (a' := ?_) #[true, true, true, true, true, true, true, true, true, true, true, true, true, true, false, false, false, true, false, false, false, false, false] rfl rfl (by kernel_rfl) (fun _ _ _ h => h) (Or.inl ⟨by rfl, ?_⟩) hHeld ?_ ?_
       rotate_left
       ·rintro w' ⟨s0, s1, s2, s3, s4, s5, s6, s7⟩
        go_simp
        with_reducible rfl
       rotate_left
       ·simp only [Act.put, List.setIfInBounds_toArray, List.set_cons_zero, List.set_cons_succ, i64_w, i32_w]; rfl
       refine take_ (i := 18) (N := (some 121)) (v := ?_) (a' := ?_) #[true, true, true, true, true, true, true, true, true, true, true, true, true, true, false, false, false, true, true, false, false, false, false] rfl rfl (by kernel_rfl) (fun _ _ _ h => h) (Or.inl ⟨by rfl, ?_⟩) hHeld ?_ ?_
       rotate_left
       ·rintro w' ⟨s0, s1, s2, s3, s4, s5, s6, s7⟩
        go_simp
        with_reducible rfl
       rotate_left
       ·simp only [Act.put, List.setIfInBounds_toArray, List.set_cons_zero, List.set_cons_succ, i64_w, i32_w]; rfl
       refine take_ (i := 19) (N := (some 122)) (v := ?_) (a' := ?_) #[true, true, true, true, true, true, true, true, true, true, true, true, true, true, false, false, false, true, true, true, false, false, false] rfl rfl (by kernel_rfl) (fun _ _ _ h => h) (Or.inl ⟨by rfl, ?_⟩) hHeld ?_ ?_
       rotate_left
       ·rintro w' ⟨s0, s1, s2, s3, s4, s5, s6, s7⟩
        go_simp
        with_reducible rfl
       rotate_left
       ·simp only [Act.put, List.setIfInBounds_toArray, List.set_cons_zero, List.set_cons_succ, i64_w, i32_w]; rfl
       refine take_ (i := 20) (N := (some 123)) (v := ?_) (a' := ?_) #[true, true, true, true, true, true, true, true, true, true, true, true, true, true, false, false, false, true, true, true, true, false, false] rfl rfl (by kernel_rfl) (fun _ _ _ h => h) (Or.inl ⟨by rfl, ?_⟩) hHeld ?_ ?_
       rotate_left
       ·rintro w' ⟨s0, s1, s2, s3, s4, s5, s6, s7⟩
        go_simp
        with_reducible rfl
       rotate_left
       ·simp only [Act.put, List.setIfInBounds_toArray, List.set_cons_zero, List.set_cons_succ, i64_w, i32_w]; rfl
       refine one_ (i := 14) (N := (some 117)) #[true, true, true, true, true, true, true, true, true, true, true, true, true, true, true, false, false, true, true, true, true, false, false] rfl rfl (by kernel_rfl) (by decide) (fun K hK => ?_)
       refine goes_ Tryd.func62 (by kernel_rfl) rfl #[.agg #[.slice A st.length c, .slice A2 wg.length c2], .int .i64 (s : Int), .int .i64 v] (by rfl) rfl rfl (by (try simp only [List.map_toArray, List.map_cons, List.map_nil]); first | done | rfl) ?_
       refine (HLC.out _ HV3.out).mono ?_
       rintro e w4 ⟨rfl, hb⟩
       have HV4 : Aside0 (Up wr w4) := ⟨(HV3.out).then hb⟩
       clear hb; refine ⟨_, rfl, ?_⟩
       refine hK.out _ _ (HS4.out _ HV4.out) (fun hHeld => ?_)
       clear hK K; refine norm_ (a' := ?_) ?_ ?_
       rotate_left
       ·show Act.put _ (some 117) _ = _
        simp only [Act.put, List.setIfInBounds_toArray, List.set_cons_zero, List.set_cons_succ, i64_w, i32_w]
        rfl
       refine pure_ (i := 15) (N := (some 118)) (v := ?_) (a' := ?_) #[true, true, true, true, true, true, true, true, true, true, true, true, true, true, true, true, false, true, true, true, true, false, false] rfl rfl (by kernel_rfl) (fun _ _ _ h => h) (Or.inl ⟨by rfl, ?_⟩) ?_ ?_
       rotate_left
       ·intro w'
        go_simp
        with_reducible rfl
       rotate_left
       ·simp only [Act.put, List.setIfInBounds_toArray, List.set_cons_zero, List.set_cons_succ, i64_w, i32_w]; rfl
       refine pure_ (i := 16) (N := (some 119)) (v := ?_) (a' := ?_) #[true, true, true, true, true, true, true, true, true, true, true, true, true, true, true, true, true, true, true, true, true, false, false] rfl rfl (by kernel_rfl) (fun _ _ _ h => h) (Or.inl ⟨by rfl, ?_⟩) ?_ ?_
       rotate_left
       ·intro w'
        go_simp
        with_reducible rfl
       rotate_left
       ·simp only [Act.put, List.setIfInBounds_toArray, List.set_cons_zero, List.set_cons_succ, i64_w, i32_w]; rfl
       refine pure_ (i := 21) (N := (some 124)) (v := ?_) (a' := ?_) #[true, true, true, true, true, true, true, true, true, true, true, true, true, true, true, true, true, true, true, true, true, true, false] rfl rfl (by kernel_rfl) (fun _ _ _ h => h) (Or.inl ⟨by rfl, ?_⟩) ?_ ?_
       rotate_left
       ·intro w'
        go_simp
        with_reducible rfl
       rotate_left
       ·simp only [Act.put, List.setIfInBounds_toArray, List.set_cons_zero, List.set_cons_succ, i64_w, i32_w]; rfl
       refine pure_ (i := 22) (N := (some 125)) (v := ?_) (a' := ?_) #[true, true, true, true, true, true, true, true, true, true, true, true, true, true, true, true, true, true, true, true, true, true, true] rfl rfl (by kernel_rfl) (fun _ _ _ h => h) (Or.inl ⟨by rfl, ?_⟩) ?_ ?_
       rotate_left
       ·intro w'
        go_simp
        with_reducible rfl
       rotate_left
       ·simp only [Act.put, List.setIfInBounds_toArray, List.set_cons_zero, List.set_cons_succ, i64_w, i32_w]; rfl
       refine done_ (by kernel_rfl) ?_
       refine NoPanic.normal ?_
       by_cases hb : hiS (rdS st s) v - 1 < y3.lo
       ·have hzc := HJ.out.then HV4.out
        have hL9 : ((thL3 st wg s).set s ⟨v, x3.hi⟩).length = st.length + 1 := by rw [List.length_set, thL3_len]
        obtain ⟨hz0, hz1⟩ := hzc.i.cell s (by rw [hL9]; omega)
        rw [rd_set _ (by rw [thL3_len]; omega), if_pos rfl] at hz0 hz1
        have hfz := hzc.i.frozen; have hz3 := hzc.i.b3.cell
        have hwv : IntKind.i64.wrap (v + 1) = v + 1 := IntWalk.i64_in _ (by omega)
        gi_wp2_with fail
        have hpl := hzc.putLo s (by rw [hL9]; omega) (v + 1)
        rw [rd_set _ (by rw [thL3_len]; omega), if_pos rfl, List.set_set] at hpl
        have HPL := Aside0.mk hpl
        obtain ⟨hc0, _⟩ := hpl.i.cell s (by rw [List.length_set, thL3_len]; omega)
        rw [rd_set _ (by rw [thL3_len]; omega), if_pos rfl] at hc0
        have hM2 : (402 - loOf (w4.setCell ⟨g, s * 2, none⟩ (.int .i64 (v + 1))) ⟨g, s * 2, none⟩).toNat = (402 - (v + 1)).toNat := by unfold loOf; rw [hc0]
        have HM2 := Aside0.mk hM2
        clear hpl hc0 hM2 hz0 hz1 hfz hz3 hzc; obtain ⟨m, rfl⟩ : ∃ m', m = m' + 1 := ⟨m - 1, by have := HV.out; omega⟩
        go_roundw
        case rel => exact ⟨d + 1, m, by omega, by have := HV.out; omega, ⟨by rw [HT.out, thX_go (x := ⟨v, x3.hi⟩) (y := y3) (by simp only; omega) hb, show x3.lo + ((d + 1 : Nat) : Int) = v + 1 by have := HV.out; omega]⟩, ⟨by rw [show x3.lo + ((d + 1 : Nat) : Int) = v + 1 by have := HV.out; omega]; exact HPL.out⟩⟩
        case measure => rw [HM2.out, HMES.out]; omega
       ·have HL4 : Aside0 ((thL3 st wg s).set s ⟨v, x3.hi⟩ = thL4 st wg s) := ⟨by rw [thL4, thX, ← HX3.out, ← HY3.out, HT.out, thX_stop (x := ⟨v, x3.hi⟩) (y := y3) (by simp only; omega) (by simp only; omega)]⟩
        have HJ7 := Aside0.mk (HJ.out.then HV4.out)
        rw [HL4.out] at HJ7
        have hq3 := HJ7.out.i.b3.cell
        have hws1 : IntKind.i64.wrap ((s : Int) - 1) = (s : Int) - 1 := IntWalk.i64_in _ (by omega)
        gi_wp2_with fail
        clear hq3 hws1 HL4 HT HV HMES HS4 HJ HX3 HY3 hdec
        gi_loopw [10] (fun v10 W => ∃ p : Int, -1 ≤ p ∧ p < (s : Int) ∧ v10 = .int .i64 p ∧ Aside0 (ThJ w g cap #[.slice A st.length c, .slice A2 wg.length c2] s B8 M KC D ⟨0, 0⟩ (thG st (thL4 st wg s) s ((s : Int) - p).toNat) W)) (fun v10 _ => (intOf v10 + 1).toNat)
        case atStart => exact ⟨(s : Int) - 1, by omega, by omega, rfl, ⟨by rw [show ((s : Int) - ((s : Int) - 1)).toNat = 1 by omega, thG_one st _ s HS.out (thL4_len st wg s)]; exact HJ7.out⟩⟩
        case round =>
         clear HJ7; obtain ⟨p, hp1, hp2, rfl, HJ⟩ := hrel
         by_cases hpn : 0 ≤ p
         ·obtain ⟨p, rfl⟩ : ∃ q : Nat, p = (q : Int) := ⟨p.toNat, by omega⟩
          have hps : p < s := by omega
          rw [show ((s : Int) - (p : Int)).toNat = s - p by omega] at HJ
          obtain ⟨hstp, hcur⟩ := thG_succ st (thL4 st wg s) s p HS.out (thL4_len st wg s) hps
          have hgl : (thG st (thL4 st wg s) s (s - p)).length = st.length + 1 := by rw [thG_len, thL4_len]
          obtain ⟨ca, cb⟩ := HJ.out.i.cell p (by rw [hgl]; omega)
          obtain ⟨cc, cd⟩ := HJ.out.i.cell (p + 1) (by rw [hgl]; omega)
          have hso : okS (rdS (thG st (thL4 st wg s) s (s - p)) (p : Nat)) := by rw [hcur]; exact rd_ok (thL4_ok HOK.out s HS.out) p
          have hsb := HOK.out.at p (by omega) (by omega)
          have hpl : (p : Int) < (st.length : Int) := by omega
          have hpN : (p : Int) < (N : Int) := by have := HN.out; omega
          have hpN1 : (p : Int) + 1 < (N : Int) := by have := HN.out; omega
          have hp3 : (0 : Int) ≤ (p : Int) + 1 := by omega
          have hpt : ((p : Int) + 1).toNat = p + 1 := by omega
          have hwp : IntKind.i64.wrap ((p : Int) + 1) = (p : Int) + 1 := IntWalk.i64_in _ (by omega)
          have hwp2 : IntKind.i64.wrap ((p : Int) - 1) = (p : Int) - 1 := IntWalk.i64_in _ (by omega)
          have hq2 := HJ.out.i.b2.cell
          have HLT : Aside0 (p < s) := ⟨hps⟩
          generalize hgs : thG st (thL4 st wg s) s (s - p) = G at *
          obtain ⟨x1, hx1⟩ : ∃ x, x = rdS G (p : Nat) := ⟨_, rfl⟩
          obtain ⟨y1, hy1⟩ : ∃ y, y = rdS G ((p + 1 : Nat) : Int) := ⟨_, rfl⟩
          rw [← hx1] at ca cb hso hcur hstp
          rw [← hy1] at cc cd hstp
          have HSP := Aside0.mk hstp
          have HGL2 := Aside0.mk hgl
          have HCALL : Aside0 (∀ W : World, Up wr W → Calls Tryd.prog 103 #[.agg #[.slice A st.length c, .slice A2 wg.length c2], .int .i64 (p : Int), .agg #[.int .i64 x1.lo, .int .i64 x1.hi], .agg #[.int .i64 y1.lo, .int .i64 y1.hi]] W fun e w' => e = .returned (.agg #[.int .i64 (backS (rdS st (p : Nat)) x1 y1).lo, .int .i64 (backS (rdS st (p : Nat)) x1 y1).hi]) ∧ Up W w') := ⟨fun W hu => back_ A c st A2 c2 wg p x1 y1 W (C_up HR.out (HJ.out.i.up.then hu)) hc (C_up HR2.out (HJ.out.i.up.then hu)) hc2 hpn hpl hsb hso⟩
          have HS4 : Aside0 (∀ W' : World, Up wr W' → W'.cell? ⟨w.heap.size, 0, none⟩ = some (.slice A st.length c) ∧ W'.cell? ⟨w.heap.size, 1, none⟩ = some (.slice A2 wg.length c2) ∧ W'.cell? ⟨g, p * 2, none⟩ = some (.int .i64 x1.lo) ∧ W'.cell? ⟨g, p * 2 + 1, none⟩ = some (.int .i64 x1.hi) ∧ W'.cell? ⟨g, (p + 1) * 2, none⟩ = some (.int .i64 y1.lo) ∧ W'.cell? ⟨g, (p + 1) * 2 + 1, none⟩ = some (.int .i64 y1.hi)) := ⟨fun W' hu => ⟨hu.cell (hq2 0), hu.cell (hq2 1), hu.cell ca, hu.cell cb, hu.cell cc, hu.cell cd⟩⟩
          clear hstp hcur hgl hgs hx1 hy1 hsb hso ca cb cc cd hq2 hps; generalize backS (rdS st (p : Nat)) x1 y1 = z at *
          gi_wp2_with fail
          refine wpIn_wide.2 ?_
          refine wp_region_noPanic ?_
          refine start_ (n := 16) (S := fun W' => W'.cell? ⟨w.heap.size, 0, none⟩ = some (.slice A st.length c) ∧ W'.cell? ⟨w.heap.size, 1, none⟩ = some (.slice A2 wg.length c2) ∧ W'.cell? ⟨g, p * 2, none⟩ = some (.int .i64 x1.lo) ∧ W'.cell? ⟨g, p * 2 + 1, none⟩ = some (.int .i64 x1.hi) ∧ W'.cell? ⟨g, (p + 1) * 2, none⟩ = some (.int .i64 y1.lo) ∧ W'.cell? ⟨g, (p + 1) * 2 + 1, none⟩ = some (.int .i64 y1.hi)) (ds := [15]) #[false, false, false, false, false, false, false, false, false, false, false, false, false, false, false, false] (by kernel_rfl) rfl rfl (HS4.out _ ((Up.refl wr).drew)) (fun hHeld => ?_)
          refine pure_ (i := 0) (N := (some 140)) (v := ?_) (a' := ?_) #[true, false, false, false, false, false, false, false, false, false, false, false, false, false, false, false] rfl rfl (by kernel_rfl) (fun _ _ _ h => h) (Or.inl ⟨by rfl, ?_⟩) ?_ ?_
          rotate_left
          ·intro w'
           go_simp
           with_reducible rfl
          rotate_left
          ·simp only [Act.put, List.setIfInBounds_toArray, List.set_cons_zero, List.set_cons_succ, i64_w, i32_w]; rfl
          refine pure_ (i := 1) (N := (some 141)) (v := ?_) (a' := ?_) #[true, true, false, false, false, false, false, false, false, false, false, false, false, false, false, false] rfl rfl (by kernel_rfl) (fun _ _ _ h => h) (Or.inl ⟨by rfl, ?_⟩) ?_ ?_
          rotate_left
          ·intro w'
           go_simp
           with_reducible rfl
          rotate_left
          ·simp only [Act.put, List.setIfInBounds_toArray, List.set_cons_zero, List.set_cons_succ, i64_w, i32_w]; rfl
          refine take_ (i := 2) (N := (some 142)) (v := ?_) (a' := ?_) #[true, true, true, false, false, false, false, false, false, false, false, false, false, false, false, false] rfl rfl (by kernel_rfl) (fun _ _ _ h => h) (Or.inl ⟨by rfl, ?_⟩) hHeld ?_ ?_
          rotate_left
          ·rintro w' ⟨s0, s1, s2, s3, s4, s5⟩
           go_simp
           with_reducible rfl
          rotate_left
          ·simp only [Act.put, List.setIfInBounds_toArray, List.set_cons_zero, List.set_cons_succ, i64_w, i32_w]; rfl
          refine pure_ (i := 3) (N := (some 143)) (v := ?_) (a' := ?_) #[true, true, true, true, false, false, false, false, false, false, false, false, false, false, false, false] rfl rfl (by kernel_rfl) (fun _ _ _ h => h) (Or.inl ⟨by rfl, ?_⟩) ?_ ?_
          rotate_left
          ·intro w'
           go_simp
           with_reducible rfl
          rotate_left
          ·simp only [Act.put, List.setIfInBounds_toArray, List.set_cons_zero, List.set_cons_succ, i64_w, i32_w]; rfl
          refine pure_ (i := 4) (N := (some 144)) (v := ?_) (a' := ?_) #[true, true, true, true, true, false, false, false, false, false, false, false, false, false, false, false] rfl rfl (by kernel_rfl) (fun _ _ _ h => h) (Or.inl ⟨by rfl, ?_⟩) ?_ ?_
          rotate_left
          ·intro w'
           go_simp
           with_reducible rfl
          rotate_left
          ·simp only [Act.put, List.setIfInBounds_toArray, List.set_cons_zero, List.set_cons_succ, i64_w, i32_w]; rfl
          refine pure_ (i := 5) (N := (some 145)) (v := ?_) (a' := ?_) #[true, true, true, true, true, true, false, false, false, false, false, false, false, false, false, false] rfl rfl (by kernel_rfl) (fun _ _ _ h => h) (Or.inl ⟨by rfl, ?_⟩) ?_ ?_
          rotate_left
          ·intro w'
           go_simp
           with_reducible rfl
          rotate_left
          ·simp only [Act.put, List.setIfInBounds_toArray, List.set_cons_zero, List.set_cons_succ, i64_w, i32_w]; rfl
          refine take_ (i := 6) (N := (some 146)) (v := ?_) (a' := ?_) #[true, true, true, true, true, true, true, false, false, false, false, false, false, false, false, false] rfl rfl (by kernel_rfl) (fun _ _ _ h => h) (Or.inl ⟨by rfl, ?_⟩) hHeld ?_ ?_
          rotate_left
          ·rintro w' ⟨s0, s1, s2, s3, s4, s5⟩
           go_simp
           with_reducible rfl
          rotate_left
          ·simp only [Act.put, List.setIfInBounds_toArray, List.set_cons_zero, List.set_cons_succ, i64_w, i32_w]; rfl
          refine take_ (i := 7) (N := (some 147)) (v := ?_) (a' := ?_) #[true, true, true, true, true, true, true, true, false, false, false, false, false, false, false, false] rfl rfl (by kernel_rfl) (fun _ _ _ h => h) (Or.inl ⟨by rfl, ?_⟩) hHeld ?_ ?_
          rotate_left
          ·rintro w' ⟨s0, s1, s2, s3, s4, s5⟩
           go_simp
           with_reducible rfl
          rotate_left
          ·simp only [Act.put, List.setIfInBounds_toArray, List.set_cons_zero, List.set_cons_succ, i64_w, i32_w]; rfl
          refine pure_ (i := 8) (N := (some 148)) (v := ?_) (a' := ?_) #[true, true, true, true, true, true, true, true, true, false, false, false, false, false, false, false] rfl rfl (by kernel_rfl) (fun _ _ _ h => h) (Or.inl ⟨by rfl, ?_⟩) ?_ ?_
          rotate_left
          ·intro w'
           go_simp
           with_reducible rfl
          rotate_left
          ·simp only [Act.put, List.setIfInBounds_toArray, List.set_cons_zero, List.set_cons_succ, i64_w, i32_w]; rfl
          refine pure_ (i := 9) (N := (some 149)) (v := ?_) (a' := ?_) #[true, true, true, true, true, true, true, true, true, true, false, false, false, false, false, false] rfl rfl (by kernel_rfl) (fun _ _ _ h => h) (Or.inl ⟨by rfl, ?_⟩) ?_ ?_
          rotate_left
          ·intro w'
           go_simp
           with_reducible rfl
          rotate_left
          ·simp only [Act.put, List.setIfInBounds_toArray, List.set_cons_zero, List.set_cons_succ, i64_w, i32_w]; rfl
          refine pure_ (i := 10) (N := (some 150)) (v := ?_) (a' := ?_) #[true, true, true, true, true, true, true, true, true, true, true, false, false, false, false, false] rfl rfl (by kernel_rfl) (fun _ _ _ h => h) (Or.inl ⟨by rfl, ?_⟩) ?_ ?_
          rotate_left
          ·intro w'
           go_simp
           with_reducible rfl
          rotate_left
          ·simp only [Act.put, List.setIfInBounds_toArray, List.set_cons_zero, List.set_cons_succ, i64_w, i32_w]; rfl
          refine take_ (i := 11) (N := (some 151)) (v := ?_) (a' := ?_) #[true, true, true, true, true, true, true, true, true, true, true, true, false, false, false, false] rfl rfl (by kernel_rfl) (fun _ _ _ h => h) (Or.inl ⟨by rfl, ?_⟩) hHeld ?_ ?_
          rotate_left
          ·rintro w' ⟨s0, s1, s2, s3, s4, s5⟩
           go_simp
           with_reducible rfl
          rotate_left
          ·simp only [Act.put, List.setIfInBounds_toArray, List.set_cons_zero, List.set_cons_succ, i64_w, i32_w]; rfl
          refine take_ (i := 12) (N := (some 152)) (v := ?_) (a' := ?_) #[true, true, true, true, true, true, true, true, true, true, true, true, true, false, false, false] rfl rfl (by kernel_rfl) (fun _ _ _ h => h) (Or.inl ⟨by rfl, ?_⟩) hHeld ?_ ?_
          rotate_left
          ·rintro w' ⟨s0, s1, s2, s3, s4, s5⟩
           go_simp
           with_reducible rfl
          rotate_left
          ·simp only [Act.put, List.setIfInBounds_toArray, List.set_cons_zero, List.set_cons_succ, i64_w, i32_w]; rfl
          refine one_ (i := 13) (N := (some 153)) #[true, true, true, true, true, true, true, true, true, true, true, true, true, true, false, false] rfl rfl (by kernel_rfl) (by decide) (fun K hK => ?_)
          refine goes_ Tryd.func103 (by kernel_rfl) rfl #[.agg #[.slice A st.length c, .slice A2 wg.length c2], .int .i64 (p : Int), .agg #[.int .i64 x1.lo, .int .i64 x1.hi], .agg #[.int .i64 y1.lo, .int .i64 y1.hi]] (by rfl) rfl rfl (by (try simp only [List.map_toArray, List.map_cons, List.map_nil]); first | done | rfl) ?_
          refine (HCALL.out _ ((Up.refl wr).drew)).mono ?_
          rintro e w3 ⟨rfl, hb⟩
          have HV3 : Aside0 (Up wr w3) := ⟨((Up.refl wr).drew).then hb⟩
          clear hb; refine ⟨_, rfl, ?_⟩
          refine hK.out _ _ (HS4.out _ HV3.out) (fun hHeld => ?_)
          clear hK K; refine norm_ (a' := ?_) ?_ ?_
          rotate_left
          ·show Act.put _ (some 153) _ = _
           simp only [Act.put, List.setIfInBounds_toArray, List.set_cons_zero, List.set_cons_succ, i64_w, i32_w]
           rfl
          refine one_ (i := 14) (N := (some 154)) #[true, true, true, true, true, true, true, true, true, true, true, true, true, true, true, false] rfl rfl (by kernel_rfl) (by decide) (fun K hK => ?_)
          refine value_ (v := ?_) (w1 := w3) (by rfl) rfl ?_ ?_
          rotate_left
          ·go_simp
           rfl
          refine hK.out _ _ hHeld (fun hHeld => ?_)
          clear hK K; refine norm_ (a' := ?_) ?_ ?_
          rotate_left
          ·show Act.put _ (some 154) _ = _
           simp only [Act.put, List.setIfInBounds_toArray, List.set_cons_zero, List.set_cons_succ, i64_w, i32_w]
           rfl
          refine last_ (i := 15) (N := none) #[true, true, true, true, true, true, true, true, true, true, true, true, true, true, true, true] rfl rfl (by kernel_rfl) (by decide) (fun K hK => ?_)
          have hyz := HJ.out.then HV3.out
          obtain ⟨hz0, hz1⟩ := hyz.i.cell p (by rw [HGL2.out]; have := HLT.out; have := HS.out; omega)
          have hfz := hyz.i.frozen
          refine skip_ (w1 := ?_) (by rfl) rfl ?_ ?_
          rotate_left
          ·go_simp
           rfl
          refine hK.out _ _ ?_
          clear hK K hz0 hz1 hfz; refine done_ (by kernel_rfl) ?_
          refine NoPanic.normal ?_
          have hput := hyz.put p (by rw [HGL2.out]; have := HLT.out; have := HS.out; omega) z
          rw [← HSP.out] at hput
          have HPUT := Aside0.mk hput
          clear hput hyz
          gi_wp2_with fail
          go_roundw
          case rel => exact ⟨(p : Int) - 1, by omega, by have := HLT.out; omega, rfl, ⟨by rw [show ((s : Int) - ((p : Int) - 1)).toNat = s - p + 1 by have := HLT.out; omega]; exact HPUT.out⟩⟩
          case measure => simp [intOf]
         ·obtain rfl : p = -1 := by omega
          rw [show ((s : Int) - (-1)).toNat = s + 1 by omega] at HJ
          have HJ8 : Aside0 (ThJ w g cap #[.slice A st.length c, .slice A2 wg.length c2] s B8 M KC D ⟨0, 0⟩ (thL5 st wg s) wr) := ⟨HJ.out⟩
          clear HJ; have hcl := containsNone (some ⟨g, 0, none⟩) cap (thL5 st wg s) wr (HJ8.out.C (by rw [thL5_len]; omega)) HJ8.out.i.capL
          rw [thL5_len, ← HN.out] at hcl
          gi_wp2_with fail
          refine ⟨trivial, (callsIn_wide.2 hcl).mono ?_⟩
          clear hcl; rintro e W6 ⟨rfl, hu6⟩
          have HJ9 := Aside0.mk (HJ8.out.then hu6)
          clear hu6 HJ8
          cases h5 : (thL5 st wg s).any noneB
          case true =>
           have hq5 := HJ9.out.i.b5.cell; have hf5 := HJ9.out.i.b5.frozen
           have HK0 : Aside0 (thOk st wg s = false) := ⟨by unfold thOk; rw [h5]; simp⟩
           clear h5
           gi_wp2_with fail
           have HJ10 := Aside0.mk (HJ9.out.amt ⟨0, 0⟩)
           refine ⟨by simp, .inl ⟨_, _, rfl, run_takeDeferred HJ10.out.d, ?_⟩⟩
           have hfin := HJ10.out.fin; have hq5 := hfin.b5.cell
           refine ⟨.tuple #[.slice none 0 0, .agg #[.int .i64 0, .int .i64 0], .bool false], ?_, .slice none 0 0, ?_, ?_, hfin.up⟩
           ·simp [results, Tryd.f72, go_sem, hq5]
           ·simp [thR, HK0.out]
           ·rw [thL, HK0.out]; exact ⟨rfl, .inl ⟨rfl, rfl⟩⟩
          case false =>
           have HF5 := Aside0.mk (any_full (thL5_ok HOK.out s HS.out) h5)
           have HK1 : Aside0 (thOk st wg s = true) := ⟨by unfold thOk; rw [h5, HN3.out]; rfl⟩
           have hfx := rd_full HF5.out s (by rw [thL5_len]; omega)
           have hfy := rd_full HF5.out (s + 1) (by rw [thL5_len]; omega)
           obtain ⟨cx0, cx1⟩ := HJ9.out.i.cell s (by rw [thL5_len]; omega)
           obtain ⟨cy0, cy1⟩ := HJ9.out.i.cell (s + 1) (by rw [thL5_len]; omega)
           clear h5; obtain ⟨x5, hx5⟩ : ∃ x, x = rdS (thL5 st wg s) s := ⟨_, rfl⟩
           obtain ⟨y5, hy5⟩ : ∃ y, y = rdS (thL5 st wg s) ((s + 1 : Nat) : Int) := ⟨_, rfl⟩
           rw [← hx5] at hfx cx0 cx1
           rw [← hy5] at hfy cy0 cy1
           have HX5 := Aside0.mk hx5
           have HY5 := Aside0.mk hy5
           obtain ⟨hfx0, hfx1, hfx2⟩ := hfx
           obtain ⟨hfy0, hfy1, hfy2⟩ := hfy
           clear hx5 hy5; have hq2 := HJ9.out.i.b2.cell
           have hq3 := HJ9.out.i.b3.cell; have hq8 := HJ9.out.b8.cell
           have HLC : Aside0 (∀ W : World, Up W6 W → Calls Tryd.prog 62 #[.agg #[.slice A st.length c, .slice A2 wg.length c2], .int .i64 (s : Int), .int .i64 x5.hi] W fun e w' => e = .returned (.agg #[.int .i64 (loS (rdS st s) x5.hi), .int .i64 (hiS (rdS st s) x5.hi)]) ∧ Up W w') := ⟨fun W hu => left_ A c st A2 c2 wg s x5.hi W (C_up HR.out (HJ9.out.i.up.then hu)) hc (C_up HR2.out (HJ9.out.i.up.then hu)) hc2 hs0 hs1 HST.out ⟨by omega, hfx2⟩⟩
           have HS4 : Aside0 (∀ W' : World, Up W6 W' → W'.cell? ⟨w.heap.size, 0, none⟩ = some (.slice A st.length c) ∧ W'.cell? ⟨w.heap.size, 1, none⟩ = some (.slice A2 wg.length c2) ∧ W'.cell? ⟨w.heap.size + 1, 0, none⟩ = some (.int .i64 (s : Int)) ∧ W'.cell? ⟨B8, 0, none⟩ = some (.slice (some ⟨g, (s + 1) * 2, none⟩) M KC) ∧ W'.cell? ⟨g, s * 2 + 1, none⟩ = some (.int .i64 x5.hi) ∧ W'.cell? ⟨g, (s + 1) * 2, none⟩ = some (.int .i64 y5.lo)) := ⟨fun W' hu => ⟨hu.cell (hq2 0), hu.cell (hq2 1), hu.cell (hq3 0), hu.cell (hq8 0), hu.cell cx1, hu.cell cy0⟩⟩
           have hwq : IntKind.i64.wrap (hiS (rdS st s) x5.hi - y5.lo) = hiS (rdS st s) x5.hi - y5.lo := IntWalk.i64_in _ (by have := hiS_le HST.out (w := x5.hi) (by omega); have := loS_hiS HST.out (w := x5.hi) (by omega); have := loS_nn HST.out (w := x5.hi) (by omega); omega)
           have hfd1 := fld1
           clear hq2 hq3 hq8 cx0 cx1 cy0 cy1
           gi_wp2_with fail
           refine wpIn_wide.2 ?_
           refine wp_region_noPanic ?_
           refine start_ (n := 16) (S := fun W' => W'.cell? ⟨w.heap.size, 0, none⟩ = some (.slice A st.length c) ∧ W'.cell? ⟨w.heap.size, 1, none⟩ = some (.slice A2 wg.length c2) ∧ W'.cell? ⟨w.heap.size + 1, 0, none⟩ = some (.int .i64 (s : Int)) ∧ W'.cell? ⟨B8, 0, none⟩ = some (.slice (some ⟨g, (s + 1) * 2, none⟩) M KC) ∧ W'.cell? ⟨g, s * 2 + 1, none⟩ = some (.int .i64 x5.hi) ∧ W'.cell? ⟨g, (s + 1) * 2, none⟩ = some (.int .i64 y5.lo)) (ds := [15]) #[false, false, false, false, false, false, false, false, false, false, false, false, false, false, false, false] (by kernel_rfl) rfl rfl (HS4.out _ ((Up.refl W6).drew)) (fun hHeld => ?_)
           refine take_ (i := 0) (N := (some 158)) (v := ?_) (a' := ?_) #[true, false, false, false, false, false, false, false, false, false, false, false, false, false, false, false] rfl rfl (by kernel_rfl) (fun _ _ _ h => h) (Or.inl ⟨by rfl, ?_⟩) hHeld ?_ ?_
           rotate_left
           ·rintro w' ⟨s0, s1, s2, s3, s4, s5⟩
            go_simp
            with_reducible rfl
           rotate_left
           ·simp only [Act.put, List.setIfInBounds_toArray, List.set_cons_zero, List.set_cons_succ, i64_w, i32_w]; rfl
           refine take_ (i := 1) (N := (some 159)) (v := ?_) (a' := ?_) #[true, true, false, false, false, false, false, false, false, false, false, false, false, false, false, false] rfl rfl (by kernel_rfl) (fun _ _ _ h => h) (Or.inl ⟨by rfl, ?_⟩) hHeld ?_ ?_
           rotate_left
           ·rintro w' ⟨s0, s1, s2, s3, s4, s5⟩
            go_simp
            with_reducible rfl
           rotate_left
           ·simp only [Act.put, List.setIfInBounds_toArray, List.set_cons_zero, List.set_cons_succ, i64_w, i32_w]; rfl
           refine pure_ (i := 2) (N := (some 160)) (v := ?_) (a' := ?_) #[true, true, true, false, false, false, false, false, false, false, false, false, false, false, false, false] rfl rfl (by kernel_rfl) (fun _ _ _ h => h) (Or.inl ⟨by rfl, ?_⟩) ?_ ?_
           rotate_left
           ·intro w'
            go_simp
            with_reducible rfl
           rotate_left
           ·simp only [Act.put, List.setIfInBounds_toArray, List.set_cons_zero, List.set_cons_succ, i64_w, i32_w]; rfl
           refine take_ (i := 3) (N := (some 161)) (v := ?_) (a' := ?_) #[true, true, true, true, false, false, false, false, false, false, false, false, false, false, false, false] rfl rfl (by kernel_rfl) (fun _ _ _ h => h) (Or.inl ⟨by rfl, ?_⟩) hHeld ?_ ?_
           rotate_left
           ·rintro w' ⟨s0, s1, s2, s3, s4, s5⟩
            go_simp
            with_reducible rfl
           rotate_left
           ·simp only [Act.put, List.setIfInBounds_toArray, List.set_cons_zero, List.set_cons_succ, i64_w, i32_w]; rfl
           refine take_ (i := 4) (N := (some 162)) (v := ?_) (a' := ?_) #[true, true, true, true, true, false, false, false, false, false, false, false, false, false, false, false] rfl rfl (by kernel_rfl) (fun _ _ _ h => h) (Or.inl ⟨by rfl, ?_⟩) hHeld ?_ ?_
           rotate_left
           ·rintro w' ⟨s0, s1, s2, s3, s4, s5⟩
            go_simp
            with_reducible rfl
           rotate_left
           ·simp only [Act.put, List.setIfInBounds_toArray, List.set_cons_zero, List.set_cons_succ, i64_w, i32_w]; rfl
           refine take_ (i := 5) (N := (some 163)) (v := ?_) (a' := ?_) #[true, true, true, true, true, true, false, false, false, false, false, false, false, false, false, false] rfl rfl (by kernel_rfl) (fun _ _ _ h => h) (Or.inl ⟨by rfl, ?_⟩) hHeld ?_ ?_
           rotate_left
           ·rintro w' ⟨s0, s1, s2, s3, s4, s5⟩
            go_simp
            with_reducible rfl
           rotate_left
           ·simp only [Act.put, List.setIfInBounds_toArray, List.set_cons_zero, List.set_cons_succ, i64_w, i32_w]; rfl
           refine take_ (i := 6) (N := (some 164)) (v := ?_) (a' := ?_) #[true, true, true, true, true, true, true, false, false, false, false, false, false, false, false, false] rfl rfl (by kernel_rfl) (fun _ _ _ h => h) (Or.inl ⟨by rfl, ?_⟩) hHeld ?_ ?_
           rotate_left
           ·rintro w' ⟨s0, s1, s2, s3, s4, s5⟩
            go_simp
            with_reducible rfl
           rotate_left
           ·simp only [Act.put, List.setIfInBounds_toArray, List.set_cons_zero, List.set_cons_succ, i64_w, i32_w]; rfl
           refine take_ (i := 9) (N := (some 167)) (v := ?_) (a' := ?_) #[true, true, true, true, true, true, true, false, false, true, false, false, false, false, false, false] rfl rfl (by kernel_rfl) (fun _ _ _ h => h) (Or.inl ⟨by rfl, ?_⟩) hHeld ?_ ?_
           rotate_left
           ·rintro w' ⟨s0, s1, s2, s3, s4, s5⟩
            go_simp
            with_reducible rfl
           rotate_left
           ·simp only [Act.put, List.setIfInBounds_toArray, List.set_cons_zero, List.set_cons_succ, i64_w, i32_w]; rfl
           refine take_ (i := 10) (N := (some 168)) (v := ?_) (a' := ?_) #[true, true, true, true, true, true, true, false, false, true, true, false, false, false, false, false] rfl rfl (by kernel_rfl) (fun _ _ _ h => h) (Or.inl ⟨by rfl, ?_⟩) hHeld ?_ ?_
           rotate_left
           ·rintro w' ⟨s0, s1, s2, s3, s4, s5⟩
            go_simp
            with_reducible rfl
           rotate_left
           ·simp only [Act.put, List.setIfInBounds_toArray, List.set_cons_zero, List.set_cons_succ, i64_w, i32_w]; rfl
           refine take_ (i := 11) (N := (some 169)) (v := ?_) (a' := ?_) #[true, true, true, true, true, true, true, false, false, true, true, true, false, false, false, false] rfl rfl (by kernel_rfl) (fun _ _ _ h => h) (Or.inl ⟨by rfl, ?_⟩) hHeld ?_ ?_
           rotate_left
           ·rintro w' ⟨s0, s1, s2, s3, s4, s5⟩
            go_simp
            with_reducible rfl
           rotate_left
           ·simp only [Act.put, List.setIfInBounds_toArray, List.set_cons_zero, List.set_cons_succ, i64_w, i32_w]; rfl
           refine take_ (i := 12) (N := (some 170)) (v := ?_) (a' := ?_) #[true, true, true, true, true, true, true, false, false, true, true, true, true, false, false, false] rfl rfl (by kernel_rfl) (fun _ _ _ h => h) (Or.inl ⟨by rfl, ?_⟩) hHeld ?_ ?_
           rotate_left
           ·rintro w' ⟨s0, s1, s2, s3, s4, s5⟩
            go_simp
            with_reducible rfl
           rotate_left
           ·simp only [Act.put, List.setIfInBounds_toArray, List.set_cons_zero, List.set_cons_succ, i64_w, i32_w]; rfl
           refine one_ (i := 7) (N := (some 165)) #[true, true, true, true, true, true, true, true, false, true, true, true, true, false, false, false] rfl rfl (by kernel_rfl) (by decide) (fun K hK => ?_)
           refine goes_ Tryd.func62 (by kernel_rfl) rfl #[.agg #[.slice A st.length c, .slice A2 wg.length c2], .int .i64 (s : Int), .int .i64 x5.hi] (by rfl) rfl rfl (by (try simp only [List.map_toArray, List.map_cons, List.map_nil]); first | done | rfl) ?_
           refine (HLC.out _ ((Up.refl W6).drew)).mono ?_
           rintro e w7 ⟨rfl, hb⟩
           have HV7 : Aside0 (Up W6 w7) := ⟨((Up.refl W6).drew).then hb⟩
           clear hb; refine ⟨_, rfl, ?_⟩
           refine hK.out _ _ (HS4.out _ HV7.out) (fun hHeld => ?_)
           clear hK K; refine norm_ (a' := ?_) ?_ ?_
           rotate_left
           ·show Act.put _ (some 165) _ = _
            simp only [Act.put, List.setIfInBounds_toArray, List.set_cons_zero, List.set_cons_succ, i64_w, i32_w]
            rfl
           refine pure_ (i := 8) (N := (some 166)) (v := ?_) (a' := ?_) #[true, true, true, true, true, true, true, true, true, true, true, true, true, false, false, false] rfl rfl (by kernel_rfl) (fun _ _ _ h => h) (Or.inl ⟨by rfl, ?_⟩) ?_ ?_
           rotate_left
           ·intro w'
            go_simp
            with_reducible rfl
           rotate_left
           ·simp only [Act.put, List.setIfInBounds_toArray, List.set_cons_zero, List.set_cons_succ, i64_w, i32_w]; rfl
           refine pure_ (i := 13) (N := (some 171)) (v := ?_) (a' := ?_) #[true, true, true, true, true, true, true, true, true, true, true, true, true, true, false, false] rfl rfl (by kernel_rfl) (fun _ _ _ h => h) (Or.inl ⟨by rfl, ?_⟩) ?_ ?_
           rotate_left
           ·intro w'
            go_simp
            with_reducible rfl
           rotate_left
           ·simp only [Act.put, List.setIfInBounds_toArray, List.set_cons_zero, List.set_cons_succ, i64_w, i32_w]; rfl
           refine pure_ (i := 14) (N := (some 172)) (v := ?_) (a' := ?_) #[true, true, true, true, true, true, true, true, true, true, true, true, true, true, true, false] rfl rfl (by kernel_rfl) (fun _ _ _ h => h) (Or.inl ⟨by rfl, ?_⟩) ?_ ?_
           rotate_left
           ·intro w'
            go_simp
            with_reducible rfl
           rotate_left
           ·simp only [Act.put, List.setIfInBounds_toArray, List.set_cons_zero, List.set_cons_succ, i64_w, i32_w]; rfl
           refine last_ (i := 15) (N := none) #[true, true, true, true, true, true, true, true, true, true, true, true, true, true, true, true] rfl rfl (by kernel_rfl) (by decide) (fun K hK => ?_)
           have hyz := HJ9.out.then HV7.out
           have hz0 := hyz.i.b5.cell; have hfz := hyz.i.b5.frozen
           refine skip_ (w1 := ?_) (by rfl) rfl ?_ ?_
           rotate_left
           ·go_simp
            rfl
           refine hK.out _ _ ?_
           clear hK K hz0 hfz; refine done_ (by kernel_rfl) ?_
           refine NoPanic.normal ?_
           have HJA := Aside0.mk (hyz.amt ⟨400, hiS (rdS st s) x5.hi - y5.lo⟩)
           clear hyz HS4 HLC hwq HV7 HJ9; generalize hWa : ((w7.setCell ⟨w.heap.size + 1 + 1, 0, none⟩ (.int .i64 400)).setCell ⟨w.heap.size + 1 + 1, 1, none⟩ (.int .i64 (hiS (rdS st s) x5.hi - y5.lo))) = W8 at *
           clear hWa; have hq3 := HJA.out.i.b3.cell
           obtain ⟨cx0, cx1⟩ := HJA.out.i.cell s (by rw [thL5_len]; omega)
           rw [← HX5.out] at cx0 cx1
           gi_wp2_with fail
           clear hq3 cx0 cx1
           gi_loopw [11] (fun v11 W => ∃ j : Nat, x5.lo + (j : Int) ≤ x5.hi + 1 ∧ v11 = .int .i64 (x5.lo + (j : Int)) ∧ Aside0 (ThJ w g cap #[.slice A st.length c, .slice A2 wg.length c2] s B8 M KC D ⟨thN (rdS st s) x5 y5 j, hiS (rdS st s) x5.hi - y5.lo⟩ (thL5 st wg s) W)) (fun v11 _ => (x5.hi + 1 - intOf v11).toNat)
           case atStart => exact ⟨0, by omega, by simp, HJA⟩
           case round =>
            clear HJA; obtain ⟨j, hj, rfl, HJ⟩ := hrel
            obtain ⟨v5, hv5⟩ : ∃ x, x = x5.lo + (j : Int) := ⟨_, rfl⟩
            rw [← hv5] at hj
            rw [← hv5]
            have HV5 := Aside0.mk hv5
            have hv50 : 0 ≤ v5 := by omega
            clear hv5; have hq2 := HJ.out.i.b2.cell
            have hq3 := HJ.out.i.b3.cell; have hq8 := HJ.out.b8.cell
            obtain ⟨cx0, cx1⟩ := HJ.out.i.cell s (by rw [thL5_len]; omega)
            rw [← HX5.out] at cx0 cx1
            by_cases hle : v5 ≤ x5.hi
            ·have hv54 : v5 ≤ 400 := by omega
             have hp0 := loS_nn HST.out hv50
             have hpq := loS_hiS HST.out hv50
             have hqv := hiS_le HST.out hv50
             have hcl := left_ A c st A2 c2 wg s v5 wr (C_up HR.out HJ.out.i.up) hc (C_up HR2.out HJ.out.i.up) hc2 hs0 hs1 HST.out ⟨hv50, hv54⟩
             have HST5 : Aside0 (thN (rdS st s) x5 y5 (j + 1) = min (thN (rdS st s) x5 y5 j) (max 1 (loS (rdS st s) v5 - min y5.hi (hiS (rdS st s) v5 - 1)))) := ⟨by rw [thN_succ, ← HV5.out]; rfl⟩
             gi_wp2_with fail
             refine ⟨trivial, (callsIn_wide.2 hcl).mono ?_⟩
             clear hcl; rintro e W9 ⟨rfl, hu9⟩
             generalize loS (rdS st s) v5 = lp at *
             generalize hiS (rdS st s) v5 = lq at *
             generalize thN (rdS st s) x5 y5 j = am at *
             have HJ10 := Aside0.mk ((HJ.out.then hu9).then ((Up.refl W9).alloc (.cells #[.int .i64 lp, .int .i64 lq] 100)))
             have HB12 : Aside0 (Bx (W9.alloc (.cells #[.int .i64 lp, .int .i64 lq] 100)) W9.heap.size #[.int .i64 lp, .int .i64 lq] 100) := ⟨Bx.new W9 _ _⟩
             clear hu9 hq2 hq3 hq8 cx0 cx1 HJ
             gi_wp2_with fail
             obtain ⟨B12, hB12⟩ : ∃ B, B = W9.heap.size := ⟨_, rfl⟩
             obtain ⟨W10, hW10⟩ : ∃ W, W = W9.alloc (.cells #[.int .i64 lp, .int .i64 lq] 100) := ⟨_, rfl⟩
             rw [← hW10] at HJ10 HB12
             rw [← hB12] at HB12
             simp only [← hW10, ← hB12]
             clear hW10 hB12; have hq5 := HJ10.out.i.b5.cell
             have hqc := HB12.out.cell; have hq8 := HJ10.out.b8.cell
             obtain ⟨cy0, cy1⟩ := HJ10.out.i.cell (s + 1) (by rw [thL5_len]; omega)
             rw [← HY5.out] at cy0 cy1
             have hwl : IntKind.i64.wrap (lq - 1) = lq - 1 := IntWalk.i64_in _ (by omega)
             have hwm : IntKind.i64.wrap (lp - min y5.hi (lq - 1)) = lp - min y5.hi (lq - 1) := IntWalk.i64_in _ (by omega)
             have hwv : IntKind.i64.wrap (v5 + 1) = v5 + 1 := IntWalk.i64_in _ (by omega)
             refine wpIn_wide.2 ?_
             refine wp_region_noPanic ?_
             refine start_ (n := 17) (S := fun W' => W'.cell? ⟨w.heap.size + 1 + 1, 0, none⟩ = some (.int .i64 am) ∧ W'.cell? ⟨B12, 0, none⟩ = some (.int .i64 lp) ∧ W'.cell? ⟨B12, 1, none⟩ = some (.int .i64 lq) ∧ W'.cell? ⟨B8, 0, none⟩ = some (.slice (some ⟨g, (s + 1) * 2, none⟩) M KC) ∧ W'.cell? ⟨g, (s + 1) * 2 + 1, none⟩ = some (.int .i64 y5.hi)) (ds := [16]) #[false, false, false, false, false, false, false, false, false, false, false, false, false, false, false, false, false] (by kernel_rfl) rfl rfl ⟨hq5 0, hqc 0, hqc 1, hq8 0, cy1⟩ (fun hHeld => ?_)
             refine take_ (i := 0) (N := (some 191)) (v := ?_) (a' := ?_) #[true, false, false, false, false, false, false, false, false, false, false, false, false, false, false, false, false] rfl rfl (by kernel_rfl) (fun _ _ _ h => h) (Or.inl ⟨by rfl, ?_⟩) hHeld ?_ ?_
             rotate_left
             ·rintro w' ⟨s0, s1, s2, s3, s4⟩
              go_simp
              with_reducible rfl
             rotate_left
             ·simp only [Act.put, List.setIfInBounds_toArray, List.set_cons_zero, List.set_cons_succ, i64_w, i32_w]; rfl
             refine take_ (i := 1) (N := (some 192)) (v := ?_) (a' := ?_) #[true, true, false, false, false, false, false, false, false, false, false, false, false, false, false, false, false] rfl rfl (by kernel_rfl) (fun _ _ _ h => h) (Or.inl ⟨by rfl, ?_⟩) hHeld ?_ ?_
             rotate_left
             ·rintro w' ⟨s0, s1, s2, s3, s4⟩
              go_simp
              with_reducible rfl
             rotate_left
             ·simp only [Act.put, List.setIfInBounds_toArray, List.set_cons_zero, List.set_cons_succ, i64_w, i32_w]; rfl
             refine take_ (i := 2) (N := (some 193)) (v := ?_) (a' := ?_) #[true, true, true, false, false, false, false, false, false, false, false, false, false, false, false, false, false] rfl rfl (by kernel_rfl) (fun _ _ _ h => h) (Or.inl ⟨by rfl, ?_⟩) hHeld ?_ ?_
             rotate_left
             ·rintro w' ⟨s0, s1, s2, s3, s4⟩
              go_simp
              with_reducible rfl
             rotate_left
             ·simp only [Act.put, List.setIfInBounds_toArray, List.set_cons_zero, List.set_cons_succ, i64_w, i32_w]; rfl
             refine take_ (i := 3) (N := (some 194)) (v := ?_) (a' := ?_) #[true, true, true, true, false, false, false, false, false, false, false, false, false, false, false, false, false] rfl rfl (by kernel_rfl) (fun _ _ _ h => h) (Or.inl ⟨by rfl, ?_⟩) hHeld ?_ ?_
             rotate_left
             ·rintro w' ⟨s0, s1, s2, s3, s4⟩
              go_simp
              with_reducible rfl
             rotate_left
             ·simp only [Act.put, List.setIfInBounds_toArray, List.set_cons_zero, List.set_cons_succ, i64_w, i32_w]; rfl
             refine take_ (i := 4) (N := (some 195)) (v := ?_) (a' := ?_) #[true, true, true, true, true, false, false, false, false, false, false, false, false, false, false, false, false] rfl rfl (by kernel_rfl) (fun _ _ _ h => h) (Or.inl ⟨by rfl, ?_⟩) hHeld ?_ ?_
             rotate_left
             ·rintro w' ⟨s0, s1, s2, s3, s4⟩
              go_simp
              with_reducible rfl
             rotate_left
             ·simp only [Act.put, List.setIfInBounds_toArray, List.set_cons_zero, List.set_cons_succ, i64_w, i32_w]; rfl
             refine take_ (i := 5) (N := (some 196)) (v := ?_) (a' := ?_) #[true, true, true, true, true, true, false, false, false, false, false, false, false, false, false, false, false] rfl rfl (by kernel_rfl) (fun _ _ _ h => h) (Or.inl ⟨by rfl, ?_⟩) hHeld ?_ ?_
             rotate_left
             ·rintro w' ⟨s0, s1, s2, s3, s4⟩
              go_simp
              with_reducible rfl
             rotate_left
             ·simp only [Act.put, List.setIfInBounds_toArray, List.set_cons_zero, List.set_cons_succ, i64_w, i32_w]; rfl
             refine take_ (i := 6) (N := (some 197)) (v := ?_) (a' := ?_) #[true, true, true, true, true, true, true, false, false, false, false, false, false, false, false, false, false] rfl rfl (by kernel_rfl) (fun _ _ _ h => h) (Or.inl ⟨by rfl, ?_⟩) hHeld ?_ ?_
             rotate_left
             ·rintro w' ⟨s0, s1, s2, s3, s4⟩
              go_simp
              with_reducible rfl
             rotate_left
             ·simp only [Act.put, List.setIfInBounds_toArray, List.set_cons_zero, List.set_cons_succ, i64_w, i32_w]; rfl
             refine take_ (i := 7) (N := (some 198)) (v := ?_) (a' := ?_) #[true, true, true, true, true, true, true, true, false, false, false, false, false, false, false, false, false] rfl rfl (by kernel_rfl) (fun _ _ _ h => h) (Or.inl ⟨by rfl, ?_⟩) hHeld ?_ ?_
             rotate_left
             ·rintro w' ⟨s0, s1, s2, s3, s4⟩
              go_simp
              with_reducible rfl
             rotate_left
             ·simp only [Act.put, List.setIfInBounds_toArray, List.set_cons_zero, List.set_cons_succ, i64_w, i32_w]; rfl
             refine take_ (i := 8) (N := (some 199)) (v := ?_) (a' := ?_) #[true, true, true, true, true, true, true, true, true, false, false, false, false, false, false, false, false] rfl rfl (by kernel_rfl) (fun _ _ _ h => h) (Or.inl ⟨by rfl, ?_⟩) hHeld ?_ ?_
             rotate_left
             ·rintro w' ⟨s0, s1, s2, s3, s4⟩
              go_simp
              with_reducible rfl
             rotate_left
             ·simp only [Act.put, List.setIfInBounds_toArray, List.set_cons_zero, List.set_cons_succ, i64_w, i32_w]; rfl
             refine take_ (i := 9) (N := (some 200)) (v := ?_) (a' := ?_) #[true, true, true, true, true, true, true, true, true, true, false, false, false, false, false, false, false] rfl rfl (by kernel_rfl) (fun _ _ _ h => h) (Or.inl ⟨by rfl, ?_⟩) hHeld ?_ ?_
             rotate_left
             ·rintro w' ⟨s0, s1, s2, s3, s4⟩
              go_simp
              with_reducible rfl
             rotate_left
             ·simp only [Act.put, List.setIfInBounds_toArray, List.set_cons_zero, List.set_cons_succ, i64_w, i32_w]; rfl
             refine pure_ (i := 10) (N := (some 201)) (v := ?_) (a' := ?_) #[true, true, true, true, true, true, true, true, true, true, true, false, false, false, false, false, false] rfl rfl (by kernel_rfl) (fun _ _ _ h => h) (Or.inl ⟨by rfl, ?_⟩) ?_ ?_
             rotate_left
             ·intro w'
              go_simp
              with_reducible rfl
             rotate_left
             ·simp only [Act.put, List.setIfInBounds_toArray, List.set_cons_zero, List.set_cons_succ, i64_w, i32_w]; rfl
             refine one_ (i := 11) (N := (some 202)) #[true, true, true, true, true, true, true, true, true, true, true, true, false, false, false, false, false] rfl rfl (by kernel_rfl) (by decide) (fun K hK => ?_)
             refine value_ (v := ?_) (w1 := W10.drew) (by rfl) rfl ?_ ?_
             rotate_left
             ·go_simp
              rfl
             refine hK.out _ _ hHeld (fun hHeld => ?_)
             clear hK K; refine norm_ (a' := ?_) ?_ ?_
             rotate_left
             ·show Act.put _ (some 202) _ = _
              simp only [Act.put, List.setIfInBounds_toArray, List.set_cons_zero, List.set_cons_succ, i64_w, i32_w]
              rfl
             refine pure_ (i := 12) (N := (some 203)) (v := ?_) (a' := ?_) #[true, true, true, true, true, true, true, true, true, true, true, true, true, false, false, false, false] rfl rfl (by kernel_rfl) (fun _ _ _ h => h) (Or.inl ⟨by rfl, ?_⟩) ?_ ?_
             rotate_left
             ·intro w'
              go_simp
              with_reducible rfl
             rotate_left
             ·simp only [Act.put, List.setIfInBounds_toArray, List.set_cons_zero, List.set_cons_succ, i64_w, i32_w]; rfl
             refine one_ (i := 13) (N := (some 204)) #[true, true, true, true, true, true, true, true, true, true, true, true, true, true, false, false, false] rfl rfl (by kernel_rfl) (by decide) (fun K hK => ?_)
             refine value_ (v := ?_) (w1 := W10.drew) (by rfl) rfl ?_ ?_
             rotate_left
             ·go_simp
              rfl
             refine hK.out _ _ hHeld (fun hHeld => ?_)
             clear hK K; refine norm_ (a' := ?_) ?_ ?_
             rotate_left
             ·show Act.put _ (some 204) _ = _
              simp only [Act.put, List.setIfInBounds_toArray, List.set_cons_zero, List.set_cons_succ, i64_w, i32_w]
              rfl
             refine one_ (i := 14) (N := (some 205)) #[true, true, true, true, true, true, true, true, true, true, true, true, true, true, true, false, false] rfl rfl (by kernel_rfl) (by decide) (fun K hK => ?_)
             refine value_ (v := ?_) (w1 := W10.drew) (by rfl) rfl ?_ ?_
             rotate_left
             ·go_simp
              rfl
             refine hK.out _ _ hHeld (fun hHeld => ?_)
             clear hK K; refine norm_ (a' := ?_) ?_ ?_
             rotate_left
             ·show Act.put _ (some 205) _ = _
              simp only [Act.put, List.setIfInBounds_toArray, List.set_cons_zero, List.set_cons_succ, i64_w, i32_w]
              rfl
             refine one_ (i := 15) (N := (some 206)) #[true, true, true, true, true, true, true, true, true, true, true, true, true, true, true, true, false] rfl rfl (by kernel_rfl) (by decide) (fun K hK => ?_)
             refine value_ (v := ?_) (w1 := W10.drew) (by rfl) rfl ?_ ?_
             rotate_left
             ·go_simp
              rfl
             refine hK.out _ _ hHeld (fun hHeld => ?_)
             clear hK K; refine norm_ (a' := ?_) ?_ ?_
             rotate_left
             ·show Act.put _ (some 206) _ = _
              simp only [Act.put, List.setIfInBounds_toArray, List.set_cons_zero, List.set_cons_succ, i64_w, i32_w]
              rfl
             refine last_ (i := 16) (N := none) #[true, true, true, true, true, true, true, true, true, true, true, true, true, true, true, true, true] rfl rfl (by kernel_rfl) (by decide) (fun K hK => ?_)
             have hyz := HJ10.out.then ((Up.refl W10).drew)
             have hz0 := hyz.i.b5.cell; have hfz := hyz.i.b5.frozen
             refine skip_ (w1 := ?_) (by rfl) rfl ?_ ?_
             rotate_left
             ·go_simp
              rfl
             refine hK.out _ _ ?_
             clear hK K hz0 hfz; refine done_ (by kernel_rfl) ?_
             refine NoPanic.normal ?_
             have HJB := Aside0.mk ((HJ10.out.amtLo (min am (max 1 (lp - min y5.hi (lq - 1))))).then ((Up.refl _).drew))
             clear hyz hq5 hqc hq8 cy0 cy1
             gi_wp2_with fail
             go_roundw
             case rel => exact ⟨j + 1, by have := HV5.out; omega, by rw [HV5.out]; congr 1; omega, ⟨by rw [HST5.out]; exact HJB.out⟩⟩
             case measure => simp [intOf]; omega
            ·have hje : j = (x5.hi + 1 - x5.lo).toNat := by have := HV5.out; omega
             have HAM : Aside0 ((⟨thN (rdS st s) x5 y5 j, hiS (rdS st s) x5.hi - y5.lo⟩ : Sp) = thAmt st wg s) := ⟨by rw [hje]; simp only [thAmt, ← HX5.out, ← HY5.out]⟩
             rw [HAM.out] at HJ
             have hq5 := HJ.out.i.b5.cell; have hf5 := HJ.out.i.b5.frozen
             have HRT : Aside0 (thR st wg s = thAmt st wg s) := ⟨by simp [thR, HK1.out]⟩
             generalize thAmt st wg s = ta at *
             gi_wp2_with fail
             refine wpIn_wide.2 ?_
             refine wp_region_noPanic ?_
             refine start_ (n := 5) (S := fun W' => W'.cell? ⟨w.heap.size + 1 + 1, 0, none⟩ = some (.int .i64 ta.lo) ∧ W'.cell? ⟨w.heap.size + 1 + 1, 1, none⟩ = some (.int .i64 ta.hi)) (ds := [3]) #[false, false, false, false, false] (by kernel_rfl) rfl rfl ⟨hq5 0, hq5 1⟩ (fun hHeld => ?_)
             refine pure_ (i := 0) (N := (some 207)) (v := ?_) (a' := ?_) #[true, false, false, false, false] rfl rfl (by kernel_rfl) (fun _ _ _ h => h) (Or.inl ⟨by rfl, ?_⟩) ?_ ?_
             rotate_left
             ·intro w'
              go_simp
              with_reducible rfl
             rotate_left
             ·simp only [Act.put, List.setIfInBounds_toArray, List.set_cons_zero, List.set_cons_succ, i64_w, i32_w]; rfl
             refine pure_ (i := 2) (N := (some 4)) (v := ?_) (a' := ?_) #[true, false, true, false, false] rfl rfl (by kernel_rfl) (fun _ _ _ h => h) (Or.inl ⟨by rfl, ?_⟩) ?_ ?_
             rotate_left
             ·intro w'
              go_simp
              with_reducible rfl
             rotate_left
             ·simp only [Act.put, List.setIfInBounds_toArray, List.set_cons_zero, List.set_cons_succ, i64_w, i32_w]; rfl
             refine take_ (i := 1) (N := (some 208)) (v := ?_) (a' := ?_) #[true, true, true, false, false] rfl rfl (by kernel_rfl) (fun _ _ _ h => h) (Or.inl ⟨by rfl, ?_⟩) hHeld ?_ ?_
             rotate_left
             ·rintro w' ⟨s0, s1⟩
              go_simp
              with_reducible rfl
             rotate_left
             ·simp only [Act.put, List.setIfInBounds_toArray, List.set_cons_zero, List.set_cons_succ, i64_w, i32_w]; rfl
             refine last_ (i := 3) (N := none) #[true, true, true, true, false] rfl rfl (by kernel_rfl) (by decide) (fun K hK => ?_)
             refine skip_ (w1 := ?_) (by rfl) rfl ?_ ?_
             rotate_left
             ·go_simp
              rfl
             refine hK.out _ _ ?_
             clear hK K; refine pure_ (i := 4) (N := (some 6)) (v := ?_) (a' := ?_) #[true, true, true, true, true] rfl rfl (by kernel_rfl) (fun _ _ _ h => h) (Or.inl ⟨by rfl, ?_⟩) ?_ ?_
             rotate_left
             ·intro w'
              go_simp
              with_reducible rfl
             rotate_left
             ·simp only [Act.put, List.setIfInBounds_toArray, List.set_cons_zero, List.set_cons_succ, i64_w, i32_w]; rfl
             refine done_ (by kernel_rfl) ?_
             refine NoPanic.normal ?_
             gi_wp2_with fail
             have HJC := Aside0.mk ((HJ.out.amt ta).then ((Up.refl _).drew))
             refine ⟨by simp, .inl ⟨_, _, rfl, run_takeDeferred HJC.out.d, ?_⟩⟩
             have hfin := HJC.out.fin
             clear hq5 hf5; have hq5 := hfin.b5.cell
             refine ⟨.tuple #[.slice (some ⟨g, 0, none⟩) N cap, .agg #[.int .i64 ta.lo, .int .i64 ta.hi], .bool true], ?_, .slice (some ⟨g, 0, none⟩) N cap, ?_, ?_, hfin.up⟩
             ·simp [results, Tryd.f72, go_sem, hq5]
             ·simp [HRT.out, HK1.out]
             ·have h9 := hfin.row.toOwn (base := w.heap.size) (by have := hfin.gb; omega)
              rw [thL5_len, ← HN.out] at h9
              rw [thL, HK1.out]
              simp only [if_true]
              rw [thL5_len, ← HN.out]
              exact h9
       -- END R14
   case body =>
    rintro lq pre p post v Wd hl ⟨rq, hlr⟩ hL hI rfl
    try dsimp only
    have hpp := downL_at _ _ _ _ hL
    have hq2 := hI.i.b2.cell; have hq3 := hI.i.b3.cell; have hq8 := hI.b8.cell
    by_cases hsp : s < p
    ·have hsp' : (p : Int) > (s : Int) := by omega
     by_cases hlt : p < st.length
     ·have hps : (p : Int) < (st.length : Int) := by omega
      have hk : pre.length = st.length - p := by omega
      have hrow := hI.i
      rw [hk, Nat.min_eq_left (by omega)] at hrow
      obtain ⟨hstp, hcur⟩ := gst_succ st (thL2 st wg s) (thL2_len st wg s) p hlt
      have hgl : (gst st (thL2 st wg s) (st.length - p)).length = st.length + 1 := by rw [gst_len, thL2_len]
      obtain ⟨ca, cb⟩ := hrow.cell p (by rw [hgl]; omega)
      obtain ⟨cc, cd⟩ := hrow.cell (p + 1) (by rw [hgl]; omega)
      have hso : okS (rdS (gst st (thL2 st wg s) (st.length - p)) (p : Nat)) := rd_ok (gst_ok (thL2_ok HOK.out s HS.out) _) p
      have hsb := HOK.out.at p (by omega) (by omega)
      obtain ⟨d, hd⟩ : ∃ d : Nat, p = s + d := ⟨p - s, by omega⟩
      obtain ⟨q, hq⟩ : ∃ q : Nat, d = q + 1 := ⟨d - 1, by omega⟩
      have hwd : IntKind.i64.wrap ((p : Int) - (s : Int)) = (d : Int) := by rw [IntWalk.i64_in _ (by omega)]; omega
      have hwq : IntKind.i64.wrap ((d : Int) - 1) = (q : Int) := by rw [IntWalk.i64_in _ (by omega)]; omega
      have e1 : p * 2 = (s + 1) * 2 + q * 2 := by omega
      have e2 : (p + 1) * 2 = (s + 1) * 2 + d * 2 := by omega
      rw [e1] at ca cb
      rw [e2] at cc cd
      have hq0 : (0 : Int) ≤ (q : Int) := by omega
      have hd0 : (0 : Int) ≤ (d : Int) := by omega
      have hqM : (q : Int) < (M : Int) := by have := HM.out; have := HN.out; omega
      have hdM : (d : Int) < (M : Int) := by have := HM.out; have := HN.out; omega
      have hp0 : (0 : Int) ≤ (p : Int) := by omega
      have HE1 := Aside0.mk e1
      have HLT : Aside0 (s < p ∧ p < st.length ∧ pre.length = st.length - p) := ⟨hsp, hlt, hk⟩
      generalize hgs : gst st (thL2 st wg s) (st.length - p) = G at *
      obtain ⟨x1, hx1⟩ : ∃ x, x = rdS G (p : Nat) := ⟨_, rfl⟩
      obtain ⟨y1, hy1⟩ : ∃ y, y = rdS G ((p + 1 : Nat) : Int) := ⟨_, rfl⟩
      rw [← hx1] at ca cb hso hcur hstp
      rw [← hy1] at cc cd hstp
      have HSP := Aside0.mk hstp
      have HI := Aside0.mk hrow
      have HI8 := Aside0.mk hI.b8
      have HGL2 := Aside0.mk hgl
      have HCALL : Aside0 (∀ W : World, Up Wd W → Calls Tryd.prog 103 #[.agg #[.slice A st.length c, .slice A2 wg.length c2], .int .i64 (p : Int), .agg #[.int .i64 x1.lo, .int .i64 x1.hi], .agg #[.int .i64 y1.lo, .int .i64 y1.hi]] W fun e w' => e = .returned (.agg #[.int .i64 (backS (rdS st (p : Nat)) x1 y1).lo, .int .i64 (backS (rdS st (p : Nat)) x1 y1).hi]) ∧ Up W w') := ⟨fun W hu => back_ A c st A2 c2 wg p x1 y1 W (C_up HR.out (HI.out.up.then hu)) hc (C_up HR2.out (HI.out.up.then hu)) hc2 hp0 hps hsb hso⟩
      have HS4 : Aside0 (∀ W' : World, Up Wd W' → W'.cell? ⟨w.heap.size, 0, none⟩ = some (.slice A st.length c) ∧ W'.cell? ⟨w.heap.size, 1, none⟩ = some (.slice A2 wg.length c2) ∧ W'.cell? ⟨w.heap.size + 1, 0, none⟩ = some (.int .i64 (s : Int)) ∧ W'.cell? ⟨B8, 0, none⟩ = some (.slice (some ⟨g, (s + 1) * 2, none⟩) M KC) ∧ W'.cell? ⟨g, (s + 1) * 2 + q * 2, none⟩ = some (.int .i64 x1.lo) ∧ W'.cell? ⟨g, (s + 1) * 2 + q * 2 + 1, none⟩ = some (.int .i64 x1.hi) ∧ W'.cell? ⟨g, (s + 1) * 2 + d * 2, none⟩ = some (.int .i64 y1.lo) ∧ W'.cell? ⟨g, (s + 1) * 2 + d * 2 + 1, none⟩ = some (.int .i64 y1.hi)) := ⟨fun W' hu => ⟨hu.cell (hq2 0), hu.cell (hq2 1), hu.cell (hq3 0), hu.cell (hq8 0), hu.cell ca, hu.cell cb, hu.cell cc, hu.cell cd⟩⟩
      clear hstp hcur hrow hgl hI hgs hx1 hy1 hsb hso hlr hpp hlt hk hsp ca cb cc cd hd hq e1 e2 hL; generalize backS (rdS st (p : Nat)) x1 y1 = z at *
      gi_wp2_with fail
      -- EV R11
      refine round_start (n := 23) (S := fun W' => W'.cell? ⟨w.heap.size, 0, none⟩ = some (.slice A st.length c) ∧ W'.cell? ⟨w.heap.size, 1, none⟩ = some (.slice A2 wg.length c2) ∧ W'.cell? ⟨w.heap.size + 1, 0, none⟩ = some (.int .i64 (s : Int)) ∧ W'.cell? ⟨B8, 0, none⟩ = some (.slice (some ⟨g, (s + 1) * 2, none⟩) M KC) ∧ W'.cell? ⟨g, (s + 1) * 2 + q * 2, none⟩ = some (.int .i64 x1.lo) ∧ W'.cell? ⟨g, (s + 1) * 2 + q * 2 + 1, none⟩ = some (.int .i64 x1.hi) ∧ W'.cell? ⟨g, (s + 1) * 2 + d * 2, none⟩ = some (.int .i64 y1.lo) ∧ W'.cell? ⟨g, (s + 1) * 2 + d * 2 + 1, none⟩ = some (.int .i64 y1.hi)) (ds := [22]) #[false, false, false, false, false, false, false, false, false, false, false, false, false, false, false, false, false, false, false, false, false, false, false] (by kernel_rfl) (by kernel_rfl) (by rintro ⟨_, _, h⟩; exact h) rfl rfl (HS4.out _ ((Up.refl Wd).drew)) (fun hHeld => ?_)
      refine take_ (i := 0) (N := (some 78)) (v := ?_) (a' := ?_) #[true, false, false, false, false, false, false, false, false, false, false, false, false, false, false, false, false, false, false, false, false, false, false] rfl rfl (by kernel_rfl) (fun _ _ _ h => h) (Or.inl ⟨by rfl, ?_⟩) hHeld ?_ ?_
      rotate_left
      ·rintro w' ⟨s0, s1, s2, s3, s4, s5, s6, s7⟩
       go_simp
       with_reducible rfl
      rotate_left
      ·simp only [Act.put, List.setIfInBounds_toArray, List.set_cons_zero, List.set_cons_succ, i64_w, i32_w]; rfl
      refine pure_ (i := 1) (N := (some 79)) (v := ?_) (a' := ?_) #[true, true, false, false, false, false, false, false, false, false, false, false, false, false, false, false, false, false, false, false, false, false, false] rfl rfl (by kernel_rfl) (fun _ _ _ h => h) (Or.inl ⟨by rfl, ?_⟩) ?_ ?_
      rotate_left
      ·intro w'
       go_simp
       with_reducible rfl
      rotate_left
      ·simp only [Act.put, List.setIfInBounds_toArray, List.set_cons_zero, List.set_cons_succ, i64_w, i32_w]; rfl
      refine take_ (i := 2) (N := (some 80)) (v := ?_) (a' := ?_) #[true, true, true, false, false, false, false, false, false, false, false, false, false, false, false, false, false, false, false, false, false, false, false] rfl rfl (by kernel_rfl) (fun _ _ _ h => h) (Or.inl ⟨by rfl, ?_⟩) hHeld ?_ ?_
      rotate_left
      ·rintro w' ⟨s0, s1, s2, s3, s4, s5, s6, s7⟩
       go_simp
       with_reducible rfl
      rotate_left
      ·simp only [Act.put, List.setIfInBounds_toArray, List.set_cons_zero, List.set_cons_succ, i64_w, i32_w]; rfl
      refine pure_ (i := 3) (N := (some 81)) (v := ?_) (a' := ?_) #[true, true, true, true, false, false, false, false, false, false, false, false, false, false, false, false, false, false, false, false, false, false, false] rfl rfl (by kernel_rfl) (fun _ _ _ h => h) (Or.inl ⟨by rfl, ?_⟩) ?_ ?_
      rotate_left
      ·intro w'
       go_simp
       with_reducible rfl
      rotate_left
      ·simp only [Act.put, List.setIfInBounds_toArray, List.set_cons_zero, List.set_cons_succ, i64_w, i32_w]; rfl
      refine pure_ (i := 4) (N := (some 82)) (v := ?_) (a' := ?_) #[true, true, true, true, true, false, false, false, false, false, false, false, false, false, false, false, false, false, false, false, false, false, false] rfl rfl (by kernel_rfl) (fun _ _ _ h => h) (Or.inl ⟨by rfl, ?_⟩) ?_ ?_
      rotate_left
      ·intro w'
       go_simp
       with_reducible rfl
      rotate_left
      ·simp only [Act.put, List.setIfInBounds_toArray, List.set_cons_zero, List.set_cons_succ, i64_w, i32_w]; rfl
      refine take_ (i := 5) (N := (some 83)) (v := ?_) (a' := ?_) #[true, true, true, true, true, true, false, false, false, false, false, false, false, false, false, false, false, false, false, false, false, false, false] rfl rfl (by kernel_rfl) (fun _ _ _ h => h) (Or.inl ⟨by rfl, ?_⟩) hHeld ?_ ?_
      rotate_left
      ·rintro w' ⟨s0, s1, s2, s3, s4, s5, s6, s7⟩
       go_simp
       with_reducible rfl
      rotate_left
      ·simp only [Act.put, List.setIfInBounds_toArray, List.set_cons_zero, List.set_cons_succ, i64_w, i32_w]; rfl
      refine pure_ (i := 6) (N := (some 84)) (v := ?_) (a' := ?_) #[true, true, true, true, true, true, true, false, false, false, false, false, false, false, false, false, false, false, false, false, false, false, false] rfl rfl (by kernel_rfl) (fun _ _ _ h => h) (Or.inl ⟨by rfl, ?_⟩) ?_ ?_
      rotate_left
      ·intro w'
       go_simp
       with_reducible rfl
      rotate_left
      ·simp only [Act.put, List.setIfInBounds_toArray, List.set_cons_zero, List.set_cons_succ, i64_w, i32_w]; rfl
      refine take_ (i := 7) (N := (some 85)) (v := ?_) (a' := ?_) #[true, true, true, true, true, true, true, true, false, false, false, false, false, false, false, false, false, false, false, false, false, false, false] rfl rfl (by kernel_rfl) (fun _ _ _ h => h) (Or.inl ⟨by rfl, ?_⟩) hHeld ?_ ?_
      rotate_left
      ·rintro w' ⟨s0, s1, s2, s3, s4, s5, s6, s7⟩
       go_simp
       with_reducible rfl
      rotate_left
      ·simp only [Act.put, List.setIfInBounds_toArray, List.set_cons_zero, List.set_cons_succ, i64_w, i32_w]; rfl
      refine pure_ (i := 8) (N := (some 86)) (v := ?_) (a' := ?_) #[true, true, true, true, true, true, true, true, true, false, false, false, false, false, false, false, false, false, false, false, false, false, false] rfl rfl (by kernel_rfl) (fun _ _ _ h => h) (Or.inl ⟨by rfl, ?_⟩) ?_ ?_
      rotate_left
      ·intro w'
       go_simp
       with_reducible rfl
      rotate_left
      ·simp only [Act.put, List.setIfInBounds_toArray, List.set_cons_zero, List.set_cons_succ, i64_w, i32_w]; rfl
      refine take_ (i := 9) (N := (some 87)) (v := ?_) (a' := ?_) #[true, true, true, true, true, true, true, true, true, true, false, false, false, false, false, false, false, false, false, false, false, false, false] rfl rfl (by kernel_rfl) (fun _ _ _ h => h) (Or.inl ⟨by rfl, ?_⟩) hHeld ?_ ?_
      rotate_left
      ·rintro w' ⟨s0, s1, s2, s3, s4, s5, s6, s7⟩
       go_simp
       with_reducible rfl
      rotate_left
      ·simp only [Act.put, List.setIfInBounds_toArray, List.set_cons_zero, List.set_cons_succ, i64_w, i32_w]; rfl
      refine pure_ (i := 10) (N := (some 88)) (v := ?_) (a' := ?_) #[true, true, true, true, true, true, true, true, true, true, true, false, false, false, false, false, false, false, false, false, false, false, false] rfl rfl (by kernel_rfl) (fun _ _ _ h => h) (Or.inl ⟨by rfl, ?_⟩) ?_ ?_
      rotate_left
      ·intro w'
       go_simp
       with_reducible rfl
      rotate_left
      ·simp only [Act.put, List.setIfInBounds_toArray, List.set_cons_zero, List.set_cons_succ, i64_w, i32_w]; rfl
      refine pure_ (i := 11) (N := (some 89)) (v := ?_) (a' := ?_) #[true, true, true, true, true, true, true, true, true, true, true, true, false, false, false, false, false, false, false, false, false, false, false] rfl rfl (by kernel_rfl) (fun _ _ _ h => h) (Or.inl ⟨by rfl, ?_⟩) ?_ ?_
      rotate_left
      ·intro w'
       go_simp
       with_reducible rfl
      rotate_left
      ·simp only [Act.put, List.setIfInBounds_toArray, List.set_cons_zero, List.set_cons_succ, i64_w, i32_w]; rfl
      refine take_ (i := 12) (N := (some 90)) (v := ?_) (a' := ?_) #[true, true, true, true, true, true, true, true, true, true, true, true, true, false, false, false, false, false, false, false, false, false, false] rfl rfl (by kernel_rfl) (fun _ _ _ h => h) (Or.inl ⟨by rfl, ?_⟩) hHeld ?_ ?_
      rotate_left
      ·rintro w' ⟨s0, s1, s2, s3, s4, s5, s6, s7⟩
       go_simp
       with_reducible rfl
      rotate_left
      ·simp only [Act.put, List.setIfInBounds_toArray, List.set_cons_zero, List.set_cons_succ, i64_w, i32_w]; rfl
      refine take_ (i := 13) (N := (some 91)) (v := ?_) (a' := ?_) #[true, true, true, true, true, true, true, true, true, true, true, true, true, true, false, false, false, false, false, false, false, false, false] rfl rfl (by kernel_rfl) (fun _ _ _ h => h) (Or.inl ⟨by rfl, ?_⟩) hHeld ?_ ?_
      rotate_left
      ·rintro w' ⟨s0, s1, s2, s3, s4, s5, s6, s7⟩
       go_simp
       with_reducible rfl
      rotate_left
      ·simp only [Act.put, List.setIfInBounds_toArray, List.set_cons_zero, List.set_cons_succ, i64_w, i32_w]; rfl
      refine take_ (i := 14) (N := (some 92)) (v := ?_) (a' := ?_) #[true, true, true, true, true, true, true, true, true, true, true, true, true, true, true, false, false, false, false, false, false, false, false] rfl rfl (by kernel_rfl) (fun _ _ _ h => h) (Or.inl ⟨by rfl, ?_⟩) hHeld ?_ ?_
      rotate_left
      ·rintro w' ⟨s0, s1, s2, s3, s4, s5, s6, s7⟩
       go_simp
       with_reducible rfl
      rotate_left
      ·simp only [Act.put, List.setIfInBounds_toArray, List.set_cons_zero, List.set_cons_succ, i64_w, i32_w]; rfl
      refine pure_ (i := 15) (N := (some 93)) (v := ?_) (a' := ?_) #[true, true, true, true, true, true, true, true, true, true, true, true, true, true, true, true, false, false, false, false, false, false, false] rfl rfl (by kernel_rfl) (fun _ _ _ h => h) (Or.inl ⟨by rfl, ?_⟩) ?_ ?_
      rotate_left
      ·intro w'
       go_simp
       with_reducible rfl
      rotate_left
      ·simp only [Act.put, List.setIfInBounds_toArray, List.set_cons_zero, List.set_cons_succ, i64_w, i32_w]; rfl
      refine take_ (i := 16) (N := (some 94)) (v := ?_) (a' := ?_) #[true, true, true, true, true, true, true, true, true, true, true, true, true, true, true, true, true, false, false, false, false, false, false] rfl rfl (by kernel_rfl) (fun _ _ _ h => h) (Or.inl ⟨by rfl, ?_⟩) hHeld ?_ ?_
      rotate_left
      ·rintro w' ⟨s0, s1, s2, s3, s4, s5, s6, s7⟩
       go_simp
       with_reducible rfl
      rotate_left
      ·simp only [Act.put, List.setIfInBounds_toArray, List.set_cons_zero, List.set_cons_succ, i64_w, i32_w]; rfl
      refine pure_ (i := 17) (N := (some 95)) (v := ?_) (a' := ?_) #[true, true, true, true, true, true, true, true, true, true, true, true, true, true, true, true, true, true, false, false, false, false, false] rfl rfl (by kernel_rfl) (fun _ _ _ h => h) (Or.inl ⟨by rfl, ?_⟩) ?_ ?_
      rotate_left
      ·intro w'
       go_simp
       with_reducible rfl
      rotate_left
      ·simp only [Act.put, List.setIfInBounds_toArray, List.set_cons_zero, List.set_cons_succ, i64_w, i32_w]; rfl
      refine take_ (i := 18) (N := (some 96)) (v := ?_) (a' := ?_) #[true, true, true, true, true, true, true, true, true, true, true, true, true, true, true, true, true, true, true, false, false, false, false] rfl rfl (by kernel_rfl) (fun _ _ _ h => h) (Or.inl ⟨by rfl, ?_⟩) hHeld ?_ ?_
      rotate_left
      ·rintro w' ⟨s0, s1, s2, s3, s4, s5, s6, s7⟩
       go_simp
       with_reducible rfl
      rotate_left
      ·simp only [Act.put, List.setIfInBounds_toArray, List.set_cons_zero, List.set_cons_succ, i64_w, i32_w]; rfl
      refine take_ (i := 19) (N := (some 97)) (v := ?_) (a' := ?_) #[true, true, true, true, true, true, true, true, true, true, true, true, true, true, true, true, true, true, true, true, false, false, false] rfl rfl (by kernel_rfl) (fun _ _ _ h => h) (Or.inl ⟨by rfl, ?_⟩) hHeld ?_ ?_
      rotate_left
      ·rintro w' ⟨s0, s1, s2, s3, s4, s5, s6, s7⟩
       go_simp
       with_reducible rfl
      rotate_left
      ·simp only [Act.put, List.setIfInBounds_toArray, List.set_cons_zero, List.set_cons_succ, i64_w, i32_w]; rfl
      refine one_ (i := 20) (N := (some 98)) #[true, true, true, true, true, true, true, true, true, true, true, true, true, true, true, true, true, true, true, true, true, false, false] rfl rfl (by kernel_rfl) (by decide) (fun K hK => ?_)
      refine goes_ Tryd.func103 (by kernel_rfl) rfl #[.agg #[.slice A st.length c, .slice A2 wg.length c2], .int .i64 (p : Int), .agg #[.int .i64 x1.lo, .int .i64 x1.hi], .agg #[.int .i64 y1.lo, .int .i64 y1.hi]] (by rfl) rfl rfl (by (try simp only [List.map_toArray, List.map_cons, List.map_nil]); first | done | rfl) ?_
      refine (HCALL.out _ ((Up.refl Wd).drew)).mono ?_
      rintro e w3 ⟨rfl, hb⟩
      have HV3 : Aside0 (Up Wd w3) := ⟨((Up.refl Wd).drew).then hb⟩
      clear hb; refine ⟨_, rfl, ?_⟩
      refine hK.out _ _ (HS4.out _ HV3.out) (fun hHeld => ?_)
      clear hK K; refine norm_ (a' := ?_) ?_ ?_
      rotate_left
      ·show Act.put _ (some 98) _ = _
       simp only [Act.put, List.setIfInBounds_toArray, List.set_cons_zero, List.set_cons_succ, i64_w, i32_w]
       rfl
      refine one_ (i := 21) (N := (some 99)) #[true, true, true, true, true, true, true, true, true, true, true, true, true, true, true, true, true, true, true, true, true, true, false] rfl rfl (by kernel_rfl) (by decide) (fun K hK => ?_)
      refine value_ (v := ?_) (w1 := w3) (by rfl) rfl ?_ ?_
      rotate_left
      ·go_simp
       rfl
      refine hK.out _ _ hHeld (fun hHeld => ?_)
      clear hK K; refine norm_ (a' := ?_) ?_ ?_
      rotate_left
      ·show Act.put _ (some 99) _ = _
       simp only [Act.put, List.setIfInBounds_toArray, List.set_cons_zero, List.set_cons_succ, i64_w, i32_w]
       rfl
      refine last_ (i := 22) (N := none) #[true, true, true, true, true, true, true, true, true, true, true, true, true, true, true, true, true, true, true, true, true, true, true] rfl rfl (by kernel_rfl) (by decide) (fun K hK => ?_)
      have hyz := HI.out.then HV3.out
      obtain ⟨hz0, hz1⟩ := hyz.cell p (by rw [HGL2.out]; have := HLT.out; omega)
      rw [HE1.out] at hz0 hz1
      have hfz := hyz.frozen
      refine skip_ (w1 := ?_) (by rfl) rfl ?_ ?_
      rotate_left
      ·go_simp
       rfl
      refine hK.out _ _ ?_
      clear hK K; refine done_ (by kernel_rfl) ?_
      have hput := hyz.put p (by rw [HGL2.out]; have := HLT.out; omega) z
      rw [← HSP.out, HE1.out] at hput
      have hne := hyz.ne (HI8.out.up HV3.out) (by decide)
      refine ⟨?_, ?_, ((HI8.out.up HV3.out).far hne _ _).far hne _ _⟩
      ·have hk9 := kt_set (Kt.up HV3.out : Kt ptLo Wd w3) (spc_typed hyz.row (lo := ptLo) rfl) ((s + 1) * 2 + q * 2) (.int .i64 z.lo)
       exact (kt_set hk9.1 hk9.2 ((s + 1) * 2 + q * 2 + 1) (.int .i64 z.hi)).1
      ·rw [List.length_append, HLT.out.2.2, List.length_singleton, Nat.min_eq_left (by have := HLT.out; omega)]
       exact hput
      -- END R11
     ·have hps : ¬ ((p : Int) < (st.length : Int)) := by omega
      gi_wp2_with fail
      have hk0 : pre.length = 0 := by omega
      refine ⟨Kt.refl _ _, ?_, hI.b8⟩
      have h9 := hI.i
      rw [hk0, Nat.zero_min, gst_zero] at h9
      rw [List.length_append, hk0, List.length_singleton, Nat.min_eq_left (by have := HS.out; omega), gst_one st _ (thL2_len st wg s)]
      exact h9
    ·have hsp' : ¬ ((p : Int) > (s : Int)) := by omega
     gi_wp2_with fail
     refine ⟨Kt.refl _ _, ?_, hI.b8⟩
     have h9 := hI.i
     rw [Nat.min_eq_right (by omega)] at h9
     rw [List.length_append, List.length_singleton, Nat.min_eq_right (by omega)]
     exact h9
end Go.Proofs.YtemingmeidmjkaaDoor.Q
namespace Go.Proofs.YtemingmeidmjkaaDoor.Q
open Go.RowKit Go.Shelf Go.Proofs.YtemingmeidmjkaaDoorW.PrintWords Go.Proofs.YtemingmeidmjkaaDoorW.PrintLast
set_option linter.unusedVariables false
set_option linter.unusedSimpArgs false
def whereL (st : List Sp) (wg : List Wg) : List Int := ((List.range st.length).filter fun i => thOk st wg i).map Int.ofNat
def whereN (st : List Sp) (wg : List Wg) (k : Nat) : List Int := ((List.range k).filter fun i => thOk st wg i).map Int.ofNat
theorem whereN_succ (st : List Sp) (wg : List Wg) (k : Nat) : whereN st wg (k + 1) = whereN st wg k ++ (if thOk st wg k then [(k : Int)] else []) := by
 unfold whereN
 rw [List.range_succ, List.filter_append, List.map_append]
 congr 1
 by_cases h : thOk st wg k = true
 ·simp [h]
 ·simp [h]
theorem whereN_len (st : List Sp) (wg : List Wg) (k : Nat) : (whereN st wg k).length ≤ k := by
 unfold whereN
 rw [List.length_map]
 exact Nat.le_trans (List.length_filter_le _ _) (by simp)
set_option maxRecDepth 100000 in
set_option maxHeartbeats 1000000 in
theorem where_ (A : Option Addr) (c : Nat) (st : List Sp) (A2 : Option Addr) (c2 : Nat) (wg : List Wg) (w : World) (hG : GL w) (hr : Kd.C kSp w A st.length st) (hc : st.length ≤ c) (hr2 : Kd.C kWg w A2 wg.length wg) (hc2 : wg.length ≤ c2) (hok : RdOk st wg) :
  Calls Tryd.prog 85 #[.agg #[.slice A st.length c, .slice A2 wg.length c2]] w fun e w' => ∃ v, e = .returned v ∧ w'.ownsRow w.heap.size 3 1 v (whereL st wg).length (nums .i64 (whereL st wg)) ∧ (whereL st wg = [] → v = .slice none 0 0) ∧ Up w w' := by
 have hm := CF_len hr
 have hl1 := hok.len
 have HR := Aside0.mk hr
 have HR2 := Aside0.mk hr2
 have HOK := Aside0.mk hok
 have HGL := Aside0.mk hG
 clear hr hr2 hok hG; have HB1 : Aside0 (Bx (w.alloc (.cells #[.slice A st.length c, .slice A2 wg.length c2] 95)) w.heap.size #[.slice A st.length c, .slice A2 wg.length c2] 95) := ⟨Bx.new w _ _⟩
 have HU1 : Aside0 (Up w (w.alloc (.cells #[.slice A st.length c, .slice A2 wg.length c2] 95))) := ⟨upA⟩
 go_enter Tryd.func85, Tryd.ntmps85
 go_wp2_with fail
 obtain ⟨i0, hi, hz0, hz1, hz2⟩ := info_parts info_int
 go_loopw [2, 11] (fun v2 i wr => ∃ k : Nat, k ≤ st.length ∧ i = .int .i64 (k : Int) ∧ Aside0 (wr.ownsRow w.heap.size 3 1 v2 (whereN st wg k).length (nums .i64 (whereN st wg k))) ∧ Aside0 (whereN st wg k = [] → v2 = .slice none 0 0) ∧ Aside0 (Bx wr w.heap.size #[.slice A st.length c, .slice A2 wg.length c2] 95) ∧ Aside0 (Up w wr)) (fun _ i _ => st.length - (intOf i).toNat)
 case atStart => exact ⟨0, Nat.zero_le _, rfl, ⟨⟨by simp [whereN, nums], .inl ⟨rfl, rfl⟩⟩⟩, ⟨fun _ => rfl⟩, HB1, HU1⟩
 case round =>
  clear HB1 HU1; obtain ⟨k, hk, rfl, hO, hE, hB, hU⟩ := hrel
  by_cases hlt : k < st.length
  ·have hk1 : (k : Int) < (st.length : Int) := by omega
   have hwk : IntKind.i64.wrap ((k : Int) + 1) = (k : Int) + 1 := IntWalk.i64_in _ (by omega)
   have hcl := theft_ A c st A2 c2 wg k wr (HGL.out.up hU.out) (C_up HR.out hU.out) hc (C_up HR2.out hU.out) hc2 HOK.out hlt
   have hqb := hB.out.cell
   go_wp2_with fail
   refine hcl.mono ?_
   clear hcl hqb; rintro e w2 ⟨v3, rfl, hown, hu2⟩
   have HO3 := Aside0.mk (own_up hO.out hu2)
   have HU2 := Aside0.mk (hU.out.then hu2)
   have HB2 := Aside0.mk (hB.out.up hu2)
   obtain ⟨A3, c3, rfl, hc3, _⟩ := ownF_slice hown
   clear hown hu2
   cases hth : thOk st wg k
   ·have HW : Aside0 (whereN st wg (k + 1) = whereN st wg k) := ⟨by rw [whereN_succ, hth]; simp⟩
    clear hth; have HUA : Aside0 (Up w2 (w2.alloc (.cells #[.int .i64 (thR st wg k).lo, .int .i64 (thR st wg k).hi] 100))) := ⟨upA⟩
    go_wp2_with fail
    go_roundw
    case rel => exact ⟨k + 1, by omega, by go_num, ⟨by rw [HW.out]; exact own_up HO3.out HUA.out⟩, ⟨by rw [HW.out]; exact hE.out⟩, ⟨HB2.out.up HUA.out⟩, ⟨HU2.out.then HUA.out⟩⟩
    case measure => simp [intOf]; omega
   ·have HW : Aside0 (whereN st wg (k + 1) = whereN st wg k ++ [(k : Int)]) := ⟨by rw [whereN_succ, hth]; simp⟩
    clear hth; have HUA : Aside0 (Up w2 ((w2.alloc (.cells #[.int .i64 (thR st wg k).lo, .int .i64 (thR st wg k).hi] 100)).alloc (.cells #[.int .i64 (k : Int)] 3))) := ⟨upA⟩
    have HOA := Aside0.mk (own_up HO3.out HUA.out)
    have HRC : Aside0 (0 < 1 → ∃ ad', some (⟨w2.heap.size + 1, 0, none⟩ : Addr) = some ad' ∧ ∀ j u, ([.int .i64 (k : Int)] : List Value)[j]? = some u → ((w2.alloc (.cells #[.int .i64 (thR st wg k).lo, .int .i64 (thR st wg k).hi] 100)).alloc (.cells #[.int .i64 (k : Int)] 3)).cell? (ad'.add j) = some u) := ⟨fun _ => ⟨_, rfl, fun j u hu => by
     match j, hu with
     | 0, hu => simp at hu; subst hu; simp [go_sem]⟩⟩
    have hwl := whereN_len st wg k
    go_wp2_with (at_builtin; refine append_all w.heap.size rfl _ _ 45 3 (.int .i64 0) 1 8 rfl Tryd.underlying45 info_int rfl (by decide) (by decide) _ (whereN st wg k).length (nums .i64 (whereN st wg k)) [.int .i64 (k : Int)] (some ⟨w2.heap.size + 1, 0, none⟩) 1 1 rfl rfl HOA.out rfl HRC.out ?qc3 ?qc4 ?qc5 ?_)
    case qc3 => first | exact rfl | (intro u hu; simp at hu; subst hu; rfl) | simp [Value.oneCell']
    case qc4 => exact (HU2.out.then HUA.out).le
    case qc5 => omega
    intro v3 w3 hown hgrow
    have HU3 := Aside0.mk ((HU2.out.then HUA.out).grown HOA.out (Nat.le_refl _) hgrow)
    have HB3 := Aside0.mk ((HB2.out.up HUA.out).grown HOA.out (by decide) hgrow)
    have HO4 := Aside0.mk hown
    clear hown hgrow; go_wp2_with fail
    go_roundw
    case rel => exact ⟨k + 1, by omega, by go_num, ⟨by rw [HW.out]; have h9 := HO4.out; simpa [nums] using h9⟩, ⟨by rw [HW.out]; intro h; simp at h⟩, HB3, HU3⟩
    case measure => simp [intOf]; omega
  ·obtain rfl : k = st.length := by omega
   go_wp2_with fail
   go_ret
   have h9 := hO.out; have h10 := hE.out
   exact ⟨_, rfl, h9, h10, hU.out⟩
theorem nilE (w : World) : (binOp BinOp.eql 45 (.slice none 0 0) (.slice none 0 0)).run Tryd.prog w = .ok (.bool true) w := by kernel_rfl
theorem nilN (w : World) (g n c : Nat) : (binOp BinOp.eql 45 (.slice (some ⟨g, 0, none⟩) n c) (.slice none 0 0)).run Tryd.prog w = .ok (.bool false) w := by kernel_rfl
def owE (st : List Sp) (wg : List Wg) : Int := if roadE st wg = 0 then (if honB st wg then 6 else if whereL st wg = [] then 9 else 0) else roadE st wg
def owL (st : List Sp) (wg : List Wg) : List Int := if owE st wg = 0 then whereL st wg else []
set_option maxRecDepth 100000 in
set_option maxHeartbeats 1000000 in
theorem openWhere_ (A : Option Addr) (c : Nat) (st : List Sp) (A2 : Option Addr) (c2 : Nat) (wg : List Wg) (w : World) (hG : GL w) (hr : Kd.C kSp w A st.length st) (hc : st.length ≤ c) (hr2 : Kd.C kWg w A2 wg.length wg) (hc2 : wg.length ≤ c2) :
  Calls Tryd.prog 71 #[.agg #[.slice A st.length c, .slice A2 wg.length c2]] w fun e w' => ∃ v, e = .returned (.tuple #[.agg #[.slice A st.length c, .slice A2 wg.length c2], v, .int .i64 (owE st wg)]) ∧ w'.ownsRow w.heap.size 3 1 v (owL st wg).length (nums .i64 (owL st wg)) ∧ Up w w' := by
 have HR := Aside0.mk hr
 have HR2 := Aside0.mk hr2
 have HGL := Aside0.mk hG
 clear hr hr2 hG; have HU0 : Aside0 (Up w ((w.alloc (.cells #[.slice A st.length c, .slice A2 wg.length c2] 25)).alloc (.cells #[.slice none 0 0, .slice none 0 0] 95))) := ⟨upA⟩
 have HB1 : Aside0 (Bx ((w.alloc (.cells #[.slice A st.length c, .slice A2 wg.length c2] 25)).alloc (.cells #[.slice none 0 0, .slice none 0 0] 95)) (w.heap.size + 1) #[.slice none 0 0, .slice none 0 0] 95) := ⟨by have h9 := Bx.new (w.alloc (.cells #[.slice A st.length c, .slice A2 wg.length c2] 25)) #[.slice none 0 0, .slice none 0 0] 95; simpa using h9⟩
 have hcall := open_ A c st A2 c2 wg ((w.alloc (.cells #[.slice A st.length c, .slice A2 wg.length c2] 25)).alloc (.cells #[.slice none 0 0, .slice none 0 0] 95)) (C_up HR.out HU0.out) hc (C_up HR2.out HU0.out) hc2
 have hbe : (roadE st wg != 0) = !decide (roadE st wg = 0) := by by_cases h : roadE st wg = 0 <;> simp [h]
 go_enter Tryd.func71, Tryd.ntmps71
 go_wp2_with fail
 generalize ((w.alloc (.cells #[.slice A st.length c, .slice A2 wg.length c2] 25)).alloc (.cells #[.slice none 0 0, .slice none 0 0] 95)) = W0 at *
 refine hcall.mono ?_
 clear hcall; rintro e w1 ⟨rfl, hb⟩
 have HU1 := Aside0.mk (HU0.out.then hb)
 have HB2 := Aside0.mk (HB1.out.up hb)
 have hq1 := HB2.out.cell; have hf1 := HB2.out.frozen
 have HU2 := Aside0.mk ((HU1.out.set ⟨w.heap.size + 1, 0, none⟩ (.slice A st.length c) (by simp)).set ⟨w.heap.size + 1, 1, none⟩ (.slice A2 wg.length c2) (by simp))
 have HB3 := Aside0.mk ((HB2.out.set 0 (.slice A st.length c)).set 1 (.slice A2 wg.length c2))
 clear hb HB1
 by_cases he : roadE st wg = 0
 ·have hd : (roadE st wg != 0) = false := by simp [he]
  have HE := Aside0.mk he
  clear he hbe; go_wp2_with fail
  refine (honest_ A c st A2 c2 wg _ (HGL.out.up HU2.out) (C_up HR.out HU2.out) hc (C_up HR2.out HU2.out) hc2 (road_ok HE.out).1).mono ?_
  rintro e w2 ⟨v2, rfl, hown, hb⟩
  have HU4 := Aside0.mk (HU2.out.then hb)
  have HB4 := Aside0.mk (HB3.out.up hb)
  clear hq1 hf1; have hq1 := HB4.out.cell
  have hf1 := HB4.out.frozen
  obtain ⟨A3, c3, rfl, hc3, _⟩ := ownF_slice hown
  clear hown hb
  cases hh : honB st wg
  ·have HU5 := Aside0.mk (HU4.out)
   have hcw := where_ A c st A2 c2 wg w2 (HGL.out.up HU4.out) (C_up HR.out HU4.out) hc (C_up HR2.out HU4.out) hc2 (road_ok HE.out).1
   go_wp2_with fail
   refine hcw.mono ?_
   clear hcw; rintro e w3 ⟨v3, rfl, hown, hnil, hb⟩
   have HU6 := Aside0.mk (HU4.out.then hb)
   have HB6 := Aside0.mk (HB4.out.up hb)
   have HO6 := Aside0.mk (own_mono hown (Nat.le_trans HU4.out.le (Nat.le_refl _)))
   clear hq1 hf1; have hq1 := HB6.out.cell
   have hf1 := HB6.out.frozen
   have HB7 := Aside0.mk ((HB6.out.set 0 (.slice A st.length c)).set 1 (.slice A2 wg.length c2))
   have HU7 := Aside0.mk ((HU6.out.set ⟨w.heap.size + 1, 0, none⟩ (.slice A st.length c) (by simp)).set ⟨w.heap.size + 1, 1, none⟩ (.slice A2 wg.length c2) (by simp))
   have hq5 := HB7.out.cell
   by_cases hw : whereL st wg = []
   ·have hv := hnil hw
    subst hv
    have HE2 : Aside0 (owE st wg = 9) := ⟨by simp [owE, HE.out, hh, hw]⟩
    have HL : Aside0 (owL st wg = []) := ⟨by simp [owL, HE2.out]⟩
    clear hown hnil hb hw hh; have hn0 := nilE
    go_wp2_with fail
    refine bodyPost_ret (v := .tuple #[.agg #[.slice A st.length c, .slice A2 wg.length c2], .slice none 0 0, .int .i64 (9)]) ?_ rfl ⟨.slice none 0 0, by rw [HE2.out], by rw [HL.out]; exact ⟨rfl, .inl ⟨rfl, rfl⟩⟩, HU7.out⟩
    clear hq1 hf1; simp [results, Tryd.results71, go_sem, hq5]
   ·have HE2 : Aside0 (owE st wg = 0) := ⟨by simp [owE, HE.out, hh, hw]⟩
    have HL : Aside0 (owL st wg = whereL st wg) := ⟨by simp [owL, HE2.out]⟩
    have h0 : 0 < (whereL st wg).length := List.length_pos_iff.2 hw
    clear hnil hb hw hh
    rcases hown.2 with ⟨_, h1⟩ | ⟨g, cap, cur, rfl, h2⟩
    ·omega
    ·clear hown h2
     have hn1 := nilN
     go_wp2_with fail
     have HO7 : Aside0 (((w3.setCell ⟨w.heap.size + 1, 0, none⟩ (.slice A st.length c)).setCell ⟨w.heap.size + 1, 1, none⟩ (.slice A2 wg.length c2)).ownsRow w.heap.size 3 1 (.slice (some ⟨g, 0, none⟩) (whereL st wg).length cap) (whereL st wg).length (nums .i64 (whereL st wg))) := ⟨own_far (own_far HO6.out HB6.out (by decide) 0 _) (HB6.out.set 0 _) (by decide) 1 _⟩
     refine bodyPost_ret (v := .tuple #[.agg #[.slice A st.length c, .slice A2 wg.length c2], .slice (some ⟨g, 0, none⟩) (whereL st wg).length cap, .int .i64 (0)]) ?_ rfl ⟨_, by rw [HE2.out], by rw [HL.out]; exact HO7.out, HU7.out⟩
     clear hq1 hf1; simp [results, Tryd.results71, go_sem, hq5]
  ·have HE2 : Aside0 (owE st wg = 6) := ⟨by simp [owE, HE.out, hh]⟩
   have HL : Aside0 (owL st wg = []) := ⟨by simp [owL, HE2.out]⟩
   clear hh; go_wp2_with fail
   have HB5 := Aside0.mk ((HB4.out.set 0 (.slice A st.length c)).set 1 (.slice A2 wg.length c2))
   have HU5 := Aside0.mk ((HU4.out.set ⟨w.heap.size + 1, 0, none⟩ (.slice A st.length c) (by simp)).set ⟨w.heap.size + 1, 1, none⟩ (.slice A2 wg.length c2) (by simp))
   have hq5 := HB5.out.cell
   refine bodyPost_ret (v := .tuple #[.agg #[.slice A st.length c, .slice A2 wg.length c2], .slice none 0 0, .int .i64 (6)]) ?_ rfl ⟨.slice none 0 0, by rw [HE2.out], by rw [HL.out]; exact ⟨rfl, .inl ⟨rfl, rfl⟩⟩, HU5.out⟩
   clear hq1 hf1; simp [results, Tryd.results71, go_sem, hq5]
 ·have hd : (roadE st wg != 0) = true := by simp [he]
  have HE2 : Aside0 (owE st wg = roadE st wg) := ⟨by simp [owE, he]⟩
  have HL : Aside0 (owL st wg = []) := ⟨by simp [owL, owE, he]⟩
  have HB4 := HB3; have HU4 := HU2
  clear he hbe; go_wp2_with fail
  have HB5 := Aside0.mk ((HB4.out.set 0 (.slice A st.length c)).set 1 (.slice A2 wg.length c2))
  have HU5 := Aside0.mk ((HU4.out.set ⟨w.heap.size + 1, 0, none⟩ (.slice A st.length c) (by simp)).set ⟨w.heap.size + 1, 1, none⟩ (.slice A2 wg.length c2) (by simp))
  have hq5 := HB5.out.cell
  refine bodyPost_ret (v := .tuple #[.agg #[.slice A st.length c, .slice A2 wg.length c2], .slice none 0 0, .int .i64 (roadE st wg)]) ?_ rfl ⟨.slice none 0 0, by rw [HE2.out], by rw [HL.out]; exact ⟨rfl, .inl ⟨rfl, rfl⟩⟩, HU5.out⟩
  clear hq1 hf1; simp [results, Tryd.results71, go_sem, hq5]
end Go.Proofs.YtemingmeidmjkaaDoor.Q
namespace Go.Proofs.YtemingmeidmjkaaDoor.Q
open Go.RowKit Go.Shelf Go.Proofs.YtemingmeidmjkaaDoorW.PrintWords Go.Proofs.YtemingmeidmjkaaDoorW.PrintLast
set_option linter.unusedVariables false
set_option linter.unusedSimpArgs false
set_option maxRecDepth 100000 in
theorem Where_ (A : Option Addr) (c : Nat) (st : List Sp) (A2 : Option Addr) (c2 : Nat) (wg : List Wg) (w : World) (hG : GL w) (hr : Kd.C kSp w A st.length st) (hc : st.length ≤ c) (hr2 : Kd.C kWg w A2 wg.length wg) (hc2 : wg.length ≤ c2) :
  Calls Tryd.prog 31 #[.agg #[.slice A st.length c, .slice A2 wg.length c2]] w fun e w' => ∃ v, e = .returned (.tuple #[v, .int .i64 (owE st wg)]) ∧ w'.ownsRow w.heap.size 3 1 v (owL st wg).length (nums .i64 (owL st wg)) ∧ Up w w' := by
 have HR := Aside0.mk hr
 have HR2 := Aside0.mk hr2
 have HGL := Aside0.mk hG
 clear hr hr2 hG; have HU0 : Aside0 (Up w (w.alloc (.cells #[.slice A st.length c, .slice A2 wg.length c2] 25))) := ⟨upA⟩
 have hcall := openWhere_ A c st A2 c2 wg _ (HGL.out.up HU0.out) (C_up HR.out HU0.out) hc (C_up HR2.out HU0.out) hc2
 go_enter Tryd.func31, Tryd.ntmps31
 go_wp2_with fail
 refine hcall.mono ?_
 clear hcall; rintro e w1 ⟨v1, rfl, hown, hb⟩
 obtain ⟨A3, c3, rfl, hc3, _⟩ := ownF_slice hown
 have HU1 := Aside0.mk (HU0.out.then hb)
 have HO := Aside0.mk (own_mono hown HU0.out.le)
 clear hown hb; go_wp2_with fail
 go_ret2
 exact ⟨_, rfl, own_up HO.out upA, HU1.out.then upA⟩
def amE (st : List Sp) (wg : List Wg) (s : Int) : Int := if roadE st wg = 0 then (if inB 0 ((st.length : Int) - 1) [s] then (if thOk st wg s.toNat then 0 else 9) else 7) else roadE st wg
def amS (st : List Sp) (wg : List Wg) (s : Int) : Sp := if amE st wg s = 0 then thAmt st wg s.toNat else ⟨0, 0⟩
set_option maxRecDepth 100000 in
set_option maxHeartbeats 1000000 in
theorem amount_ (A : Option Addr) (c : Nat) (st : List Sp) (A2 : Option Addr) (c2 : Nat) (wg : List Wg) (s : Int) (w : World) (hG : GL w) (hr : Kd.C kSp w A st.length st) (hc : st.length ≤ c) (hr2 : Kd.C kWg w A2 wg.length wg) (hc2 : wg.length ≤ c2) :
  Calls Tryd.prog 32 #[.agg #[.slice A st.length c, .slice A2 wg.length c2], .int .i64 s] w fun e w' => e = .returned (.tuple #[.agg #[.int .i64 (amS st wg s).lo, .int .i64 (amS st wg s).hi], .int .i64 (amE st wg s)]) ∧ Up w w' := by
 have hm := CF_len hr
 have HR := Aside0.mk hr
 have HR2 := Aside0.mk hr2
 have HGL := Aside0.mk hG
 clear hr hr2 hG; have HU0 : Aside0 (Up w ((w.alloc (.cells #[.slice A st.length c, .slice A2 wg.length c2] 25)).alloc (.cells #[.int .i64 0, .int .i64 0] 41))) := ⟨upA⟩
 have HB4 : Aside0 (Bx ((w.alloc (.cells #[.slice A st.length c, .slice A2 wg.length c2] 25)).alloc (.cells #[.int .i64 0, .int .i64 0] 41)) (w.heap.size + 1) #[.int .i64 0, .int .i64 0] 41) := ⟨by have h9 := Bx.new (w.alloc (.cells #[.slice A st.length c, .slice A2 wg.length c2] 25)) #[.int .i64 0, .int .i64 0] 41; simpa using h9⟩
 have hcall := open_ A c st A2 c2 wg _ (C_up HR.out HU0.out) hc (C_up HR2.out HU0.out) hc2
 have hbe : (roadE st wg != 0) = !decide (roadE st wg = 0) := by by_cases h : roadE st wg = 0 <;> simp [h]
 go_enter Tryd.func32, Tryd.ntmps32
 go_wp2_with fail
 generalize ((w.alloc (.cells #[.slice A st.length c, .slice A2 wg.length c2] 25)).alloc (.cells #[.int .i64 0, .int .i64 0] 41)) = W0 at *
 refine hcall.mono ?_
 clear hcall; rintro e w1 ⟨rfl, hb⟩
 have HU1 := Aside0.mk ((HU0.out.then hb).alloc (.cells #[.slice A st.length c, .slice A2 wg.length c2] 95))
 have HB5 := Aside0.mk ((HB4.out.up hb).up ((Up.refl w1).alloc (.cells #[.slice A st.length c, .slice A2 wg.length c2] 95)))
 have HB6 : Aside0 (Bx (w1.alloc (.cells #[.slice A st.length c, .slice A2 wg.length c2] 95)) w1.heap.size #[.slice A st.length c, .slice A2 wg.length c2] 95) := ⟨Bx.new w1 _ _⟩
 have hne : w1.heap.size ≠ w.heap.size + 1 := by have := (HB4.out.up hb).lt; omega
 clear hb HB4
 by_cases he : roadE st wg = 0
 ·have hd : (roadE st wg != 0) = false := by simp [he]
  have HE := Aside0.mk he
  clear he hbe; have hok := road_ok HE.out
  have hwn : IntKind.i64.wrap ((st.length : Int) - 1) = (st.length : Int) - 1 := IntWalk.i64_in _ (by have := hok.2.2.1; omega)
  have HOK := Aside0.mk hok
  clear hok; have hcw := withinL1 0 ((st.length : Int) - 1) s (w1.alloc (.cells #[.slice A st.length c, .slice A2 wg.length c2] 95)) (w1.heap.size + 1) (by simp)
  have hq6 := HB6.out.cell
  go_wp2_with fail
  refine hcw.mono ?_
  clear hcw hq6; rintro e w2 ⟨rfl, hb⟩
  have HU2 := Aside0.mk (HU1.out.then hb)
  have HB5' := Aside0.mk (HB5.out.up hb)
  have HB6' := Aside0.mk (HB6.out.up hb)
  clear hb HB5 HB6
  cases hi : inB 0 ((st.length : Int) - 1) [s]
  ·have HE2 : Aside0 (amE st wg s = 7) := ⟨by simp [amE, HE.out, hi]⟩
   have HS2 : Aside0 (amS st wg s = ⟨0, 0⟩) := ⟨by simp [amS, HE2.out]⟩
   have hq5 := HB5'.out.cell
   have hf5 := HB5'.out.frozen
   go_wp2_with fail
   have HB7 := Aside0.mk ((HB5'.out.set 0 (.int .i64 0)).set 1 (.int .i64 0))
   have HU7 := Aside0.mk ((HU2.out.set ⟨w.heap.size + 1, 0, none⟩ (.int .i64 0) (by simp)).set ⟨w.heap.size + 1, 1, none⟩ (.int .i64 0) (by simp))
   clear hq5 hf5; have hq5 := HB7.out.cell
   refine bodyPost_ret (v := .tuple #[.agg #[.int .i64 0, .int .i64 0], .int .i64 7]) ?_ rfl ⟨by rw [HE2.out, HS2.out], HU7.out⟩
   simp [results, Tryd.results32, go_sem, hq5]
  ·have hi2 := (inB_iff _ _ _).1 hi
   simp only [List.mem_singleton, forall_eq] at hi2
   obtain ⟨sn, rfl⟩ : ∃ n : Nat, s = (n : Int) := ⟨s.toNat, by omega⟩
   have hsn : sn < st.length := by omega
   have HI := Aside0.mk hi
   have hct := theft_ A c st A2 c2 wg sn w2 (HGL.out.up HU2.out) (C_up HR.out HU2.out) hc (C_up HR2.out HU2.out) hc2 HOK.out.1 hsn
   have hq6 := HB6'.out.cell
   clear hi2 hi; go_wp2_with fail
   refine hct.mono ?_
   clear hct hq6; rintro e w3 ⟨v3, rfl, hown, hb⟩
   obtain ⟨A3, c3, rfl, hc3, _⟩ := ownF_slice hown
   have HU3 := Aside0.mk ((HU2.out.then hb).alloc (.cells #[.int .i64 (thR st wg sn).lo, .int .i64 (thR st wg sn).hi] 100))
   have HB7 := Aside0.mk ((HB5'.out.up hb).up ((Up.refl w3).alloc (.cells #[.int .i64 (thR st wg sn).lo, .int .i64 (thR st wg sn).hi] 100)))
   have HB9 : Aside0 (Bx (w3.alloc (.cells #[.int .i64 (thR st wg sn).lo, .int .i64 (thR st wg sn).hi] 100)) w3.heap.size #[.int .i64 (thR st wg sn).lo, .int .i64 (thR st wg sn).hi] 100) := ⟨Bx.new w3 _ _⟩
   clear hown hb HB5' HB6' HU2 hsn
   cases hth : thOk st wg sn
   ·have HE2 : Aside0 (amE st wg sn = 9) := ⟨by simp [amE, HE.out, HI.out, hth]⟩
    have HS2 : Aside0 (amS st wg sn = ⟨0, 0⟩) := ⟨by simp [amS, HE2.out]⟩
    have hq5 := HB7.out.cell; have hf5 := HB7.out.frozen
    clear hth; go_wp2_with fail
    have HB8 := Aside0.mk ((HB7.out.set 0 (.int .i64 0)).set 1 (.int .i64 0))
    have HU7 := Aside0.mk ((HU3.out.set ⟨w.heap.size + 1, 0, none⟩ (.int .i64 0) (by simp)).set ⟨w.heap.size + 1, 1, none⟩ (.int .i64 0) (by simp))
    clear hq5 hf5; have hq5 := HB8.out.cell
    refine bodyPost_ret (v := .tuple #[.agg #[.int .i64 0, .int .i64 0], .int .i64 9]) ?_ rfl ⟨by rw [HE2.out, HS2.out], HU7.out⟩
    simp [results, Tryd.results32, go_sem, hq5]
   ·have HE2 : Aside0 (amE st wg sn = 0) := ⟨by simp [amE, HE.out, HI.out, hth]⟩
    have HS2 : Aside0 (amS st wg sn = thR st wg sn) := ⟨by simp [amS, HE2.out, thR, hth]⟩
    have hq9 := HB9.out.cell
    have hcs := span_ (thR st wg sn) (w3.alloc (.cells #[.int .i64 (thR st wg sn).lo, .int .i64 (thR st wg sn).hi] 100))
    clear hth; go_wp2_with fail
    refine hcs.mono ?_
    clear hcs hq9; rintro e w4 ⟨rfl, hb⟩
    have HU4 := Aside0.mk (HU3.out.then hb)
    have HB8 := Aside0.mk (HB7.out.up hb)
    have hq5 := HB8.out.cell; have hf5 := HB8.out.frozen
    clear hb; go_wp2_with fail
    have HB10 := Aside0.mk ((HB8.out.set 0 (.int .i64 (thR st wg sn).lo)).set 1 (.int .i64 (thR st wg sn).hi))
    have HU7 := Aside0.mk ((HU4.out.set ⟨w.heap.size + 1, 0, none⟩ (.int .i64 (thR st wg sn).lo) (by simp)).set ⟨w.heap.size + 1, 1, none⟩ (.int .i64 (thR st wg sn).hi) (by simp))
    clear hq5 hf5; have hq5 := HB10.out.cell
    refine bodyPost_ret (v := .tuple #[.agg #[.int .i64 (thR st wg sn).lo, .int .i64 (thR st wg sn).hi], .int .i64 0]) ?_ rfl ⟨by rw [HE2.out, HS2.out], HU7.out⟩
    simp [results, Tryd.results32, go_sem, hq5]
 ·have hd : (roadE st wg != 0) = true := by simp [he]
  have HE2 : Aside0 (amE st wg s = roadE st wg) := ⟨by simp [amE, he]⟩
  have HS2 : Aside0 (amS st wg s = ⟨0, 0⟩) := ⟨by simp [amS, amE, he]⟩
  have hq5 := HB5.out.cell; have hf5 := HB5.out.frozen
  clear he hbe; go_wp2_with fail
  have HB7 := Aside0.mk ((HB5.out.set 0 (.int .i64 0)).set 1 (.int .i64 0))
  have HU7 := Aside0.mk ((HU1.out.set ⟨w.heap.size + 1, 0, none⟩ (.int .i64 0) (by simp)).set ⟨w.heap.size + 1, 1, none⟩ (.int .i64 0) (by simp))
  clear hq5 hf5; have hq5 := HB7.out.cell
  refine bodyPost_ret (v := .tuple #[.agg #[.int .i64 0, .int .i64 0], .int .i64 (roadE st wg)]) ?_ rfl ⟨by rw [HE2.out, HS2.out], HU7.out⟩
  simp [results, Tryd.results32, go_sem, hq5]
end Go.Proofs.YtemingmeidmjkaaDoor.Q
namespace Go.Proofs.YtemingmeidmjkaaDoor.Q
open Go.RowKit Go.Shelf Go.Proofs.YtemingmeidmjkaaDoorW.PrintWords Go.Proofs.YtemingmeidmjkaaDoorW.PrintLast
set_option linter.unusedVariables false
set_option linter.unusedSimpArgs false
def leN (st : List Sp) (x : Int) : Nat → Int
 | 0 => x
 | k + 1 => loS (rdS st k) (leN st x k)
theorem leN_bd {st : List Sp} {wg : List Wg} (h : RdOk st wg) {x : Int} (h0 : 0 ≤ x) : ∀ k : Nat, k ≤ st.length → 0 ≤ leN st x k ∧ leN st x k ≤ x
 | 0, _ => ⟨h0, Int.le_refl _⟩
 | k + 1, hk => by
  obtain ⟨h1, h2⟩ := leN_bd h h0 k (by omega)
  have h3 := h.at k (by omega) (by omega)
  have h4 := loS_nn h3 h1
  have h5 := loS_hiS h3 h1
  have h6 := hiS_le h3 h1
  rw [leN]
  omega
theorem fld0 (w : World) (a b : Int) : (Instr.field 100 (.agg #[.int .i64 a, .int .i64 b]) 0).run Tryd.prog w = .ok (.int .i64 a) w := by kernel_rfl
set_option maxRecDepth 100000 in
theorem need1_ (A : Option Addr) (c : Nat) (st : List Sp) (A2 : Option Addr) (c2 : Nat) (wg : List Wg) (x : Int) (b : Nat) (w : World) (hr : Kd.C kSp w A st.length st) (hc : st.length ≤ c) (hr2 : Kd.C kWg w A2 wg.length wg) (hc2 : wg.length ≤ c2) (hok : RdOk st wg) (hx : 0 ≤ x ∧ x ≤ 400) (hb : Bx w b #[.slice A st.length c, .slice A2 wg.length c2] 95) :
  Calls Tryd.prog 91 #[.int .i64 x, .pointer (some ⟨b, 0, none⟩)] w fun e w' => e = .returned (.int .i64 (leN st x st.length)) ∧ Up w w' := by
 have hm := CF_len hr
 have hl1 := hok.len
 have HR := Aside0.mk hr
 have HR2 := Aside0.mk hr2
 have HOK := Aside0.mk hok
 have HB := Aside0.mk hb
 have hq := hb.cell
 clear hr hr2 hok hb; go_enter Tryd.func91, Tryd.ntmps91
 go_wp2_with fail
 clear hq; go_loopw [0, 9] (fun v0 i wr => ∃ k : Nat, k ≤ st.length ∧ i = .int .i64 (k : Int) ∧ v0 = .int .i64 (leN st x k) ∧ Aside0 (Up w wr)) (fun _ i _ => st.length - (intOf i).toNat)
 case atStart => exact ⟨0, Nat.zero_le _, rfl, rfl, ⟨Up.refl _⟩⟩
 case round =>
  obtain ⟨k, hk, rfl, rfl, hU⟩ := hrel
  by_cases hlt : k < st.length
  ·have hk1 : (k : Int) < (st.length : Int) := by omega
   have hwk : IntKind.i64.wrap ((k : Int) + 1) = (k : Int) + 1 := IntWalk.i64_in _ (by omega)
   have hbd := leN_bd HOK.out hx.1 k hk
   have hcl := left_ A c st A2 c2 wg k (leN st x k) wr (C_up HR.out hU.out) hc (C_up HR2.out hU.out) hc2 (by omega) hk1 (HOK.out.at k (by omega) hk1) ⟨hbd.1, by omega⟩
   have hq := (HB.out.up hU.out).cell
   have hf0 := fld0
   have HL : Aside0 (leN st x (k + 1) = loS (rdS st k) (leN st x k)) := ⟨rfl⟩
   go_wp2_with fail
   refine hcl.mono ?_
   clear hcl hq; rintro e w2 ⟨rfl, hu⟩
   have HU2 := Aside0.mk (hU.out.then hu)
   clear hu; go_wp2_with fail
   go_roundw
   case rel => exact ⟨k + 1, by omega, by go_num, by rw [HL.out], HU2⟩
   case measure => simp [intOf]; omega
  ·obtain rfl : k = st.length := by omega
   go_wp2_with fail
   go_ret
   exact ⟨rfl, hU.out⟩
set_option maxRecDepth 100000 in
theorem need2_ (A : Option Addr) (c : Nat) (st : List Sp) (A2 : Option Addr) (c2 : Nat) (wg : List Wg) (x want : Int) (b b8 b3 : Nat) (w : World) (hr : Kd.C kSp w A st.length st) (hc : st.length ≤ c) (hr2 : Kd.C kWg w A2 wg.length wg) (hc2 : wg.length ≤ c2) (hok : RdOk st wg) (hx : 0 ≤ x ∧ x ≤ 400) (hb : Bx w b #[.slice A st.length c, .slice A2 wg.length c2] 95)
  (h8 : Bx w b8 #[.func (.func 91) #[] #[.pointer (some ⟨b, 0, none⟩)]] 133) (h3 : Bx w b3 #[.int .i64 want] 3) :
  Calls Tryd.prog 93 #[.int .i64 x, .pointer (some ⟨b8, 0, none⟩), .pointer (some ⟨b3, 0, none⟩)] w fun e w' => e = .returned (.bool (decide (leN st x st.length ≥ want))) ∧ Up w w' := by
 have hcl := need1_ A c st A2 c2 wg x b w.drew hr hc hr2 hc2 hok hx hb
 have hq8 := h8.cell; have hq3 := h3.cell
 have H8 := Aside0.mk h8
 have H3 := Aside0.mk h3
 clear hr hr2 hok hb h8 h3; have hen := enters_of Tryd.func91 (by kernel_rfl) rfl
 go_enter Tryd.func93, Tryd.ntmps93
 go_wp2_with fail
 -- EV n2
 refine start_ (n := 6) (S := fun W' => W'.cell? ⟨b8, 0, none⟩ = some (.func (.func 91) #[] #[.pointer (some ⟨b, 0, none⟩)]) ∧ W'.cell? ⟨b3, 0, none⟩ = some (.int .i64 want)) (ds := []) #[false, false, false, false, false, false] (by kernel_rfl) rfl rfl ⟨hq8 0, hq3 0⟩ (fun hHeld => ?_)
 refine take_ (i := 0) (N := (some 5)) (v := ?_) (a' := ?_) #[true, false, false, false, false, false] rfl rfl (by kernel_rfl) (fun _ _ _ h => h) (Or.inl ⟨by rfl, ?_⟩) hHeld ?_ ?_
 rotate_left
 ·rintro w' ⟨s0, s1⟩
  go_simp
  with_reducible rfl
 rotate_left
 ·simp only [Act.put, List.setIfInBounds_toArray, List.set_cons_zero, List.set_cons_succ, i64_w, i32_w]; rfl
 refine pure_ (i := 1) (N := (some 6)) (v := ?_) (a' := ?_) #[true, true, false, false, false, false] rfl rfl (by kernel_rfl) (fun _ _ _ h => h) (Or.inl ⟨by rfl, ?_⟩) ?_ ?_
 rotate_left
 ·intro w'
  go_simp
  with_reducible rfl
 rotate_left
 ·simp only [Act.put, List.setIfInBounds_toArray, List.set_cons_zero, List.set_cons_succ, i64_w, i32_w]; rfl
 refine take_ (i := 3) (N := (some 8)) (v := ?_) (a' := ?_) #[true, true, false, true, false, false] rfl rfl (by kernel_rfl) (fun _ _ _ h => h) (Or.inl ⟨by rfl, ?_⟩) hHeld ?_ ?_
 rotate_left
 ·rintro w' ⟨s0, s1⟩
  go_simp
  with_reducible rfl
 rotate_left
 ·simp only [Act.put, List.setIfInBounds_toArray, List.set_cons_zero, List.set_cons_succ, i64_w, i32_w]; rfl
 refine one_ (i := 2) (N := (some 7)) #[true, true, true, true, false, false] rfl rfl (by kernel_rfl) (by decide) (fun K hK => ?_)
 refine call_ 91 #[.int .i64 x, .pointer (some ⟨b, 0, none⟩)] (by rfl) rfl ?_ ?_
 ·go_simp
 refine (hcl).mono ?_
 rintro e w1 ⟨rfl, hu⟩
 have HV : Aside0 (Up w w1) := ⟨((Up.refl w).drew).then hu⟩
 have hq8' := (H8.out.up HV.out).cell
 have hq3' := (H3.out.up HV.out).cell
 clear hu; refine ⟨_, rfl, ?_⟩
 refine hK.out _ _ ⟨hq8' 0, hq3' 0⟩ (fun hHeld => ?_)
 clear hK K; refine norm_ (a' := ?_) ?_ ?_
 rotate_left
 ·show Act.put _ (some 7) _ = _
  simp only [Act.put, List.setIfInBounds_toArray, List.set_cons_zero, List.set_cons_succ, i64_w, i32_w]
  rfl
 refine pure_ (i := 4) (N := (some 9)) (v := ?_) (a' := ?_) #[true, true, true, true, true, false] rfl rfl (by kernel_rfl) (fun _ _ _ h => h) (Or.inl ⟨by rfl, ?_⟩) ?_ ?_
 rotate_left
 ·intro w'
  go_simp
  with_reducible rfl
 rotate_left
 ·simp only [Act.put, List.setIfInBounds_toArray, List.set_cons_zero, List.set_cons_succ, i64_w, i32_w]; rfl
 refine pure_ (i := 5) (N := (some 4)) (v := ?_) (a' := ?_) #[true, true, true, true, true, true] rfl rfl (by kernel_rfl) (fun _ _ _ h => h) (Or.inl ⟨by rfl, ?_⟩) ?_ ?_
 rotate_left
 ·intro w'
  go_simp
  with_reducible rfl
 rotate_left
 ·simp only [Act.put, List.setIfInBounds_toArray, List.set_cons_zero, List.set_cons_succ, i64_w, i32_w]; rfl
 refine done_ (by kernel_rfl) ?_
 -- END n2
 go_wp2_with fail
 go_ret
 exact ⟨rfl, HV.out⟩
end Go.Proofs.YtemingmeidmjkaaDoor.Q
namespace Go.Proofs.YtemingmeidmjkaaDoor.Q
open Go.RowKit Go.Shelf Go.Proofs.YtemingmeidmjkaaDoorW.PrintWords Go.Proofs.YtemingmeidmjkaaDoorW.PrintLast
set_option linter.unusedVariables false
set_option linter.unusedSimpArgs false
def bsS (f : Int → Bool) : Nat → Int → Int → Int
 | 0, i, _ => i
 | k + 1, i, j => if i < j then (if f ((i + j) / 2) then bsS f k i ((i + j) / 2) else bsS f k ((i + j) / 2 + 1) j) else i
set_option maxRecDepth 100000 in
theorem search_ (f : Int → Bool) (b8 b3 : Nat) (n : Int) (w : World) (hn : 0 ≤ n ∧ n ≤ 1000)
  (hf : ∀ (x : Int) (W : World), 0 ≤ x → x < n → Up w W → Calls Tryd.prog 93 #[.int .i64 x, .pointer (some ⟨b8, 0, none⟩), .pointer (some ⟨b3, 0, none⟩)] W fun e w' => e = .returned (.bool (f x)) ∧ Up W w') :
  Calls Tryd.prog 92 #[.int .i64 n, .func (.func 93) #[] #[.pointer (some ⟨b8, 0, none⟩), .pointer (some ⟨b3, 0, none⟩)]] w fun e w' => e = .returned (.int .i64 (bsS f 1001 0 n)) ∧ Up w w' := by
 have HF := Aside0.mk hf
 clear hf; have hen := enters_of Tryd.func93 (by kernel_rfl) rfl
 go_enter Tryd.func92, Tryd.ntmps92
 go_wp2_with fail
 go_loopw [5, 6] (fun v5 v6 wr => ∃ (i j : Int) (k : Nat), 0 ≤ i ∧ i ≤ j ∧ j ≤ n ∧ j - i < k ∧ v5 = .int .i64 i ∧ v6 = .int .i64 j ∧ Aside0 (bsS f 1001 0 n = bsS f k i j) ∧ Aside0 (Up w wr)) (fun v5 v6 _ => (intOf v6 - intOf v5).toNat)
 case atStart => exact ⟨0, n, 1001, by omega, by omega, by omega, by omega, rfl, rfl, ⟨rfl⟩, ⟨Up.refl _⟩⟩
 case round =>
  obtain ⟨i, j, k, hi, hij, hjn, hk, rfl, rfl, hB, hU⟩ := hrel
  obtain ⟨k, rfl⟩ : ∃ m, k = m + 1 := ⟨k - 1, by omega⟩
  by_cases hlt : i < j
  ·have hw1 : IntKind.i64.wrap (i + j) = i + j := IntWalk.i64_in _ (by omega)
   have hh0 : 0 ≤ (i + j) / 2 := by omega
   have hh1 : (i + j) / 2 < j := by omega
   have hh2 : i ≤ (i + j) / 2 := by omega
   have hcl := HF.out ((i + j) / 2) wr hh0 (by omega) hU.out
   go_wp2_with fail
   refine hcl.mono ?_
   clear hcl; rintro e w2 ⟨rfl, hu⟩
   have HU2 := Aside0.mk (hU.out.then hu)
   clear hu
   cases hv : f ((i + j) / 2)
   ·have HS : Aside0 (bsS f 1001 0 n = bsS f k ((i + j) / 2 + 1) j) := ⟨by rw [hB.out, bsS, if_pos hlt, hv]; rfl⟩
    have hw2 : IntKind.i64.wrap ((i + j) / 2 + 1) = (i + j) / 2 + 1 := IntWalk.i64_in _ (by omega)
    clear hv; go_wp2_with fail
    go_roundw
    case rel => exact ⟨(i + j) / 2 + 1, j, k, by omega, by omega, by omega, by omega, rfl, rfl, HS, HU2⟩
    case measure => simp [intOf]; omega
   ·have HS : Aside0 (bsS f 1001 0 n = bsS f k i ((i + j) / 2)) := ⟨by rw [hB.out, bsS, if_pos hlt, hv]; rfl⟩
    clear hv; go_wp2_with fail
    go_roundw
    case rel => exact ⟨i, (i + j) / 2, k, by omega, by omega, by omega, by omega, rfl, rfl, HS, HU2⟩
    case measure => simp [intOf]; omega
  ·have hij2 : i = j := by omega
   subst hij2
   go_wp2_with fail
   go_ret
   exact ⟨by rw [hB.out, bsS, if_neg (by omega)]; rfl, hU.out⟩
theorem st_func {P : Program} {w : World} {a : Addr} {m : Mode} (fn : Fn) (first captured : Array Value) : (store a (.func fn first captured) m).run P w = stored P w a (.func fn first captured) m := run_store P w a _ m rfl
attribute [local go_sem] st_func
def ndV (st : List Sp) (want : Int) : Int := bsS (fun x => decide (leN st x st.length ≥ want)) 1001 0 401
def ndE (st : List Sp) (wg : List Wg) (want : Int) : Int := if roadE st wg = 0 then (if inB 0 400 [want] then (if ndV st want > 400 then 7 else 0) else 3) else roadE st wg
def ndR (st : List Sp) (wg : List Wg) (want : Int) : Int := if ndE st wg want = 0 then ndV st want else 0
set_option maxRecDepth 100000 in
set_option maxHeartbeats 1000000 in
theorem need_ (A : Option Addr) (c : Nat) (st : List Sp) (A2 : Option Addr) (c2 : Nat) (wg : List Wg) (want : Int) (w : World) (hr : Kd.C kSp w A st.length st) (hc : st.length ≤ c) (hr2 : Kd.C kWg w A2 wg.length wg) (hc2 : wg.length ≤ c2) :
  Calls Tryd.prog 43 #[.agg #[.slice A st.length c, .slice A2 wg.length c2], .int .i64 want] w fun e w' => e = .returned (.tuple #[.int .i64 (ndR st wg want), .int .i64 (ndE st wg want)]) ∧ Up w w' := by
 have HR := Aside0.mk hr
 have HR2 := Aside0.mk hr2
 clear hr hr2; have HU0 : Aside0 (Up w ((w.alloc (.cells #[.slice A st.length c, .slice A2 wg.length c2] 25)).alloc (.cells #[.int .i64 want] 3))) := ⟨upA⟩
 have HB3 : Aside0 (Bx ((w.alloc (.cells #[.slice A st.length c, .slice A2 wg.length c2] 25)).alloc (.cells #[.int .i64 want] 3)) (w.heap.size + 1) #[.int .i64 want] 3) := ⟨by have h9 := Bx.new (w.alloc (.cells #[.slice A st.length c, .slice A2 wg.length c2] 25)) #[.int .i64 want] 3; simpa using h9⟩
 have hcall := open_ A c st A2 c2 wg _ (C_up HR.out HU0.out) hc (C_up HR2.out HU0.out) hc2
 have hbe : (roadE st wg != 0) = !decide (roadE st wg = 0) := by by_cases h : roadE st wg = 0 <;> simp [h]
 go_enter Tryd.func43, Tryd.ntmps43
 go_wp2_with fail
 generalize ((w.alloc (.cells #[.slice A st.length c, .slice A2 wg.length c2] 25)).alloc (.cells #[.int .i64 want] 3)) = W0 at *
 refine hcall.mono ?_
 clear hcall; rintro e w1 ⟨rfl, hb⟩
 have HU1 := Aside0.mk ((HU0.out.then hb).alloc (.cells #[.slice A st.length c, .slice A2 wg.length c2] 95))
 have HB4 := Aside0.mk ((HB3.out.up hb).up ((Up.refl w1).alloc (.cells #[.slice A st.length c, .slice A2 wg.length c2] 95)))
 have HB6 : Aside0 (Bx (w1.alloc (.cells #[.slice A st.length c, .slice A2 wg.length c2] 95)) w1.heap.size #[.slice A st.length c, .slice A2 wg.length c2] 95) := ⟨Bx.new w1 _ _⟩
 clear hb HB3
 by_cases he : roadE st wg = 0
 ·have hd : (roadE st wg != 0) = false := by simp [he]
  have HE := Aside0.mk he
  clear he hbe; have hcw := withinL1 0 400 want (w1.alloc (.cells #[.slice A st.length c, .slice A2 wg.length c2] 95)) (w1.heap.size + 1) (by simp)
  have hq3 := HB4.out.cell
  go_wp2_with fail
  refine hcw.mono ?_
  clear hcw hq3; rintro e w2 ⟨rfl, hb⟩
  have HU2 := Aside0.mk (HU1.out.then hb)
  have HB4' := Aside0.mk (HB4.out.up hb)
  have HB6' := Aside0.mk (HB6.out.up hb)
  clear hb HB4 HB6
  cases hi : inB 0 400 [want]
  ·have HE2 : Aside0 (ndE st wg want = 3) := ⟨by simp [ndE, HE.out, hi]⟩
   have HS2 : Aside0 (ndR st wg want = 0) := ⟨by simp [ndR, HE2.out]⟩
   clear hi; go_wp2_with fail
   go_ret2
   exact ⟨by rw [HE2.out, HS2.out]; rfl, HU2.out⟩
  ·have HI := Aside0.mk hi
   obtain ⟨W3, hW3⟩ : ∃ W, W = w2.alloc (.cells #[.func (.func 91) #[] #[.pointer (some ⟨w1.heap.size, 0, none⟩)]] 133) := ⟨_, rfl⟩
   have HU3 : Aside0 (Up w W3) := ⟨by rw [hW3]; exact HU2.out.alloc _⟩
   have HB8 : Aside0 (Bx W3 w2.heap.size #[.func (.func 91) #[] #[.pointer (some ⟨w1.heap.size, 0, none⟩)]] 133) := ⟨by rw [hW3]; exact Bx.new w2 _ _⟩
   have HB43 : Aside0 (Bx W3 (w.heap.size + 1) #[.int .i64 want] 3) := ⟨by rw [hW3]; exact HB4'.out.up ((Up.refl _).alloc _)⟩
   have HB63 : Aside0 (Bx W3 w1.heap.size #[.slice A st.length c, .slice A2 wg.length c2] 95) := ⟨by rw [hW3]; exact HB6'.out.up ((Up.refl _).alloc _)⟩
   have hcs := search_ (fun x => decide (leN st x st.length ≥ want)) w2.heap.size (w.heap.size + 1) 401 W3 (by omega) (fun x W h0 h1 hu => need2_ A c st A2 c2 wg x want w1.heap.size w2.heap.size (w.heap.size + 1) W (C_up HR.out (HU3.out.then hu)) hc (C_up HR2.out (HU3.out.then hu)) hc2 (road_ok HE.out).1 ⟨h0, by omega⟩ (HB63.out.up hu) (HB8.out.up hu) (HB43.out.up hu))
   rw [hW3] at hcs
   clear hi; go_wp2_with fail
   refine hcs.mono ?_
   clear hcs; rintro e w4 ⟨rfl, hb⟩
   rw [← hW3] at hb
   have HU4 := Aside0.mk (HU3.out.then hb)
   clear hb hW3; have HV : Aside0 (bsS (fun x => decide (leN st x st.length ≥ want)) 1001 0 401 = ndV st want) := ⟨rfl⟩
   rw [HV.out]
   by_cases hg : ndV st want > 400
   ·have HE2 : Aside0 (ndE st wg want = 7) := ⟨by simp [ndE, HE.out, HI.out, hg]⟩
    have HS2 : Aside0 (ndR st wg want = 0) := ⟨by simp [ndR, HE2.out]⟩
    go_wp2_with fail
    go_ret2
    exact ⟨by rw [HE2.out, HS2.out]; rfl, HU4.out⟩
   ·have HE2 : Aside0 (ndE st wg want = 0) := ⟨by simp [ndE, HE.out, HI.out, hg]⟩
    have HS2 : Aside0 (ndR st wg want = ndV st want) := ⟨by simp [ndR, HE2.out]⟩
    go_wp2_with fail
    go_ret2
    exact ⟨by rw [HE2.out, HS2.out]; rfl, HU4.out⟩
 ·have hd : (roadE st wg != 0) = true := by simp [he]
  have HE2 : Aside0 (ndE st wg want = roadE st wg) := ⟨by simp [ndE, he]⟩
  have HS2 : Aside0 (ndR st wg want = 0) := ⟨by simp [ndR, ndE, he]⟩
  clear he hbe; go_wp2_with fail
  go_ret2
  exact ⟨by rw [HE2.out, HS2.out]; rfl, HU1.out⟩
end Go.Proofs.YtemingmeidmjkaaDoor.Q
namespace Go.Proofs.YtemingmeidmjkaaDoor.Q
open Go.RowKit Go.Proofs.YtemingmeidmjkaaDoorW.PrintWords Go.Proofs.YtemingmeidmjkaaDoorW.PrintLast Go.Proofs.YtemingmeidmjkaaDoorW.PrintMore
attribute [local go_sem] max2_int min2_int max_two min_two max_three min_three max_four min_four   -- for this text's walks alone
set_option linter.unusedVariables false
set_option linter.unusedSimpArgs false
def cmp_isNaN_int.f (a0 : Int) : Option (Bool) := some (a0 != a0)
set_option maxHeartbeats 8000000 in
set_option maxRecDepth 100000 in
theorem cmp_isNaN_int.calls (a0 : Int) (r : Bool) (w : World) (h : cmp_isNaN_int.f a0 = some r) :
  Calls Tryd.prog 112 #[.int .i64 a0] w fun e w' => e = .returned (.bool r) ∧ Drawn0 w w' := by
 have H : (some (a0 != a0)) = some r := h
 clear h; obtain rfl := Option.some.inj H
 go_enter Tryd.func112, Tryd.ntmps112
 go_wp2
 go_ret
 exact ⟨by first | rfl | (simp; done) | (simp [*]; done), by repeat (first | exact Drawn0.refl _ | apply Drawn0.step)⟩
def cmp_Compare_int.f (a0 : Int) (a1 : Int) : Option (Int) := (cmp_isNaN_int.f a0).bind fun t145 => ((cmp_isNaN_int.f a1).bind fun t146 => (if t145 = true then (if t146 = true then (some 0) else (some (-1))) else (if t146 = true then (some 1) else (if a0 < a1 then (some (-1)) else (if a0 > a1 then (some 1) else (some 0))))))
set_option maxHeartbeats 8000000 in
set_option maxRecDepth 100000 in
theorem cmp_Compare_int.calls (a0 : Int) (a1 : Int) (r : Int) (w : World) (h : cmp_Compare_int.f a0 a1 = some r) :
  Calls Tryd.prog 106 #[.int .i64 a0, .int .i64 a1] w fun e w' => e = .returned (.int .i64 r) ∧ Drawn0 w w' := by
 have H : ((cmp_isNaN_int.f a0).bind fun t145 => ((cmp_isNaN_int.f a1).bind fun t146 => (if t145 = true then (if t146 = true then (some 0) else (some (-1))) else (if t146 = true then (some 1) else (if a0 < a1 then (some (-1)) else (if a0 > a1 then (some 1) else (some 0))))))) = some r := h
 clear h
 replace H := Option.bind_eq_some_iff.mp H
 obtain ⟨t145, A30, H⟩ := H
 replace H : ((cmp_isNaN_int.f a1).bind fun t146 => (if t145 = true then (if t146 = true then (some 0) else (some (-1))) else (if t146 = true then (some 1) else (if a0 < a1 then (some (-1)) else (if a0 > a1 then (some 1) else (some 0)))))) = some r := H
 have A3 := Aside0.mk A30
 clear A30
 replace H := Option.bind_eq_some_iff.mp H
 obtain ⟨t146, A40, H⟩ := H
 replace H : (if t145 = true then (if t146 = true then (some 0) else (some (-1))) else (if t146 = true then (some 1) else (if a0 < a1 then (some (-1)) else (if a0 > a1 then (some 1) else (some 0))))) = some r := H
 have A4 := Aside0.mk A40
 clear A40
 by_cases c5 : t145 = true
 ·subst c5
  have H1 : (if t146 = true then (some 0) else (some (-1))) = some r := by rw [if_pos rfl] at H; exact H
  clear H; have H := H1
  clear H1
  by_cases c6 : t146 = true
  ·subst c6
   have H1 : (some 0) = some r := by rw [if_pos rfl] at H; exact H
   clear H; have H := H1
   clear H1; obtain rfl := Option.some.inj H
   go_enter Tryd.func106, Tryd.ntmps106
   go_wp2_with (first | ((with_reducible refine gate_callee (f := 112) rfl ?_); refine goesL_ (some 8) rfl rfl Tryd.func112 (by kernel_rfl) rfl #[.int .i64 a0] rfl (by (try simp only [List.map_toArray, List.map_cons, List.map_nil]); first | done | rfl | (simp only [List.length_drop, List.length_take]; rfl)) ?_; (with_reducible refine (cmp_isNaN_int.calls a0 true _ A3.out).mono ?_); rintro e w' ⟨rfl, ⟨nd, rfl⟩⟩; refine ⟨_, rfl, ?_⟩) | ((with_reducible refine gate_callee (f := 112) rfl ?_); refine goesL_ (some 10) rfl rfl Tryd.func112 (by kernel_rfl) rfl #[.int .i64 a1] rfl (by (try simp only [List.map_toArray, List.map_cons, List.map_nil]); first | done | rfl | (simp only [List.length_drop, List.length_take]; rfl)) ?_; (with_reducible refine (cmp_isNaN_int.calls a1 true _ A4.out).mono ?_); rintro e w' ⟨rfl, ⟨nd, rfl⟩⟩; refine ⟨_, rfl, ?_⟩))
   go_ret
   exact ⟨by first | rfl | (simp; done) | (simp [*]; done), by repeat (first | exact Drawn0.refl _ | apply Drawn0.step)⟩
  ·replace c6 := Bool.eq_false_iff.mpr c6
   subst c6
   have H1 : (some (-1)) = some r := by rw [if_neg (show ¬ (false = true) by decide)] at H; exact H
   clear H; have H := H1
   clear H1; obtain rfl := Option.some.inj H
   go_enter Tryd.func106, Tryd.ntmps106
   go_wp2_with (first | ((with_reducible refine gate_callee (f := 112) rfl ?_); refine goesL_ (some 8) rfl rfl Tryd.func112 (by kernel_rfl) rfl #[.int .i64 a0] rfl (by (try simp only [List.map_toArray, List.map_cons, List.map_nil]); first | done | rfl | (simp only [List.length_drop, List.length_take]; rfl)) ?_; (with_reducible refine (cmp_isNaN_int.calls a0 true _ A3.out).mono ?_); rintro e w' ⟨rfl, ⟨nd, rfl⟩⟩; refine ⟨_, rfl, ?_⟩) | ((with_reducible refine gate_callee (f := 112) rfl ?_); refine goesL_ (some 10) rfl rfl Tryd.func112 (by kernel_rfl) rfl #[.int .i64 a1] rfl (by (try simp only [List.map_toArray, List.map_cons, List.map_nil]); first | done | rfl | (simp only [List.length_drop, List.length_take]; rfl)) ?_; (with_reducible refine (cmp_isNaN_int.calls a1 false _ A4.out).mono ?_); rintro e w' ⟨rfl, ⟨nd, rfl⟩⟩; refine ⟨_, rfl, ?_⟩))
   go_ret
   exact ⟨by first | rfl | (simp; done) | (simp [*]; done), by repeat (first | exact Drawn0.refl _ | apply Drawn0.step)⟩
 ·replace c5 := Bool.eq_false_iff.mpr c5
  subst c5
  have H1 : (if t146 = true then (some 1) else (if a0 < a1 then (some (-1)) else (if a0 > a1 then (some 1) else (some 0)))) = some r := by rw [if_neg (show ¬ (false = true) by decide)] at H; exact H
  clear H; have H := H1
  clear H1
  by_cases c7 : t146 = true
  ·subst c7
   have H1 : (some 1) = some r := by rw [if_pos rfl] at H; exact H
   clear H; have H := H1
   clear H1; obtain rfl := Option.some.inj H
   go_enter Tryd.func106, Tryd.ntmps106
   go_wp2_with (first | ((with_reducible refine gate_callee (f := 112) rfl ?_); refine goesL_ (some 8) rfl rfl Tryd.func112 (by kernel_rfl) rfl #[.int .i64 a0] rfl (by (try simp only [List.map_toArray, List.map_cons, List.map_nil]); first | done | rfl | (simp only [List.length_drop, List.length_take]; rfl)) ?_; (with_reducible refine (cmp_isNaN_int.calls a0 false _ A3.out).mono ?_); rintro e w' ⟨rfl, ⟨nd, rfl⟩⟩; refine ⟨_, rfl, ?_⟩) | ((with_reducible refine gate_callee (f := 112) rfl ?_); refine goesL_ (some 10) rfl rfl Tryd.func112 (by kernel_rfl) rfl #[.int .i64 a1] rfl (by (try simp only [List.map_toArray, List.map_cons, List.map_nil]); first | done | rfl | (simp only [List.length_drop, List.length_take]; rfl)) ?_; (with_reducible refine (cmp_isNaN_int.calls a1 true _ A4.out).mono ?_); rintro e w' ⟨rfl, ⟨nd, rfl⟩⟩; refine ⟨_, rfl, ?_⟩))
   go_ret
   exact ⟨by first | rfl | (simp; done) | (simp [*]; done), by repeat (first | exact Drawn0.refl _ | apply Drawn0.step)⟩
  ·replace c7 := Bool.eq_false_iff.mpr c7
   subst c7
   have H1 : (if a0 < a1 then (some (-1)) else (if a0 > a1 then (some 1) else (some 0))) = some r := by rw [if_neg (show ¬ (false = true) by decide)] at H; exact H
   clear H; have H := H1
   clear H1
   by_cases c8 : a0 < a1
   ·rw [if_pos c8] at H
    have c8b0 : decide (a0 < a1) = true := decide_eq_true c8
    clear c8; obtain rfl := Option.some.inj H
    go_enter Tryd.func106, Tryd.ntmps106
    go_wp2_with (first | ((with_reducible refine gate_callee (f := 112) rfl ?_); refine goesL_ (some 8) rfl rfl Tryd.func112 (by kernel_rfl) rfl #[.int .i64 a0] rfl (by (try simp only [List.map_toArray, List.map_cons, List.map_nil]); first | done | rfl | (simp only [List.length_drop, List.length_take]; rfl)) ?_; (with_reducible refine (cmp_isNaN_int.calls a0 false _ A3.out).mono ?_); rintro e w' ⟨rfl, ⟨nd, rfl⟩⟩; refine ⟨_, rfl, ?_⟩) | ((with_reducible refine gate_callee (f := 112) rfl ?_); refine goesL_ (some 10) rfl rfl Tryd.func112 (by kernel_rfl) rfl #[.int .i64 a1] rfl (by (try simp only [List.map_toArray, List.map_cons, List.map_nil]); first | done | rfl | (simp only [List.length_drop, List.length_take]; rfl)) ?_; (with_reducible refine (cmp_isNaN_int.calls a1 false _ A4.out).mono ?_); rintro e w' ⟨rfl, ⟨nd, rfl⟩⟩; refine ⟨_, rfl, ?_⟩))
    go_ret
    exact ⟨by first | rfl | (simp; done) | (simp [*]; done), by repeat (first | exact Drawn0.refl _ | apply Drawn0.step)⟩
   ·rw [if_neg c8] at H
    have c8b0 : decide (a0 < a1) = false := decide_eq_false c8
    clear c8
    by_cases c9 : a0 > a1
    ·rw [if_pos c9] at H
     have c9b0 : decide (a1 < a0) = true := decide_eq_true c9
     clear c9; obtain rfl := Option.some.inj H
     go_enter Tryd.func106, Tryd.ntmps106
     go_wp2_with (first | ((with_reducible refine gate_callee (f := 112) rfl ?_); refine goesL_ (some 8) rfl rfl Tryd.func112 (by kernel_rfl) rfl #[.int .i64 a0] rfl (by (try simp only [List.map_toArray, List.map_cons, List.map_nil]); first | done | rfl | (simp only [List.length_drop, List.length_take]; rfl)) ?_; (with_reducible refine (cmp_isNaN_int.calls a0 false _ A3.out).mono ?_); rintro e w' ⟨rfl, ⟨nd, rfl⟩⟩; refine ⟨_, rfl, ?_⟩) | ((with_reducible refine gate_callee (f := 112) rfl ?_); refine goesL_ (some 10) rfl rfl Tryd.func112 (by kernel_rfl) rfl #[.int .i64 a1] rfl (by (try simp only [List.map_toArray, List.map_cons, List.map_nil]); first | done | rfl | (simp only [List.length_drop, List.length_take]; rfl)) ?_; (with_reducible refine (cmp_isNaN_int.calls a1 false _ A4.out).mono ?_); rintro e w' ⟨rfl, ⟨nd, rfl⟩⟩; refine ⟨_, rfl, ?_⟩))
     go_ret
     exact ⟨by first | rfl | (simp; done) | (simp [*]; done), by repeat (first | exact Drawn0.refl _ | apply Drawn0.step)⟩
    ·rw [if_neg c9] at H
     have c9b0 : decide (a1 < a0) = false := decide_eq_false c9
     clear c9; obtain rfl := Option.some.inj H
     go_enter Tryd.func106, Tryd.ntmps106
     go_wp2_with (first | ((with_reducible refine gate_callee (f := 112) rfl ?_); refine goesL_ (some 8) rfl rfl Tryd.func112 (by kernel_rfl) rfl #[.int .i64 a0] rfl (by (try simp only [List.map_toArray, List.map_cons, List.map_nil]); first | done | rfl | (simp only [List.length_drop, List.length_take]; rfl)) ?_; (with_reducible refine (cmp_isNaN_int.calls a0 false _ A3.out).mono ?_); rintro e w' ⟨rfl, ⟨nd, rfl⟩⟩; refine ⟨_, rfl, ?_⟩) | ((with_reducible refine gate_callee (f := 112) rfl ?_); refine goesL_ (some 10) rfl rfl Tryd.func112 (by kernel_rfl) rfl #[.int .i64 a1] rfl (by (try simp only [List.map_toArray, List.map_cons, List.map_nil]); first | done | rfl | (simp only [List.length_drop, List.length_take]; rfl)) ?_; (with_reducible refine (cmp_isNaN_int.calls a1 false _ A4.out).mono ?_); rintro e w' ⟨rfl, ⟨nd, rfl⟩⟩; refine ⟨_, rfl, ?_⟩))
     go_ret
     exact ⟨by first | rfl | (simp; done) | (simp [*]; done), by repeat (first | exact Drawn0.refl _ | apply Drawn0.step)⟩
end Go.Proofs.YtemingmeidmjkaaDoor.Q
namespace Go.Proofs.YtemingmeidmjkaaDoor.Q
open Go.RowKit Go.Proofs.YtemingmeidmjkaaDoorW.PrintWords Go.Proofs.YtemingmeidmjkaaDoorW.PrintLast Go.Proofs.YtemingmeidmjkaaDoorW.PrintMore
attribute [local go_sem] max2_int min2_int max_two min_two max_three min_three max_four min_four   -- for this text's walks alone
set_option linter.unusedVariables false
set_option linter.unusedSimpArgs false
def slices_Compare_int_int.l0 : Nat → List Int → List Int → List Int → Int → Int → Option (Int)
 | 0, _, _, _, _, _ => none
 | k + 1, x0, x1, x9, x10, x11 => if x11 < x10 then (if 0 ≤ x11 then (if x11 < (x9.length : Int) then (if x11 ≥ (x1.length : Int) then (some 1) else (if x11 < (x1.length : Int) then ((cmp_Compare_int.f (rd x9 x11) (rd x1 x11)).bind fun t149 => (if t149 = 0 then (slices_Compare_int_int.l0 k x0 x1 x9 x10 (wrap64 (x11 + 1))) else (some t149))) else (none))) else (none)) else (none)) else (if (x0.length : Int) < (x1.length : Int) then (some (-1)) else (some 0))
def slices_Compare_int_int.f (k : Nat) (l0 : List Int) (l1 : List Int) : Option (Int) := slices_Compare_int_int.l0 k l0 l1 l0 (l0.length : Int) 0
set_option maxHeartbeats 8000000 in
set_option maxRecDepth 100000 in
theorem slices_Compare_int_int.calls (k : Nat) (A0 : Option Addr) (c0 : Nat) (l0 : List Int) (A1 : Option Addr) (c1 : Nat) (l1 : List Int) (r : Int) (w : World) (hr0 : Kd.C (Kd.int .i64) w A0 l0.length l0) (hc0 : l0.length ≤ c0) (hr1 : Kd.C (Kd.int .i64) w A1 l1.length l1) (hc1 : l1.length ≤ c1) (h : slices_Compare_int_int.f k l0 l1 = some r) :
  Calls Tryd.prog 78 #[.slice A0 l0.length c0, .slice A1 l1.length c1] w fun e w' => e = .returned (.int .i64 r) ∧ Drawn0 w w' := by
 have HR0 := Aside0.mk hr0
 have HC0 := Aside0.mk hc0
 clear hr0 hc0; have HR1 := Aside0.mk hr1
 have HC1 := Aside0.mk hc1
 clear hr1 hc1; have H : (slices_Compare_int_int.l0 k l0 l1 l0 (l0.length : Int) 0) = some r := h
 clear h; have H' := Aside0.mk H
 clear H; go_enter Tryd.func78, Tryd.ntmps78
 go_wp2
 go_loopg [11] k (fun kq v11 w' => ∃ (x11_1 : Int), v11 = .int .i64 x11_1 ∧ Aside0 (slices_Compare_int_int.l0 kq l0 l1 l0 (l0.length : Int) x11_1 = some r) ∧ Aside0 (kq ≤ k) ∧ Drawn0 w w')
 case atStart => exact ⟨(0), (by first | rfl | (simp; done) | (simp [*]; done)), H', ⟨Nat.le_refl _⟩, by repeat (first | exact Drawn0.refl _ | apply Drawn0.step)⟩
 case round =>
  clear H'; try clear c1
  try clear p2
  obtain ⟨x11_1, rfl, HA, HK1, ⟨m1, rfl⟩⟩ := hrel
  cases gk with
  | zero => exact absurd HA.out (by simp [slices_Compare_int_int.l0])
  | succ k1 =>
   have H := HA.out
   clear HA; simp only [slices_Compare_int_int.l0] at H
   by_cases c3 : x11_1 < (l0.length : Int)
   ·rw [if_pos c3] at H
    have c3b0 : decide (x11_1 < (l0.length : Int)) = true := decide_eq_true c3
    clear c3
    by_cases c4 : 0 ≤ x11_1
    ·rw [if_pos c4] at H
     have c4b0 : decide (0 ≤ x11_1) = true := decide_eq_true c4
     clear c4
     by_cases c5 : x11_1 < (l0.length : Int)
     ·rw [if_pos c5] at H
      have c5b0 : decide (x11_1 < (l0.length : Int)) = true := decide_eq_true c5
      clear c5
      by_cases c6 : x11_1 ≥ (l1.length : Int)
      ·rw [if_pos c6] at H
       have c6b0 : decide ((l1.length : Int) ≤ x11_1) = true := decide_eq_true c6
       clear c6; obtain rfl := Option.some.inj H
       have p147 : 0 ≤ (x11_1 : Int) := of_decide_eq_true (by first | (with_reducible assumption) | assumption)
       have q147 : x11_1 < (l0.length : Int) := of_decide_eq_true (by first | (with_reducible assumption) | assumption)
       obtain ⟨ad147, e147, hx147_0⟩ := Kd.at_int HR0.out x11_1 p147 q147
       cases e147
       replace p147 := eq_true p147
       replace q147 := eq_true q147
       go_wp2
       go_ret
       exact ⟨by first | rfl | (simp; done) | (simp [*]; done), by repeat (first | exact Drawn0.refl _ | apply Drawn0.step)⟩
      ·rw [if_neg c6] at H
       have c6b0 : decide ((l1.length : Int) ≤ x11_1) = false := decide_eq_false c6
       clear c6
       by_cases c7 : x11_1 < (l1.length : Int)
       ·rw [if_pos c7] at H
        have c7b0 : decide (x11_1 < (l1.length : Int)) = true := decide_eq_true c7
        clear c7
        replace H := Option.bind_eq_some_iff.mp H
        obtain ⟨t149, A80, H⟩ := H
        replace H : (if t149 = 0 then (slices_Compare_int_int.l0 k1 l0 l1 l0 (l0.length : Int) (wrap64 (x11_1 + 1))) else (some t149)) = some r := H
        have A8 := Aside0.mk A80
        clear A80
        by_cases c9 : t149 = 0
        ·rw [if_pos c9] at H
         have c9b0 : (t149 == 0) = true := beq_iff_eq.mpr c9
         have c9b1 : (t149 != 0) = false := bne_eq_false_iff_eq.mpr c9
         clear c9; have H' := Aside0.mk H
         clear H; have p147 : 0 ≤ (x11_1 : Int) := of_decide_eq_true (by first | (with_reducible assumption) | assumption)
         have q147 : x11_1 < (l0.length : Int) := of_decide_eq_true (by first | (with_reducible assumption) | assumption)
         obtain ⟨ad147, e147, hx147_0⟩ := Kd.at_int HR0.out x11_1 p147 q147
         cases e147
         replace p147 := eq_true p147
         replace q147 := eq_true q147
         have p148 : 0 ≤ (x11_1 : Int) := of_decide_eq_true (by first | (with_reducible assumption) | assumption)
         have q148 : x11_1 < (l1.length : Int) := of_decide_eq_true (by first | (with_reducible assumption) | assumption)
         obtain ⟨ad148, e148, hx148_0⟩ := Kd.at_int HR1.out x11_1 p148 q148
         cases e148
         replace p148 := eq_true p148
         replace q148 := eq_true q148
         go_wp2_with (first | ((with_reducible refine gate_callee (f := 106) rfl ?_); refine goesL_ (some 26) rfl rfl Tryd.func106 (by kernel_rfl) rfl #[.int .i64 (rd l0 x11_1), .int .i64 (rd l1 x11_1)] rfl (by (try simp only [List.map_toArray, List.map_cons, List.map_nil]); first | done | rfl | (simp only [List.length_drop, List.length_take]; rfl)) ?_; (with_reducible refine (cmp_Compare_int.calls (rd l0 x11_1) (rd l1 x11_1) t149 _ A8.out).mono ?_); rintro e w' ⟨rfl, ⟨nd, rfl⟩⟩; refine ⟨_, rfl, ?_⟩))
         go_roundg k1
         case measure => have := HK1.out; omega
         case rel => exact ⟨(wrap64 (x11_1 + 1)), (by first | rfl | (simp; done) | (simp [*]; done)), H', ⟨by have := HK1.out; omega⟩, by repeat (first | exact Drawn0.refl _ | apply Drawn0.step)⟩
        ·rw [if_neg c9] at H
         have c9b0 : (t149 == 0) = false := beq_eq_false_iff_ne.mpr c9
         have c9b1 : (t149 != 0) = true := bne_iff_ne.mpr c9
         obtain rfl := Option.some.inj H
         have p147 : 0 ≤ (x11_1 : Int) := of_decide_eq_true (by first | (with_reducible assumption) | assumption)
         have q147 : x11_1 < (l0.length : Int) := of_decide_eq_true (by first | (with_reducible assumption) | assumption)
         obtain ⟨ad147, e147, hx147_0⟩ := Kd.at_int HR0.out x11_1 p147 q147
         cases e147
         replace p147 := eq_true p147
         replace q147 := eq_true q147
         have p148 : 0 ≤ (x11_1 : Int) := of_decide_eq_true (by first | (with_reducible assumption) | assumption)
         have q148 : x11_1 < (l1.length : Int) := of_decide_eq_true (by first | (with_reducible assumption) | assumption)
         obtain ⟨ad148, e148, hx148_0⟩ := Kd.at_int HR1.out x11_1 p148 q148
         cases e148
         replace p148 := eq_true p148
         replace q148 := eq_true q148
         go_wp2_with (first | ((with_reducible refine gate_callee (f := 106) rfl ?_); refine goesL_ (some 26) rfl rfl Tryd.func106 (by kernel_rfl) rfl #[.int .i64 (rd l0 x11_1), .int .i64 (rd l1 x11_1)] rfl (by (try simp only [List.map_toArray, List.map_cons, List.map_nil]); first | done | rfl | (simp only [List.length_drop, List.length_take]; rfl)) ?_; (with_reducible refine (cmp_Compare_int.calls (rd l0 x11_1) (rd l1 x11_1) t149 _ A8.out).mono ?_); rintro e w' ⟨rfl, ⟨nd, rfl⟩⟩; refine ⟨_, rfl, ?_⟩))
         go_ret
         exact ⟨by first | rfl | (simp; done) | (simp [*]; done), by repeat (first | exact Drawn0.refl _ | apply Drawn0.step)⟩
       ·rw [if_neg c7] at H
        exact absurd H (by simp)
     ·rw [if_neg c5] at H
      exact absurd H (by simp)
    ·rw [if_neg c4] at H
     exact absurd H (by simp)
   ·rw [if_neg c3] at H
    have c3b0 : decide (x11_1 < (l0.length : Int)) = false := decide_eq_false c3
    clear c3
    by_cases c10 : (l0.length : Int) < (l1.length : Int)
    ·rw [if_pos c10] at H
     have c10b0 : decide ((l0.length : Int) < (l1.length : Int)) = true := decide_eq_true c10
     have c10b1 : decide (l0.length < l1.length) = true := decide_eq_true (Int.ofNat_lt.mp c10)
     clear c10; obtain rfl := Option.some.inj H
     go_wp2
     go_ret
     exact ⟨by first | rfl | (simp; done) | (simp [*]; done), by repeat (first | exact Drawn0.refl _ | apply Drawn0.step)⟩
    ·rw [if_neg c10] at H
     have c10b0 : decide ((l0.length : Int) < (l1.length : Int)) = false := decide_eq_false c10
     have c10b1 : decide (l0.length < l1.length) = false := decide_eq_false (fun h => c10 (Int.ofNat_lt.mpr h))
     clear c10; obtain rfl := Option.some.inj H
     go_wp2
     go_ret
     exact ⟨by first | rfl | (simp; done) | (simp [*]; done), by repeat (first | exact Drawn0.refl _ | apply Drawn0.step)⟩
def lw_long.f (l0_0 : List (S41)) (l0_1 : List (S80)) : Option (Bool) := if (l0_0.length : Int) > 10 then (some true) else (some (decide ((l0_1.length : Int) > 12)))
set_option maxHeartbeats 8000000 in
set_option maxRecDepth 100000 in
theorem lw_long.calls (A0_0 : Option Addr) (c0_0 : Nat) (l0_0 : List (S41)) (A0_1 : Option Addr) (c0_1 : Nat) (l0_1 : List (S80)) (r : Bool) (w : World) (hr0_0 : Kd.C k41 w A0_0 l0_0.length l0_0) (hc0_0 : l0_0.length ≤ c0_0) (hr0_1 : Kd.C k80 w A0_1 l0_1.length l0_1) (hc0_1 : l0_1.length ≤ c0_1) (h : lw_long.f l0_0 l0_1 = some r) :
  Calls Tryd.prog 16 #[.agg #[.slice A0_0 l0_0.length c0_0, .slice A0_1 l0_1.length c0_1]] w fun e w' => e = .returned (.bool r) ∧ Below w.heap.size w w' := by
 have hu25 := Tryd.underlying25
 have HR0_0 := Aside0.mk hr0_0
 have HC0_0 := Aside0.mk hc0_0
 clear hr0_0 hc0_0; have HR0_1 := Aside0.mk hr0_1
 have HC0_1 := Aside0.mk hc0_1
 clear hr0_1 hc0_1; have HB := Aside0.mk (Below.refl w.heap.size w)
 have H : (if (l0_0.length : Int) > 10 then (some true) else (some (decide ((l0_1.length : Int) > 12)))) = some r := h
 clear h
 by_cases c2 : (l0_0.length : Int) > 10
 ·rw [if_pos c2] at H
  have c2b0 : decide (10 < (l0_0.length : Int)) = true := decide_eq_true c2
  have c2b1 : decide (10 < l0_0.length) = true := decide_eq_true (by omega)
  clear c2; obtain rfl := Option.some.inj H
  go_enter Tryd.func16, Tryd.ntmps16
  go_wp2_with (first | ((with_reducible refine gate_dst (N := 1) rfl ?_); (try (refine gate_guard (by rfl) ?_; dsimp only)); refine box_event ?hg (N := 1) ?hd (cs := #[.slice A0_0 l0_0.length c0_0, .slice A0_1 l0_1.length c0_1]) (t := 25) ?hr ?_; (case hd => rfl); (case hg => rfl); (case hr => first | (go_simp; done) | (go_simp; rfl)); intro gb150 hg w3 hbox hb; have n0_ := Aside0.mk (below_step (by repeat (first | (with_reducible first | exact HB.out | apply below_alloc | apply pw_below_drewN | apply below_drew1) | exact HB.out)) hb); have n1_ := Aside0.mk (hbox); have n2_ := Aside0.mk ((by rw [hg]; exact (below_size (by repeat (first | (with_reducible first | exact HB.out | apply below_alloc | apply pw_below_drewN | apply below_drew1) | exact HB.out))) : w.heap.size ≤ gb150)); have n3_ := Aside0.mk ((by rw [hg]; exact (below_size (by repeat (first | (with_reducible first | exact HB.out | apply below_alloc | apply pw_below_drewN | apply below_drew1) | exact HB.out))) : w.heap.size ≤ gb150)); clear HB; have HB := n0_; have BK150 := n1_; have GW150 := n2_; have GE150 := n3_; clear n0_ n1_ n2_ n3_; clear hb hbox hg; have hcz4_0 : w3.cell? ⟨gb150, 0, none⟩ = some (.slice A0_0 l0_0.length c0_0) := (blk_cell BK150.out 0).trans rfl; have hcz4_1 : w3.cell? ⟨gb150, 1, none⟩ = some (.slice A0_1 l0_1.length c0_1) := (blk_cell BK150.out 1).trans rfl; have hfz4_0 := blk_frozen BK150.out 0; have hfz4_1 := blk_frozen BK150.out 1))
  go_ret
  exact ⟨by first | rfl | (simp [errW_none, errW_some] <;> rfl) | (simp [*, errW_none, errW_some] <;> rfl), by repeat (first | (with_reducible first | exact HB.out | apply below_alloc | apply pw_below_drewN | apply below_drew1 | refine below_set ?_ GE150.out) | exact HB.out)⟩
 ·rw [if_neg c2] at H
  have c2b0 : decide (10 < (l0_0.length : Int)) = false := decide_eq_false c2
  have c2b1 : decide (10 < l0_0.length) = false := decide_eq_false (by omega)
  clear c2; obtain rfl := Option.some.inj H
  go_enter Tryd.func16, Tryd.ntmps16
  go_wp2_with (first | ((with_reducible refine gate_dst (N := 1) rfl ?_); (try (refine gate_guard (by rfl) ?_; dsimp only)); refine box_event ?hg (N := 1) ?hd (cs := #[.slice A0_0 l0_0.length c0_0, .slice A0_1 l0_1.length c0_1]) (t := 25) ?hr ?_; (case hd => rfl); (case hg => rfl); (case hr => first | (go_simp; done) | (go_simp; rfl)); intro gb150 hg w5 hbox hb; have n0_ := Aside0.mk (below_step (by repeat (first | (with_reducible first | exact HB.out | apply below_alloc | apply pw_below_drewN | apply below_drew1) | exact HB.out)) hb); have n1_ := Aside0.mk (hbox); have n2_ := Aside0.mk ((by rw [hg]; exact (below_size (by repeat (first | (with_reducible first | exact HB.out | apply below_alloc | apply pw_below_drewN | apply below_drew1) | exact HB.out))) : w.heap.size ≤ gb150)); have n3_ := Aside0.mk ((by rw [hg]; exact (below_size (by repeat (first | (with_reducible first | exact HB.out | apply below_alloc | apply pw_below_drewN | apply below_drew1) | exact HB.out))) : w.heap.size ≤ gb150)); clear HB; have HB := n0_; have BK150 := n1_; have GW150 := n2_; have GE150 := n3_; clear n0_ n1_ n2_ n3_; clear hb hbox hg; have hcz6_0 : w5.cell? ⟨gb150, 0, none⟩ = some (.slice A0_0 l0_0.length c0_0) := (blk_cell BK150.out 0).trans rfl; have hcz6_1 : w5.cell? ⟨gb150, 1, none⟩ = some (.slice A0_1 l0_1.length c0_1) := (blk_cell BK150.out 1).trans rfl; have hfz6_0 := blk_frozen BK150.out 0; have hfz6_1 := blk_frozen BK150.out 1))
  go_ret
  exact ⟨by first | rfl | (simp [errW_none, errW_some] <;> rfl) | (simp [*, errW_none, errW_some] <;> rfl), by repeat (first | (with_reducible first | exact HB.out | apply below_alloc | apply pw_below_drewN | apply below_drew1 | refine below_set ?_ GE150.out) | exact HB.out)⟩
end Go.Proofs.YtemingmeidmjkaaDoor.Q
