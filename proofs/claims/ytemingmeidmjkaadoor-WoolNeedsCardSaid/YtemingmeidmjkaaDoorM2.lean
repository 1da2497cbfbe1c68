/- The walks of this program's functions. No condition. -/
import Derived.Test.YtemingmeidmjkaaDoorM1
import Derived.Lib.SliceRun
import Derived.Maps.RangeWalk
import Derived.Test.YtemingmeidmjkaaDoorM0
set_option linter.unusedVariables false
set_option linter.unusedSimpArgs false
namespace Go.Proofs.YtemingmeidmjkaaDoor.Q
open Go.RowKit Go.Shelf Go.Proofs.YtemingmeidmjkaaDoorW.PrintWords Go.Proofs.YtemingmeidmjkaaDoorW.PrintLast
set_option linter.unusedVariables false
set_option linter.unusedSimpArgs false
attribute [local go_sem] Oper.semAt_some
theorem info_some : (Tryd.prog.info? 100).map (fun i => (i.zero, i.size, i.bytes)) = some (some (.agg #[.int .i64 0, .int .i64 0]), 2, 16) := by kernel_rfl
set_option maxRecDepth 100000 in
theorem cloneSm_ (v : Value) (base : Nat) (l : List Sp) (w : World) (h : w.ownsRow base 100 2 v l.length (cellsS l)) (hl : l.length ≤ 100000) :
  Calls Tryd.prog 111 #[v] w fun e w' => ∃ v', e = .returned v' ∧ w'.ownsRow w.heap.size 100 2 v' l.length (cellsS l) ∧ Up w w' := by
 have q35 : ∀ (w : World) (a : Option Addr) (n c n' c' : Nat), (binOp .eql 96 (.slice a n c) (.slice none n' c')).run Tryd.prog w = .ok (.bool a.isNone) w := fun w a n c n' c' => Lib.run_eql_slice_nil w _ _ a n c n' c' Tryd.underlying96
 rcases h.2 with ⟨rfl, h0⟩ | ⟨g, cap, cur, rfl, hb, hg, hcap, hm, hsz, htk⟩
 ·have h1 : l = [] := List.eq_nil_of_length_eq_zero h0
  subst h1
  clear h; go_enter Tryd.func111, Tryd.ntmps111
  go_wp2_with fail
  go_ret
  exact ⟨.slice none 0 0, by simp, ⟨rfl, .inl ⟨rfl, rfl⟩⟩, upA⟩
 ·have hcell : ∀ j u, (cellsS l)[j]? = some u → w.cell? ((⟨g, 0, none⟩ : Addr).add j) = some u := by
   intro j u hu
   have hj := (List.getElem?_eq_some_iff.1 hu).1
   rw [cellsS_length] at hj
   rw [add_plain, ← htk, List.getElem?_take, if_pos hj, Array.getElem?_toList] at *
   simp [World.cell?, hg, hu]
  have HC : Aside0 (0 < l.length → ∃ ad', some (⟨g, 0, none⟩ : Addr) = some ad' ∧ ∀ j u, (cellsS l)[j]? = some u → (w.alloc (.cells #[] 100)).cell? (ad'.add j) = some u) := ⟨fun _ => ⟨_, rfl, fun j u hu => (Up.alloc (Up.refl w) _).cell (hcell j u hu)⟩⟩
  have hlc : l.length ≤ cap := hcap
  clear hcell hg hsz htk h hm hb hcap; go_enter Tryd.func111, Tryd.ntmps111
  go_wp2_with (at_builtin; refine append_all w.heap.size rfl _ _ 96 100 (.agg #[.int .i64 0, .int .i64 0]) 2 16 rfl Tryd.underlying96 info_some rfl (by decide) (by decide) _ 0 [] (cellsS l) (some ⟨g, 0, none⟩) l.length cap rfl rfl (World.ownsRow_made w #[] 0 (Nat.le_refl _) (Nat.zero_le _) rfl) (by rw [cellsS_length]) HC.out ?qc3 ?qc4 ?qc5 ?_)
  case qc3 => exact cellsS_one l
  case qc4 => simp
  case qc5 => omega
  intro v1 w1 hown hgrow
  have HU : Aside0 (Up w w1) := ⟨((Below.refl _ w).alloc (Nat.le_refl _) _).grown hgrow (by simp) (by intro k hk; simp [Value.ownBlock] at hk; omega)⟩
  have HO := Aside0.mk hown
  clear hown hgrow; go_wp2
  go_ret
  exact ⟨v1, by simp, by have h9 := HO.out; simpa using h9, HU.out⟩
def goL : List Sp → List Sp → List Sp
 | t :: ts, s :: l => backS t s ((goL ts l).headD z_Sp) :: goL ts l
 | _, l => l
theorem goL_len : ∀ (ts l : List Sp), (goL ts l).length = l.length
 | [], l => by cases l <;> simp [goL]
 | t :: ts, [] => by simp [goL]
 | t :: ts, s :: l => by simp [goL, goL_len ts l]
def gst (st L : List Sp) (k : Nat) : List Sp := L.take (L.length - k) ++ goL (st.drop (L.length - k)) (L.drop (L.length - k))
theorem gst_len (st L : List Sp) (k : Nat) : (gst st L k).length = L.length := by
 simp [gst, goL_len] <;> omega
theorem gst_zero (st L : List Sp) : gst st L 0 = L := by
 unfold gst
 rw [Nat.sub_zero, List.take_length, List.drop_length]
 cases (st.drop L.length) <;> simp [goL]
theorem gst_end (st L : List Sp) : gst st L L.length = goL st L := by
 unfold gst
 simp
theorem gst_one (st L : List Sp) (h : L.length = st.length + 1) : gst st L 1 = L := by
 unfold gst
 rw [h, Nat.add_sub_cancel, List.drop_length]
 have e : goL [] (L.drop st.length) = L.drop st.length := by cases (L.drop st.length) <;> rfl
 rw [e, List.take_append_drop]
theorem gst_succ (st L : List Sp) (h : L.length = st.length + 1) (p : Nat) (hp : p < st.length) :
  gst st L (st.length - p + 1) = (gst st L (st.length - p)).set p (backS (rdS st p) (rdS (gst st L (st.length - p)) p) (rdS (gst st L (st.length - p)) ((p + 1 : Nat) : Int))) ∧ rdS (gst st L (st.length - p)) p = rdS L p := by
 have e1 : L.length - (st.length - p + 1) = p := by omega
 have e2 : L.length - (st.length - p) = p + 1 := by omega
 have hpL : p < L.length := by omega
 have hg : gst st L (st.length - p) = L.take (p + 1) ++ goL (st.drop (p + 1)) (L.drop (p + 1)) := by unfold gst; rw [e2]
 have hlt : (L.take (p + 1)).length = p + 1 := by simp; omega
 have r1 : rdS (gst st L (st.length - p)) p = L[p] := by
  have : p < (gst st L (st.length - p)).length := by rw [gst_len]; exact hpL
  rw [rdS_nat _ _ this]
  have h2 : (gst st L (st.length - p))[p]? = some L[p] := by rw [hg, List.getElem?_append_left (by omega)]; simp [hpL]
  exact Option.some.inj ((List.getElem?_eq_getElem this).symm.trans h2)
 have r2 : rdS (gst st L (st.length - p)) ((p + 1 : Nat) : Int) = (goL (st.drop (p + 1)) (L.drop (p + 1))).headD z_Sp := by
  have h1 : (gst st L (st.length - p))[p + 1]? = (goL (st.drop (p + 1)) (L.drop (p + 1)))[0]? := by
   rw [hg, List.getElem?_append_right (by omega), hlt, Nat.sub_self]
  unfold rdS
  rw [Int.toNat_natCast, List.getD_eq_getElem?_getD, h1]
  cases goL (st.drop (p + 1)) (L.drop (p + 1)) <;> rfl
 have r3 : rdS L (p : Nat) = L[p] := rdS_nat L p hpL
 have r4 : rdS st (p : Nat) = st[p] := rdS_nat st p hp
 refine ⟨?_, by rw [r1, r3]⟩
 rw [r1, r2, r4]
 unfold gst
 rw [e1, e2, List.drop_eq_getElem_cons hp, List.drop_eq_getElem_cons hpL, goL, List.take_succ_eq_append_getElem hpL, List.append_assoc, List.set_append_right _ _ (by simp; omega)]
 have e3 : p - (L.take p).length = 0 := by simp; omega
 rw [e3]
 rfl
theorem kt_set {lo : Nat → Prop} {A B : World} (h : Kt lo A B) {g : Nat} (hb : ∃ cur T z, B.heap[g]? = some (.cells cur T z) ∧ lo T) (o : Nat) (v : Value) : Kt lo A (B.setCell ⟨g, o, none⟩ v) ∧ ∃ cur T z, (B.setCell ⟨g, o, none⟩ v).heap[g]? = some (.cells cur T z) ∧ lo T := by
 obtain ⟨cur, T, z, hb, hT⟩ := hb
 refine ⟨h.trans ⟨rfl, rfl, rfl, by simp, fun k ob hk hl => ?_⟩, ?_⟩
 ·by_cases e : k = g
  ·subst e
   rw [hb] at hk
   cases hk
   exact absurd hT (hl _ _ _ rfl)
  ·exact (Below.heap_setCell B ⟨g, o, none⟩ v k e).trans hk
 ·refine ⟨cur.setIfInBounds o v, T, z, ?_, hT⟩
  unfold World.setCell
  dsimp only
  rw [Array.getElem?_modify, if_pos rfl, hb]
  rfl
theorem spc_typed {w : World} {g T cap : Nat} {xs : List Sp} (h : Spc w g T cap xs) {lo : Nat → Prop} (hT : lo T) : ∃ cur T z, w.heap[g]? = some (.cells cur T z) ∧ lo T := by
 obtain ⟨_, cur, h1, _⟩ := h
 exact ⟨cur, T, (0, 0), h1, hT⟩
structure GoI (w : World) (B0 B1 g cap n : Nat) (rc : Array Value) (st L : List Sp) (pre : List Nat) (W : World) : Prop where
 up : Up w W
 b0 : Bx W B0 rc 95
 b1 : Bx W B1 #[.slice (some ⟨g, 0, none⟩) n cap] 96
 row : Spc W g 100 cap (gst st L pre.length)
theorem GoI.stays {w : World} {B0 B1 g cap n B : Nat} {rc : Array Value} {st L : List Sp} (hB : w.heap.size ≤ B) : Stays noOw B (GoI w B0 B1 g cap n rc st L) := by
 intro s W W' row h hg hr
 have hr' : ∀ r, row = some r → ∃ o : Obj, W.heap[r]? = some o ∧ o.isCells = false := by
  intro r e
  obtain ⟨_, o, h1, h2⟩ := hr r e
  refine ⟨o, h1, ?_⟩
  rcases h2 with h2 | ⟨_, _, _, _, h3⟩
  ·exact h2
  ·exact h3.elim
 refine ⟨?_, h.b0.own hg hr', h.b1.own hg hr', h.row.own hg hr'⟩
 exact ⟨hg.os.trans h.up.os, hg.tape.trans h.up.tape, hg.output.trans h.up.output, Nat.le_trans h.up.size hg.size, fun k hk => (hg.block k (Nat.lt_of_lt_of_le hk h.up.size) (fun e => by have := (hr k e.symm).1; omega)).trans (h.up.block k hk)⟩
set_option maxRecDepth 100000 in
set_option maxHeartbeats 600000 in
theorem goOn_ (A : Option Addr) (c : Nat) (st : List Sp) (A2 : Option Addr) (c2 : Nat) (wg : List Wg) (v : Value) (base : Nat) (L : List Sp) (w : World) (hr : Kd.C kSp w A st.length st) (hc : st.length ≤ c) (hr2 : Kd.C kWg w A2 wg.length wg) (hc2 : wg.length ≤ c2) (hok : RdOk st wg)
  (hL : w.ownsRow base 100 2 v L.length (cellsS L)) (hlen : L.length = st.length + 1) (hokL : ∀ s ∈ L, okS s) :
  Calls Tryd.prog 105 #[.agg #[.slice A st.length c, .slice A2 wg.length c2], v] w fun e w' => ∃ v', e = .returned v' ∧ w'.ownsRow w.heap.size 100 2 v' (goL st L).length (cellsS (goL st L)) ∧ Up w w' := by
 have hm := CF_len hr
 have HR := Aside0.mk hr
 have HR2 := Aside0.mk hr2
 have HOK := Aside0.mk hok
 obtain ⟨A3, c3, rfl, hc3, _⟩ := ownF_slice hL
 have HL := Aside0.mk hL
 have HLEN := Aside0.mk hlen
 have HOKL := Aside0.mk hokL
 have hl1 := hok.len
 clear hr hr2 hok hL hlen hokL; refine (callsIn_wide (n := 7)).1 ?_
 refine callsIn_of_wp_marks Tryd.func105 rfl trivial ?_ rfl
 simp only [Tryd.ntmps105, List.size_toArray, List.length_cons, List.length_nil, Nat.reduceAdd, Nat.reduceSub, Array.replicate_succ, Array.replicate_zero, List.push_toArray, List.append_toArray, List.nil_append, List.cons_append]
 have hcl := cloneSm_ (.slice A3 L.length c3) base L ((w.alloc (.cells #[.slice A st.length c, .slice A2 wg.length c2] 95)).alloc (.cells #[.slice A3 L.length c3] 96)) (own_up HL.out upA) (by have := HLEN.out; omega)
 have HB0 : Aside0 (Bx ((w.alloc (.cells #[.slice A st.length c, .slice A2 wg.length c2] 95)).alloc (.cells #[.slice A3 L.length c3] 96)) w.heap.size #[.slice A st.length c, .slice A2 wg.length c2] 95) := ⟨(Bx.new w _ _).up upA⟩
 have HB1 : Aside0 (Bx ((w.alloc (.cells #[.slice A st.length c, .slice A2 wg.length c2] 95)).alloc (.cells #[.slice A3 L.length c3] 96)) (w.heap.size + 1) #[.slice A3 L.length c3] 96) := ⟨by have h9 := Bx.new (w.alloc (.cells #[.slice A st.length c, .slice A2 wg.length c2] 95)) #[.slice A3 L.length c3] 96; simpa using h9⟩
 have HU0 : Aside0 (Up w ((w.alloc (.cells #[.slice A st.length c, .slice A2 wg.length c2] 95)).alloc (.cells #[.slice A3 L.length c3] 96))) := ⟨upA⟩
 gi_wp2_with fail
 generalize hW0 : ((w.alloc (.cells #[.slice A st.length c, .slice A2 wg.length c2] 95)).alloc (.cells #[.slice A3 L.length c3] 96)) = W0 at *
 have hz0 : W0.heap.size = w.heap.size + 2 := by rw [← hW0]; simp
 refine ⟨trivial, (callsIn_wide.2 hcl).mono ?_⟩
 clear hcl hW0; rintro e W1 ⟨v1, rfl, hown, hu1⟩
 obtain ⟨g, cap, rfl, hgb, hcap, hsp⟩ := Spc.ofOwn hown (by have := HLEN.out; omega)
 have hB1 := HB1.out.up hu1
 have hB0 := HB0.out.up hu1
 have hq1 := hB1.cell; have hf1 := hB1.frozen; have hq0 := hB0.cell
 have HI0 : Aside0 (GoI w w.heap.size (w.heap.size + 1) g cap L.length #[.slice A st.length c, .slice A2 wg.length c2] st L [] (W1.setCell ⟨w.heap.size + 1, 0, none⟩ (.slice (some ⟨g, 0, none⟩) L.length cap))) := by
  refine ⟨⟨(HU0.out.then hu1).set _ _ (by simp), hB0.far (by omega) _ _, hB1.set 0 _, ?_⟩⟩
  rw [show ([] : List Nat).length = 0 from rfl, gst_zero]
  exact hsp.far (by omega) _ _
 have hz1 : w.heap.size + 2 ≤ W1.heap.size := by have := hu1.le; omega
 have HG := Aside0.mk hgb
 clear hown hsp hB1 hB0 hu1 HB0 HB1 hgb
 gi_wp2_with fail
 have hI0 := HI0.out
 generalize (W1.setCell ⟨w.heap.size + 1, 0, none⟩ (.slice (some ⟨g, 0, none⟩) L.length cap)) = W2 at *
 have hw2 : w.heap.size ≤ W2.heap.size := hI0.up.le
 clear HI0; apply range_gives_fr (F := Fence.wide) (n := 7) rfl (by omega) (gf := 102) (pb := #[.agg #[.slice A st.length c, .slice A2 wg.length c2]]) (lb := #[]) rfl trivial (enters_of Tryd.func102 (by kernel_rfl) rfl) (G := isN) (lo := ptLo) (ow := noOw) (L := downL st.length) ((points_gives A st.length c A2 wg.length c2 W2 hl1).any 6) (Up.refl _) rfl (fun _ _ _ _ _ _ _ _ h => h)
  (GoI w w.heap.size (w.heap.size + 1) g cap L.length #[.slice A st.length c, .slice A2 wg.length c2] st L) (GoI.stays hw2) hI0
  ?assign ?body ?done
 case assign =>
  intro l v Wd K hK
  have HK := Aside0.mk hK
  clear hK
  gi_wp2_with fail
  exact HK.out
 case done =>
  intro D Wd hD hI hDd
  have hrow := hI.row
  have hdl : ∀ n : Nat, (downL n).length = n + 1 := by
   intro n
   induction n with
   | zero => rfl
   | succ n ih => simp [downL, ih]
  rw [hdl, ← HLEN.out, gst_end] at hrow
  have hq1 := hI.b1.cell
  have HUP := Aside0.mk hI.up
  have HROW := Aside0.mk hrow
  clear hrow hI hdl
  gi_wp2_with fail
  refine ⟨by simp, .inl ⟨_, _, rfl, run_takeDeferred hDd, ?_⟩⟩
  have hsp := (HROW.out.own (grownBy_putObj' Wd D (.deferred none)) (fun r e => by cases e; exact ⟨_, hDd, rfl⟩)).toOwn (base := w.heap.size) (by have := HG.out; omega)
  rw [goL_len] at hsp
  refine ⟨.slice (some ⟨g, 0, none⟩) L.length cap, ?_, _, rfl, by rw [goL_len]; exact hsp, HUP.out.trans (belowK_b (w := w) (Nat.le_refl _) _ D _ _ (by omega) hDd rfl rfl)⟩
  simp [results, Tryd.f105, go_sem]
 case body =>
  rintro lq pre p post v Wd hl ⟨rq, hlr⟩ hL hI rfl
  try dsimp only
  have hpp := downL_at _ _ _ _ hL
  have hq0 := hI.b0.cell; have hq1 := hI.b1.cell; have hrow := hI.row
  have hgl : (gst st L pre.length).length = L.length := gst_len st L _
  by_cases hlt : p < st.length
  ·have hps : ((p : Int) < (st.length : Int)) := by omega
   have hk : pre.length = st.length - p := by omega
   rw [hk] at hrow hgl
   obtain ⟨hst, hcur⟩ := gst_succ st L HLEN.out p hlt
   obtain ⟨ca, cb⟩ := hrow.sps.cell p (by rw [hgl]; have := HLEN.out; omega)
   obtain ⟨cc, cd⟩ := hrow.sps.cell (p + 1) (by rw [hgl]; have := HLEN.out; omega)
   rw [show 2 * p = p * 2 by omega] at ca cb
   rw [show 2 * (p + 1) = (p + 1) * 2 by omega] at cc cd
   have hfz := hrow.sps.frozen
   have hsb := HOK.out.at p (by omega) (by omega)
   have hso : okS (rdS (gst st L (st.length - p)) (p : Nat)) := by
    rw [hcur]
    refine HOKL.out _ ?_
    have h2 : p < L.length := by have := HLEN.out; omega
    rw [rdS_nat _ _ h2]
    exact List.getElem_mem _
   have HI := Aside0.mk hI
   have HROW := Aside0.mk hrow
   have HGL := Aside0.mk hgl
   have HK := Aside0.mk hk
   have HLQ := Aside0.mk hL
   have hLp : (p : Int) < (L.length : Int) := by have := HLEN.out; omega
   have hLp1 : (p : Int) + 1 < (L.length : Int) := by have := HLEN.out; omega
   have hLq : ((p + 1 : Nat) : Int) < (L.length : Int) := by have := HLEN.out; omega
   have hp0 : (0 : Int) ≤ (p : Int) := by omega
   have hp1 : (0 : Int) ≤ (p : Int) + 1 := by omega
   have hpt : ((p : Int) + 1).toNat = p + 1 := by omega
   have hw1 : IntKind.i64.wrap ((p : Int) + 1) = ((p + 1 : Nat) : Int) := by rw [IntWalk.i64_in _ (by omega)]; omega
   have hzW := hI.up.le; have hglt := hrow.sps.lt
   generalize hgs : gst st L (st.length - p) = G at *
   obtain ⟨x, hx⟩ : ∃ x, x = rdS G (p : Nat) := ⟨_, rfl⟩
   obtain ⟨y, hy⟩ : ∃ y, y = rdS G ((p + 1 : Nat) : Int) := ⟨_, rfl⟩
   rw [← hx] at ca cb hso hcur hst
   rw [← hy] at cc cd hst
   have HST := Aside0.mk hst
   have HX := Aside0.mk hx
   have HY := Aside0.mk hy
   have HCALL : Aside0 (∀ W : World, Up Wd W → Calls Tryd.prog 103 #[.agg #[.slice A st.length c, .slice A2 wg.length c2], .int .i64 (p : Int), .agg #[.int .i64 x.lo, .int .i64 x.hi], .agg #[.int .i64 y.lo, .int .i64 y.hi]] W fun e w' => e = .returned (.agg #[.int .i64 (backS (rdS st (p : Nat)) x y).lo, .int .i64 (backS (rdS st (p : Nat)) x y).hi]) ∧ Up W w') := ⟨fun W hu => back_ A c st A2 c2 wg p x y W (C_up HR.out (HI.out.up.then hu)) hc (C_up HR2.out (HI.out.up.then hu)) hc2 hp0 hps hsb hso⟩
   have HPP := Aside0.mk hpp
   have HPL := Aside0.mk hlt
   clear hst hcur hk hL hrow hgl hI hgs hx hy hsb hso hlr hpp hlt; generalize backS (rdS st (p : Nat)) x y = z at *
   gi_wp2_with fail
   refine round_start (n := 16) (S := fun W' => W'.cell? ⟨w.heap.size, 0, none⟩ = some (.slice A st.length c) ∧ W'.cell? ⟨w.heap.size, 1, none⟩ = some (.slice A2 wg.length c2) ∧ W'.cell? ⟨w.heap.size + 1, 0, none⟩ = some (.slice (some ⟨g, 0, none⟩) L.length cap) ∧ W'.cell? ⟨g, p * 2, none⟩ = some (.int .i64 x.lo) ∧ W'.cell? ⟨g, p * 2 + 1, none⟩ = some (.int .i64 x.hi) ∧ W'.cell? ⟨g, (p + 1) * 2, none⟩ = some (.int .i64 y.lo) ∧ W'.cell? ⟨g, (p + 1) * 2 + 1, none⟩ = some (.int .i64 y.hi)) (ds := [15]) #[false, false, false, false, false, false, false, false, false, false, false, false, false, false, false, false] (by kernel_rfl) (by kernel_rfl) (by rintro ⟨_, _, h⟩; exact h) rfl rfl ⟨hq0 0, hq0 1, hq1 0, ca, cb, cc, cd⟩ (fun hHeld => ?_)
   refine pure_ (i := 1) (N := (some 18)) (v := ?_) (a' := ?_) #[false, true, false, false, false, false, false, false, false, false, false, false, false, false, false, false] rfl rfl (by kernel_rfl) (fun _ _ _ h => h) (Or.inl ⟨by rfl, ?_⟩) ?_ ?_
   rotate_left
   ·intro w'
    go_simp
    with_reducible rfl
   rotate_left
   ·simp only [Act.put, List.setIfInBounds_toArray, List.set_cons_zero, List.set_cons_succ, i64_w, i32_w]; rfl
   refine pure_ (i := 3) (N := (some 20)) (v := ?_) (a' := ?_) #[false, true, false, true, false, false, false, false, false, false, false, false, false, false, false, false] rfl rfl (by kernel_rfl) (fun _ _ _ h => h) (Or.inl ⟨by rfl, ?_⟩) ?_ ?_
   rotate_left
   ·intro w'
    go_simp
    with_reducible rfl
   rotate_left
   ·simp only [Act.put, List.setIfInBounds_toArray, List.set_cons_zero, List.set_cons_succ, i64_w, i32_w]; rfl
   refine pure_ (i := 5) (N := (some 22)) (v := ?_) (a' := ?_) #[false, true, false, true, false, true, false, false, false, false, false, false, false, false, false, false] rfl rfl (by kernel_rfl) (fun _ _ _ h => h) (Or.inl ⟨by rfl, ?_⟩) ?_ ?_
   rotate_left
   ·intro w'
    go_simp
    with_reducible rfl
   rotate_left
   ·simp only [Act.put, List.setIfInBounds_toArray, List.set_cons_zero, List.set_cons_succ, i64_w, i32_w]; rfl
   refine pure_ (i := 9) (N := (some 26)) (v := ?_) (a' := ?_) #[false, true, false, true, false, true, false, false, false, true, false, false, false, false, false, false] rfl rfl (by kernel_rfl) (fun _ _ _ h => h) (Or.inl ⟨by rfl, ?_⟩) ?_ ?_
   rotate_left
   ·intro w'
    go_simp
    with_reducible rfl
   rotate_left
   ·simp only [Act.put, List.setIfInBounds_toArray, List.set_cons_zero, List.set_cons_succ, i64_w, i32_w]; rfl
   refine pure_ (i := 10) (N := (some 27)) (v := ?_) (a' := ?_) #[false, true, false, true, false, true, false, false, false, true, true, false, false, false, false, false] rfl rfl (by kernel_rfl) (fun _ _ _ h => h) (Or.inl ⟨by rfl, ?_⟩) ?_ ?_
   rotate_left
   ·intro w'
    go_simp
    with_reducible rfl
   rotate_left
   ·simp only [Act.put, List.setIfInBounds_toArray, List.set_cons_zero, List.set_cons_succ, i64_w, i32_w]; rfl
   refine take_ (i := 0) (N := (some 17)) (v := ?_) (a' := ?_) #[true, true, false, true, false, true, false, false, false, true, true, false, false, false, false, false] rfl rfl (by kernel_rfl) (fun _ _ _ h => h) (Or.inl ⟨by rfl, ?_⟩) hHeld ?_ ?_
   rotate_left
   ·rintro w' ⟨s0, s1, s2, s3, s4, s5, s6⟩
    go_simp
    with_reducible rfl
   rotate_left
   ·simp only [Act.put, List.setIfInBounds_toArray, List.set_cons_zero, List.set_cons_succ, i64_w, i32_w]; rfl
   refine take_ (i := 2) (N := (some 19)) (v := ?_) (a' := ?_) #[true, true, true, true, false, true, false, false, false, true, true, false, false, false, false, false] rfl rfl (by kernel_rfl) (fun _ _ _ h => h) (Or.inl ⟨by rfl, ?_⟩) hHeld ?_ ?_
   rotate_left
   ·rintro w' ⟨s0, s1, s2, s3, s4, s5, s6⟩
    go_simp
    with_reducible rfl
   rotate_left
   ·simp only [Act.put, List.setIfInBounds_toArray, List.set_cons_zero, List.set_cons_succ, i64_w, i32_w]; rfl
   refine take_ (i := 4) (N := (some 21)) (v := ?_) (a' := ?_) #[true, true, true, true, true, true, false, false, false, true, true, false, false, false, false, false] rfl rfl (by kernel_rfl) (fun _ _ _ h => h) (Or.inl ⟨by rfl, ?_⟩) hHeld ?_ ?_
   rotate_left
   ·rintro w' ⟨s0, s1, s2, s3, s4, s5, s6⟩
    go_simp
    with_reducible rfl
   rotate_left
   ·simp only [Act.put, List.setIfInBounds_toArray, List.set_cons_zero, List.set_cons_succ, i64_w, i32_w]; rfl
   refine take_ (i := 6) (N := (some 23)) (v := ?_) (a' := ?_) #[true, true, true, true, true, true, true, false, false, true, true, false, false, false, false, false] rfl rfl (by kernel_rfl) (fun _ _ _ h => h) (Or.inl ⟨by rfl, ?_⟩) hHeld ?_ ?_
   rotate_left
   ·rintro w' ⟨s0, s1, s2, s3, s4, s5, s6⟩
    go_simp
    with_reducible rfl
   rotate_left
   ·simp only [Act.put, List.setIfInBounds_toArray, List.set_cons_zero, List.set_cons_succ, i64_w, i32_w]; rfl
   refine take_ (i := 7) (N := (some 24)) (v := ?_) (a' := ?_) #[true, true, true, true, true, true, true, true, false, true, true, false, false, false, false, false] rfl rfl (by kernel_rfl) (fun _ _ _ h => h) (Or.inl ⟨by rfl, ?_⟩) hHeld ?_ ?_
   rotate_left
   ·rintro w' ⟨s0, s1, s2, s3, s4, s5, s6⟩
    go_simp
    with_reducible rfl
   rotate_left
   ·simp only [Act.put, List.setIfInBounds_toArray, List.set_cons_zero, List.set_cons_succ, i64_w, i32_w]; rfl
   refine take_ (i := 8) (N := (some 25)) (v := ?_) (a' := ?_) #[true, true, true, true, true, true, true, true, true, true, true, false, false, false, false, false] rfl rfl (by kernel_rfl) (fun _ _ _ h => h) (Or.inl ⟨by rfl, ?_⟩) hHeld ?_ ?_
   rotate_left
   ·rintro w' ⟨s0, s1, s2, s3, s4, s5, s6⟩
    go_simp
    with_reducible rfl
   rotate_left
   ·simp only [Act.put, List.setIfInBounds_toArray, List.set_cons_zero, List.set_cons_succ, i64_w, i32_w]; rfl
   refine take_ (i := 11) (N := (some 28)) (v := ?_) (a' := ?_) #[true, true, true, true, true, true, true, true, true, true, true, true, false, false, false, false] rfl rfl (by kernel_rfl) (fun _ _ _ h => h) (Or.inl ⟨by rfl, ?_⟩) hHeld ?_ ?_
   rotate_left
   ·rintro w' ⟨s0, s1, s2, s3, s4, s5, s6⟩
    go_simp
    with_reducible rfl
   rotate_left
   ·simp only [Act.put, List.setIfInBounds_toArray, List.set_cons_zero, List.set_cons_succ, i64_w, i32_w]; rfl
   refine take_ (i := 12) (N := (some 29)) (v := ?_) (a' := ?_) #[true, true, true, true, true, true, true, true, true, true, true, true, true, false, false, false] rfl rfl (by kernel_rfl) (fun _ _ _ h => h) (Or.inl ⟨by rfl, ?_⟩) hHeld ?_ ?_
   rotate_left
   ·rintro w' ⟨s0, s1, s2, s3, s4, s5, s6⟩
    go_simp
    with_reducible rfl
   rotate_left
   ·simp only [Act.put, List.setIfInBounds_toArray, List.set_cons_zero, List.set_cons_succ, i64_w, i32_w]; rfl
   refine one_ (i := 13) (N := (some 30)) #[true, true, true, true, true, true, true, true, true, true, true, true, true, true, false, false] rfl rfl (by kernel_rfl) (by decide) (fun K hK => ?_)
   refine goes_ Tryd.func103 (by kernel_rfl) rfl #[.agg #[.slice A st.length c, .slice A2 wg.length c2], .int .i64 (p : Int), .agg #[.int .i64 x.lo, .int .i64 x.hi], .agg #[.int .i64 y.lo, .int .i64 y.hi]] (by rfl) rfl rfl (by (try simp only [List.map_toArray, List.map_cons, List.map_nil]); first | done | rfl) ?_
   refine (HCALL.out _ ((Up.refl Wd).drew)).mono ?_
   rintro e w' ⟨rfl, hb⟩
   have HW : Aside0 (Up Wd w') := ⟨((Up.refl Wd).drew).then hb⟩
   have hq0' := (HI.out.b0.up HW.out).cell
   have hq1' := (HI.out.b1.up HW.out).cell
   have hrw := (HROW.out.up HW.out).sps
   have hca := hrw.cell p (by rw [HGL.out]; omega)
   have hcc := hrw.cell (p + 1) (by rw [HGL.out]; omega)
   rw [show 2 * p = p * 2 by omega, ← HX.out] at hca
   rw [show 2 * (p + 1) = (p + 1) * 2 by omega, ← HY.out] at hcc
   have hfz' := hrw.frozen
   clear hb hrw; refine ⟨_, rfl, ?_⟩
   refine hK.out _ _ ⟨hq0' 0, hq0' 1, hq1' 0, hca.1, hca.2, hcc.1, hcc.2⟩ (fun hHeld => ?_)
   clear hK K; refine norm_ (a' := ?_) ?_ ?_
   rotate_left
   ·show Act.put _ (some 30) _ = _
    simp only [Act.put, List.setIfInBounds_toArray, List.set_cons_zero, List.set_cons_succ, i64_w, i32_w]
    rfl
   refine one_ (i := 14) (N := (some 31)) #[true, true, true, true, true, true, true, true, true, true, true, true, true, true, true, false] rfl rfl (by kernel_rfl) (by decide) (fun K hK => ?_)
   refine value_ (v := ?_) (w1 := w') (by rfl) rfl ?_ ?_
   rotate_left
   ·go_simp
    rfl
   refine hK.out _ _ hHeld (fun hHeld => ?_)
   clear hK K; refine norm_ (a' := ?_) ?_ ?_
   rotate_left
   ·show Act.put _ (some 31) _ = _
    simp only [Act.put, List.setIfInBounds_toArray, List.set_cons_zero, List.set_cons_succ, i64_w, i32_w]
    rfl
   refine last_ (i := 15) (N := none) #[true, true, true, true, true, true, true, true, true, true, true, true, true, true, true, true] rfl rfl (by kernel_rfl) (by decide) (fun K hK => ?_)
   obtain ⟨s0, s1, s2, s3, s4, s5, s6⟩ := hHeld
   refine skip_ (w1 := ?_) (by rfl) rfl ?_ ?_
   rotate_left
   ·go_simp
    rfl
   refine hK.out _ _ ?_
   clear hK K; refine done_ (by kernel_rfl) ?_
   have hgb9 := HG.out
   have hrow2 := (HROW.out.up HW.out).set p (by rw [HGL.out]; omega) z.lo z.hi
   rw [show 2 * p = p * 2 by omega] at hrow2
   have hne0 : w.heap.size ≠ g := by have := HG.out; omega
   have hne1 : w.heap.size + 1 ≠ g := by have := HG.out; omega
   refine ⟨?_, ⟨((HI.out.up.then HW.out).set _ _ (by simp; omega)).set _ _ (by simp; omega), ((HI.out.b0.up HW.out).far hne0 _ _).far hne0 _ _, ((HI.out.b1.up HW.out).far hne1 _ _).far hne1 _ _, ?_⟩⟩
   ·have hk9 := kt_set (Kt.up HW.out : Kt ptLo Wd w') (spc_typed (HROW.out.up HW.out) (lo := ptLo) rfl) (p * 2) (.int .i64 z.lo)
    exact (kt_set hk9.1 hk9.2 (p * 2 + 1) (.int .i64 z.hi)).1
   ·have hk' : (pre ++ [p]).length = st.length - p + 1 := by rw [List.length_append, HK.out]; rfl
    rw [hk', HST.out]
    exact hrow2
  ·have hps : ¬ ((p : Int) < (st.length : Int)) := by omega
   gi_wp2_with fail
   have hk0 : pre.length = 0 := by omega
   refine ⟨Kt.refl _ _, hI.up, hI.b0, hI.b1, ?_⟩
   rw [List.length_append, hk0, List.length_singleton, gst_one st L HLEN.out]
   rw [hk0, gst_zero] at hrow
   exact hrow
end Go.Proofs.YtemingmeidmjkaaDoor.Q
namespace Go.Proofs.YtemingmeidmjkaaDoor.Q
open Go.RowKit Go.Shelf Go.Proofs.YtemingmeidmjkaaDoorW.PrintWords Go.Proofs.YtemingmeidmjkaaDoorW.PrintLast
set_option linter.unusedVariables false
set_option linter.unusedSimpArgs false
theorem idx_Sm_drop (p : Sp → Bool) (l : List Sp) (k : Nat) (h : k < l.length) : idxF p (l.drop k) k = if p (rdS l k) then (k:Int) else idxF p (l.drop (k+1)) (k+1) := by
 rw [List.drop_eq_getElem_cons h, idxF]; simp [rdS, List.getD_eq_getElem?_getD, h]
set_option maxRecDepth 100000 in
theorem index_Sm (fv : FuncId) (cap : Array Value) (p : Sp → Bool) (A : Option Addr) (c : Nat) (l : List Sp) (w : World)
  (hr : Kd.C kSp w A l.length l) (hc : l.length ≤ c)
  (hE : ∀ (args : Array Value) (w : World), (callFunc fv args).run Tryd.prog w = .ok (.enter fv args) w)
  (hf : ∀ x W, Up w W → Calls Tryd.prog fv (#[.agg #[.int .i64 x.lo, .int .i64 x.hi]] ++ cap) W fun e W' => e = .returned (.bool (p x)) ∧ Up W W') :
  Calls Tryd.prog 110 #[.slice A l.length c, .func (.func fv) #[] cap] w fun e w' => e = .returned (.int .i64 (idxF p l 0)) ∧ Up w w' := by
 have HF := Aside0.mk hf
 have HR := Aside0.mk hr
 have hm := CF_len hr
 clear hf hr; go_enter Tryd.func110, Tryd.ntmps110
 go_wp2
 go_loopw [8] (fun i wr => ∃ k : Nat, k ≤ l.length ∧ i = .int .i64 k ∧ Aside0 (idxF p l 0 = idxF p (l.drop k) k) ∧ Aside0 (Up w wr)) (fun i _ => l.length - (intOf i).toNat)
 case atStart => exact ⟨0, Nat.zero_le _, rfl, ⟨rfl⟩, ⟨Up.refl _⟩⟩
 case round =>
  obtain ⟨k, hk, rfl, he, hb⟩ := hrel
  by_cases hlt : k < l.length
  ·obtain ⟨ad, e, hx0, hx1⟩ := at_Sp (C_up HR.out hb.out) k (by omega) (by omega)
   cases e
   have hu := Tryd.underlying100
   simp only [Int.toNat_natCast] at hx0 hx1
   have hcall := HF.out (rdS l k) _ hb.out
   cases hp : p (rdS l k)
   all_goals
    rw [hp] at hcall
    have he2 := idx_Sm_drop p l k hlt
    rw [hp] at he2
    have he3 := Aside0.mk (he.out.trans he2)
    clear hp he he2; go_wp2_with fail
    refine hcall.mono ?_
    clear hcall; rintro e w' ⟨rfl, hb'⟩
    have hb2 := Aside0.mk (hb.out.then hb')
    clear hb' hb; go_wp2
   ·go_roundw
    case rel => exact ⟨k+1, by omega, by go_num, ⟨by simpa using he3.out⟩, hb2⟩
    case measure => simp [intOf]; omega
   ·go_ret
    exact ⟨by rw [he3.out]; rfl, hb2.out⟩
  ·go_wp2
   go_ret
   exact ⟨by rw [he.out, List.drop_eq_nil_of_le (by omega)]; rfl, hb.out⟩
theorem contains_Sm (fv : FuncId) (cap : Array Value) (p : Sp → Bool) (A : Option Addr) (c : Nat) (l : List Sp) (w : World)
  (hr : Kd.C kSp w A l.length l) (hc : l.length ≤ c)
  (hE : ∀ (args : Array Value) (w : World), (callFunc fv args).run Tryd.prog w = .ok (.enter fv args) w)
  (hf : ∀ x W, Up w W → Calls Tryd.prog fv (#[.agg #[.int .i64 x.lo, .int .i64 x.hi]] ++ cap) W fun e W' => e = .returned (.bool (p x)) ∧ Up W W') :
  Calls Tryd.prog 104 #[.slice A l.length c, .func (.func fv) #[] cap] w fun e w' => e = .returned (.bool (l.any p)) ∧ Up w w' := by
 have hcall := index_Sm fv cap p A c l w hr hc hE hf
 clear hr hf; have HD : Aside0 (decide (0 ≤ idxF p l 0) = l.any p) := ⟨idxF_any p l⟩
 clear hE; go_enter Tryd.func104, Tryd.ntmps104
 go_wp2_with fail
 refine hcall.mono ?_
 clear hcall; rintro e w' ⟨rfl, hb'⟩
 have hb2 := Aside0.mk hb'
 clear hb'; go_wp2
 go_ret
 exact ⟨ret_bool HD.out, hb2.out⟩
def noneB (s : Sp) : Bool := decide (s.lo > s.hi)
theorem containsNone (A : Option Addr) (c : Nat) (l : List Sp) (w : World) (hr : Kd.C kSp w A l.length l) (hc : l.length ≤ c) :
  Calls Tryd.prog 104 #[.slice A l.length c, .func (.func 82) #[] #[]] w fun e w' => e = .returned (.bool (l.any noneB)) ∧ Up w w' :=
 contains_Sm 82 #[] noneB _ _ l _ hr hc (by intro a w; kernel_rfl) (by intro x W hb; exact isNone_ x W)
theorem comeL_len (st : List Sp) (wg : List Wg) : (comeL st wg).length = st.length + 1 := by simp [comeL]
theorem comeL_ok {st : List Sp} {wg : List Wg} (h : RdOk st wg) : ∀ s ∈ comeL st wg, okS s := by
 intro s hs
 simp only [comeL, List.mem_map, List.mem_range] at hs
 obtain ⟨i, hi, rfl⟩ := hs
 exact comeAt_ok h i (by omega)
def honL (st : List Sp) (wg : List Wg) : List Sp := goL st (comeL st wg)
def honB (st : List Sp) (wg : List Wg) : Bool := !(honL st wg).any noneB
theorem honL_len (st : List Sp) (wg : List Wg) : (honL st wg).length = st.length + 1 := by rw [honL, goL_len, comeL_len]
set_option maxRecDepth 100000 in
set_option maxHeartbeats 1000000 in
theorem honest_ (A : Option Addr) (c : Nat) (st : List Sp) (A2 : Option Addr) (c2 : Nat) (wg : List Wg) (w : World) (hG : GL w) (hr : Kd.C kSp w A st.length st) (hc : st.length ≤ c) (hr2 : Kd.C kWg w A2 wg.length wg) (hc2 : wg.length ≤ c2) (hok : RdOk st wg) :
  Calls Tryd.prog 76 #[.agg #[.slice A st.length c, .slice A2 wg.length c2]] w fun e w' => ∃ v, e = .returned (.tuple #[v, .bool (honB st wg)]) ∧ w'.ownsRow w.heap.size 100 2 v (honL st wg).length (cellsS (honL st wg)) ∧ Up w w' := by
 have hm := CF_len hr
 have HR := Aside0.mk hr
 have HR2 := Aside0.mk hr2
 have HOK := Aside0.mk hok
 have HGL := Aside0.mk hG
 have hl1 := hok.len
 clear hr hr2 hok hG; have HU0 : Aside0 (Up w (w.alloc (.cells #[.slice A st.length c, .slice A2 wg.length c2] 95))) := ⟨upA⟩
 have HB0 : Aside0 (Bx (w.alloc (.cells #[.slice A st.length c, .slice A2 wg.length c2] 95)) w.heap.size #[.slice A st.length c, .slice A2 wg.length c2] 95) := ⟨Bx.new w _ _⟩
 go_enter Tryd.func76, Tryd.ntmps76
 go_wp2_with fail
 have hq0 := HB0.out.cell
 generalize (w.alloc (.cells #[.slice A st.length c, .slice A2 wg.length c2] 95)) = W0 at *
 -- EV honest
 refine start_ (n := 5) (S := fun W' => W'.cell? ⟨w.heap.size, 0, none⟩ = some (.slice A st.length c) ∧ W'.cell? ⟨w.heap.size, 1, none⟩ = some (.slice A2 wg.length c2)) (ds := []) #[false, false, false, false, false] (by kernel_rfl) rfl rfl ⟨hq0 0, hq0 1⟩ (fun hHeld => ?_)
 refine take_ (i := 0) (N := (some 5)) (v := ?_) (a' := ?_) #[true, false, false, false, false] rfl rfl (by kernel_rfl) (fun _ _ _ h => h) (Or.inl ⟨by rfl, ?_⟩) hHeld ?_ ?_
 rotate_left
 ·rintro w' ⟨s0, s1⟩
  go_simp
  with_reducible rfl
 rotate_left
 ·simp only [Act.put, List.setIfInBounds_toArray, List.set_cons_zero, List.set_cons_succ, i64_w, i32_w]; rfl
 refine take_ (i := 1) (N := (some 6)) (v := ?_) (a' := ?_) #[true, true, false, false, false] rfl rfl (by kernel_rfl) (fun _ _ _ h => h) (Or.inl ⟨by rfl, ?_⟩) hHeld ?_ ?_
 rotate_left
 ·rintro w' ⟨s0, s1⟩
  go_simp
  with_reducible rfl
 rotate_left
 ·simp only [Act.put, List.setIfInBounds_toArray, List.set_cons_zero, List.set_cons_succ, i64_w, i32_w]; rfl
 refine one_ (i := 2) (N := (some 7)) #[true, true, true, false, false] rfl rfl (by kernel_rfl) (by decide) (fun K hK => ?_)
 refine goes_ Tryd.func100 (by kernel_rfl) rfl #[.agg #[.slice A st.length c, .slice A2 wg.length c2]] (by rfl) rfl rfl (by (try simp only [List.map_toArray, List.map_cons, List.map_nil]); first | done | rfl) ?_
 refine (come_ A c st A2 c2 wg _ (HGL.out.up (HU0.out.drew)) (C_up HR.out (HU0.out.drew)) hc (C_up HR2.out (HU0.out.drew)) hc2 HOK.out).mono ?_
 rintro e w1 ⟨v1, rfl, hown, hb⟩
 have HU1 := Aside0.mk (HU0.out.drew.then hb)
 have HX : Aside0 (Up W0.drew w1) := ⟨hb⟩
 have HX2 := Aside0.mk (hb.le)
 have hq1 := (HB0.out.up (((Up.refl _).drew).then hb)).cell
 have HO1 := Aside0.mk hown
 clear hb hown; refine ⟨_, rfl, ?_⟩
 refine hK.out _ _ ⟨hq1 0, hq1 1⟩ (fun hHeld => ?_)
 clear hK K; refine norm_ (a' := ?_) ?_ ?_
 rotate_left
 ·show Act.put _ (some 7) _ = _
  simp only [Act.put, List.setIfInBounds_toArray, List.set_cons_zero, List.set_cons_succ, i64_w, i32_w]
  rfl
 refine one_ (i := 3) (N := (some 8)) #[true, true, true, true, false] rfl rfl (by kernel_rfl) (by decide) (fun K hK => ?_)
 refine goes_ Tryd.func105 (by kernel_rfl) rfl #[.agg #[.slice A st.length c, .slice A2 wg.length c2], v1] (by rfl) rfl rfl (by (try simp only [List.map_toArray, List.map_cons, List.map_nil]); first | done | rfl) ?_
 refine (goOn_ A c st A2 c2 wg v1 _ (comeL st wg) _ (C_up HR.out HU1.out) hc (C_up HR2.out HU1.out) hc2 HOK.out HO1.out (comeL_len st wg) (comeL_ok HOK.out)).mono ?_
 rintro e w2 ⟨v2, rfl, hown, hb⟩
 have HU2 := Aside0.mk (HU1.out.then hb)
 have hq2 := (HB0.out.up (w' := w2) (((Up.refl _).drew).then (HX.out.then hb))).cell
 have HO2 := Aside0.mk (own_mono hown (Nat.le_trans HU0.out.le HX2.out))
 clear hb hown; refine ⟨_, rfl, ?_⟩
 refine hK.out _ _ ⟨hq2 0, hq2 1⟩ (fun hHeld => ?_)
 clear hK K; refine norm_ (a' := ?_) ?_ ?_
 rotate_left
 ·show Act.put _ (some 8) _ = _
  simp only [Act.put, List.setIfInBounds_toArray, List.set_cons_zero, List.set_cons_succ, i64_w, i32_w]
  rfl
 refine pure_ (i := 4) (N := (some 4)) (v := ?_) (a' := ?_) #[true, true, true, true, true] rfl rfl (by kernel_rfl) (fun _ _ _ h => h) (Or.inl ⟨by rfl, ?_⟩) ?_ ?_
 rotate_left
 ·intro w'
  go_simp
  with_reducible rfl
 rotate_left
 ·simp only [Act.put, List.setIfInBounds_toArray, List.set_cons_zero, List.set_cons_succ, i64_w, i32_w]; rfl
 refine done_ (by kernel_rfl) ?_
 -- END honest
 have HO3 : Aside0 (w2.ownsRow w.heap.size 100 2 v2 (honL st wg).length (cellsS (honL st wg))) := ⟨HO2.out⟩
 obtain ⟨A5, c5, rfl, hc5, hC5⟩ := own_C_Sp HO3.out (by rw [honL_len]; omega)
 have HC5 := Aside0.mk hC5
 have hcall := containsNone A5 c5 (honL st wg) w2 HC5.out hc5
 have HB : Aside0 ((!(honL st wg).any noneB) = honB st wg) := ⟨rfl⟩
 clear hC5 HO2; go_wp2_with fail
 refine hcall.mono ?_
 clear hcall; rintro e w3 ⟨rfl, hb⟩
 have HU3 := Aside0.mk (HU2.out.then hb)
 have HO4 := Aside0.mk (own_up HO3.out hb)
 clear hb HO3; go_wp2_with fail
 go_ret2
 exact ⟨.slice A5 (honL st wg).length c5, by rw [← HB.out]; simp, HO4.out, HU3.out⟩
set_option maxRecDepth 100000 in
theorem open_ (A : Option Addr) (c : Nat) (st : List Sp) (A2 : Option Addr) (c2 : Nat) (wg : List Wg) (w : World) (hr : Kd.C kSp w A st.length st) (hc : st.length ≤ c) (hr2 : Kd.C kWg w A2 wg.length wg) (hc2 : wg.length ≤ c2) :
  Calls Tryd.prog 67 #[.agg #[.slice A st.length c, .slice A2 wg.length c2]] w fun e w' => e = .returned (.tuple #[.agg #[.slice A st.length c, .slice A2 wg.length c2], .int .i64 (roadE st wg)]) ∧ Up w w' := by
 have HR := Aside0.mk hr
 have HR2 := Aside0.mk hr2
 clear hr hr2; have HU0 : Aside0 (Up w ((w.alloc (.cells #[.slice A st.length c, .slice A2 wg.length c2] 25)).alloc (.cells #[.slice none 0 0, .slice none 0 0] 95))) := ⟨upA⟩
 have HB0 : Aside0 (Bx ((w.alloc (.cells #[.slice A st.length c, .slice A2 wg.length c2] 25)).alloc (.cells #[.slice none 0 0, .slice none 0 0] 95)) w.heap.size #[.slice A st.length c, .slice A2 wg.length c2] 25) := ⟨(Bx.new w _ _).up upA⟩
 have HB1 : Aside0 (Bx ((w.alloc (.cells #[.slice A st.length c, .slice A2 wg.length c2] 25)).alloc (.cells #[.slice none 0 0, .slice none 0 0] 95)) (w.heap.size + 1) #[.slice none 0 0, .slice none 0 0] 95) := ⟨by have h9 := Bx.new (w.alloc (.cells #[.slice A st.length c, .slice A2 wg.length c2] 25)) #[.slice none 0 0, .slice none 0 0] 95; simpa using h9⟩
 go_enter Tryd.func67, Tryd.ntmps67
 go_wp2_with fail
 have hq0 := HB0.out.cell; have hq1 := HB1.out.cell; have hf1 := HB1.out.frozen
 generalize ((w.alloc (.cells #[.slice A st.length c, .slice A2 wg.length c2] 25)).alloc (.cells #[.slice none 0 0, .slice none 0 0] 95)) = W0 at *
 -- EV open
 refine start_ (n := 6) (S := fun W' => W'.cell? ⟨w.heap.size, 0, none⟩ = some (.slice A st.length c) ∧ W'.cell? ⟨w.heap.size, 1, none⟩ = some (.slice A2 wg.length c2)) (ds := [4]) #[false, false, false, false, false, false] (by kernel_rfl) rfl rfl ⟨hq0 0, hq0 1⟩ (fun hHeld => ?_)
 refine take_ (i := 0) (N := (some 4)) (v := ?_) (a' := ?_) #[true, false, false, false, false, false] rfl rfl (by kernel_rfl) (fun _ _ _ h => h) (Or.inl ⟨by rfl, ?_⟩) hHeld ?_ ?_
 rotate_left
 ·rintro w' ⟨s0, s1⟩
  go_simp
  with_reducible rfl
 rotate_left
 ·simp only [Act.put, List.setIfInBounds_toArray, List.set_cons_zero, List.set_cons_succ, i64_w, i32_w]; rfl
 refine take_ (i := 1) (N := (some 5)) (v := ?_) (a' := ?_) #[true, true, false, false, false, false] rfl rfl (by kernel_rfl) (fun _ _ _ h => h) (Or.inl ⟨by rfl, ?_⟩) hHeld ?_ ?_
 rotate_left
 ·rintro w' ⟨s0, s1⟩
  go_simp
  with_reducible rfl
 rotate_left
 ·simp only [Act.put, List.setIfInBounds_toArray, List.set_cons_zero, List.set_cons_succ, i64_w, i32_w]; rfl
 refine take_ (i := 2) (N := (some 6)) (v := ?_) (a' := ?_) #[true, true, true, false, false, false] rfl rfl (by kernel_rfl) (fun _ _ _ h => h) (Or.inl ⟨by rfl, ?_⟩) hHeld ?_ ?_
 rotate_left
 ·rintro w' ⟨s0, s1⟩
  go_simp
  with_reducible rfl
 rotate_left
 ·simp only [Act.put, List.setIfInBounds_toArray, List.set_cons_zero, List.set_cons_succ, i64_w, i32_w]; rfl
 refine one_ (i := 3) (N := (some 7)) #[true, true, true, true, false, false] rfl rfl (by kernel_rfl) (by decide) (fun K hK => ?_)
 refine goes_ Tryd.func19 (by kernel_rfl) rfl #[.agg #[.slice A st.length c, .slice A2 wg.length c2]] (by rfl) rfl rfl (by (try simp only [List.map_toArray, List.map_cons, List.map_nil]); first | done | rfl) ?_
 refine (check_ A c st A2 c2 wg _ (C_up HR.out (HU0.out.drew)) hc (C_up HR2.out (HU0.out.drew)) hc2).mono ?_
 rintro e w1 ⟨rfl, hb⟩
 have HU1 := Aside0.mk (HU0.out.drew.then hb)
 have HX : Aside0 (Up W0 w1) := ⟨((Up.refl _).drew).then hb⟩
 have hq1 := (HB0.out.up HX.out).cell
 have HB1 := Aside0.mk (HB1.out.up HX.out)
 clear hb; refine ⟨_, rfl, ?_⟩
 refine hK.out _ _ ⟨hq1 0, hq1 1⟩ (fun hHeld => ?_)
 clear hK K; refine norm_ (a' := ?_) ?_ ?_
 rotate_left
 ·show Act.put _ (some 7) _ = _
  simp only [Act.put, List.setIfInBounds_toArray, List.set_cons_zero, List.set_cons_succ, i64_w, i32_w]
  rfl
 refine last_ (i := 4) (N := none) #[true, true, true, true, true, false] rfl rfl (by kernel_rfl) (by decide) (fun K hK => ?_)
 have hqb := HB1.out.cell; have hfb := HB1.out.frozen
 refine skip_ (w1 := ?_) (by rfl) rfl ?_ ?_
 rotate_left
 ·go_simp
  rfl
 refine hK.out _ _ ?_
 clear hK K; refine pure_ (i := 5) (N := (some 3)) (v := ?_) (a' := ?_) #[true, true, true, true, true, true] rfl rfl (by kernel_rfl) (fun _ _ _ h => h) (Or.inl ⟨by rfl, ?_⟩) ?_ ?_
 rotate_left
 ·intro w'
  go_simp
  with_reducible rfl
 rotate_left
 ·simp only [Act.put, List.setIfInBounds_toArray, List.set_cons_zero, List.set_cons_succ, i64_w, i32_w]; rfl
 refine done_ (by kernel_rfl) ?_
 -- END open
 go_wp2_with fail
 have HU2 := Aside0.mk ((HU1.out.set ⟨w.heap.size + 1, 0, none⟩ (.slice A st.length c) (by simp)).set ⟨w.heap.size + 1, 1, none⟩ (.slice A2 wg.length c2) (by simp))
 have HB2 := Aside0.mk ((HB1.out.set 0 (.slice A st.length c)).set 1 (.slice A2 wg.length c2))
 have hqc := HB2.out.cell
 refine bodyPost_ret (v := .tuple #[.agg #[.slice A st.length c, .slice A2 wg.length c2], .int .i64 (roadE st wg)]) ?_ rfl ⟨rfl, HU2.out⟩
 clear hq0 hq1 hqb hfb; simp [results, Tryd.results67, go_sem, hqc]
def ohE (st : List Sp) (wg : List Wg) : Int := if roadE st wg = 0 then (if honB st wg then 0 else 9) else roadE st wg
def ohL (st : List Sp) (wg : List Wg) : List Sp := if ohE st wg = 0 then honL st wg else []
theorem stBad_not {s : Sp} (h : stBad s = false) : stB s := by
 unfold stBad at h
 simp only [Bool.or_eq_false_iff, decide_eq_false_iff_not, Bool.not_eq_false'] at h
 have h2 := (inB_iff _ _ _).1 h.2
 simp only [List.mem_cons, List.not_mem_nil, or_false, forall_eq_or_imp, forall_eq] at h2
 unfold stB
 omega
theorem wgBad_not {n : Nat} {x : Wg} (h : wgBad n x = false) : (0 ≤ x.p ∧ x.p ≤ n) ∧ (0 ≤ x.r ∧ x.r ≤ 400) ∧ (0 ≤ x.o ∧ x.o ≤ 20) := by
 unfold wgBad at h
 simp only [Bool.or_eq_false_iff, Bool.not_eq_false'] at h
 have h1 := (inB_iff _ _ _).1 h.1.1
 have h2 := (inB_iff _ _ _).1 h.1.2
 have h3 := (inB_iff _ _ _).1 h.2
 simp only [List.mem_singleton, forall_eq] at h1 h2 h3
 exact ⟨h1, h2, h3⟩
theorem road_ok {st : List Sp} {wg : List Wg} (h : roadE st wg = 0) : RdOk st wg ∧ 1 ≤ st.length ∧ st.length ≤ 5 ∧ wg.length ≤ 8 ∧ ∀ x ∈ wg, 0 ≤ x.p ∧ x.p ≤ st.length := by
 unfold roadE at h
 cases h1 : inB 1 5 [(st.length : Int)]
 ·simp [h1] at h
 ·have h1' := (inB_iff _ _ _).1 h1
  simp only [List.mem_singleton, forall_eq] at h1'
  simp only [h1, if_true] at h
  cases h2 : st.any stBad
  ·simp only [h2, Bool.false_eq_true, if_false] at h
   by_cases h3 : wg.length > 8
   ·simp [h3] at h
   ·rw [if_neg h3] at h
    cases h4 : wg.any (wgBad st.length)
    ·have h5 : ∀ x ∈ wg, wgBad st.length x = false := by simpa [List.any_eq_false] using h4
     have h6 : ∀ s ∈ st, stBad s = false := by simpa [List.any_eq_false] using h2
     exact ⟨⟨fun s hs => stBad_not (h6 s hs), fun x hx => (wgBad_not (h5 x hx)).2, by omega⟩, by omega, by omega, by omega, fun x hx => (wgBad_not (h5 x hx)).1⟩
    ·simp [h4] at h
  ·simp [h2] at h
set_option maxRecDepth 100000 in
set_option maxHeartbeats 1000000 in
theorem openHonest_ (A : Option Addr) (c : Nat) (st : List Sp) (A2 : Option Addr) (c2 : Nat) (wg : List Wg) (w : World) (hG : GL w) (hr : Kd.C kSp w A st.length st) (hc : st.length ≤ c) (hr2 : Kd.C kWg w A2 wg.length wg) (hc2 : wg.length ≤ c2) :
  Calls Tryd.prog 60 #[.agg #[.slice A st.length c, .slice A2 wg.length c2]] w fun e w' => ∃ v, e = .returned (.tuple #[.agg #[.slice A st.length c, .slice A2 wg.length c2], v, .int .i64 (ohE st wg)]) ∧ w'.ownsRow w.heap.size 100 2 v (ohL st wg).length (cellsS (ohL st wg)) ∧ Up w w' := by
 have HR := Aside0.mk hr
 have HR2 := Aside0.mk hr2
 have HGL := Aside0.mk hG
 clear hr hr2 hG; have HU0 : Aside0 (Up w ((w.alloc (.cells #[.slice A st.length c, .slice A2 wg.length c2] 25)).alloc (.cells #[.slice none 0 0, .slice none 0 0] 95))) := ⟨upA⟩
 have HB1 : Aside0 (Bx ((w.alloc (.cells #[.slice A st.length c, .slice A2 wg.length c2] 25)).alloc (.cells #[.slice none 0 0, .slice none 0 0] 95)) (w.heap.size + 1) #[.slice none 0 0, .slice none 0 0] 95) := ⟨by have h9 := Bx.new (w.alloc (.cells #[.slice A st.length c, .slice A2 wg.length c2] 25)) #[.slice none 0 0, .slice none 0 0] 95; simpa using h9⟩
 have hcall := open_ A c st A2 c2 wg ((w.alloc (.cells #[.slice A st.length c, .slice A2 wg.length c2] 25)).alloc (.cells #[.slice none 0 0, .slice none 0 0] 95)) (C_up HR.out HU0.out) hc (C_up HR2.out HU0.out) hc2
 have hbe : (roadE st wg != 0) = !decide (roadE st wg = 0) := by by_cases h : roadE st wg = 0 <;> simp [h]
 go_enter Tryd.func60, Tryd.ntmps60
 go_wp2_with fail
 generalize ((w.alloc (.cells #[.slice A st.length c, .slice A2 wg.length c2] 25)).alloc (.cells #[.slice none 0 0, .slice none 0 0] 95)) = W0 at *
 refine hcall.mono ?_
 clear hcall; rintro e w1 ⟨rfl, hb⟩
 have HU1 := Aside0.mk (HU0.out.then hb)
 have HB2 := Aside0.mk (HB1.out.up hb)
 have hq1 := HB2.out.cell; have hf1 := HB2.out.frozen
 have HU2 := Aside0.mk ((HU1.out.set ⟨w.heap.size + 1, 0, none⟩ (.slice A st.length c) (by simp)).set ⟨w.heap.size + 1, 1, none⟩ (.slice A2 wg.length c2) (by simp))
 have HB3 := Aside0.mk ((HB2.out.set 0 (.slice A st.length c)).set 1 (.slice A2 wg.length c2))
 clear hb HB1
 by_cases he : roadE st wg = 0
 ·have hd : (roadE st wg != 0) = false := by simp [he]
  have HE := Aside0.mk he
  clear he hbe; go_wp2_with fail
  refine (honest_ A c st A2 c2 wg _ (HGL.out.up HU2.out) (C_up HR.out HU2.out) hc (C_up HR2.out HU2.out) hc2 (road_ok HE.out).1).mono ?_
  rintro e w2 ⟨v2, rfl, hown, hb⟩
  have HU4 := Aside0.mk (HU2.out.then hb)
  have HB4 := Aside0.mk (HB3.out.up hb)
  have HO := Aside0.mk (own_mono hown (Nat.le_trans (HU2.out.le) (Nat.le_refl _)))
  clear hq1 hf1; have hq1 := HB4.out.cell
  have hf1 := HB4.out.frozen
  clear hown hb
  cases hh : honB st wg
  ·have HE2 : Aside0 (ohE st wg = 9) := ⟨by simp [ohE, HE.out, hh]⟩
   have HL : Aside0 (ohL st wg = []) := ⟨by simp [ohL, HE2.out]⟩
   clear hh; go_wp2_with fail
   have HB5 := Aside0.mk ((HB4.out.set 0 (.slice A st.length c)).set 1 (.slice A2 wg.length c2))
   have HU5 := Aside0.mk ((HU4.out.set ⟨w.heap.size + 1, 0, none⟩ (.slice A st.length c) (by simp)).set ⟨w.heap.size + 1, 1, none⟩ (.slice A2 wg.length c2) (by simp))
   have hq5 := HB5.out.cell
   refine bodyPost_ret (v := .tuple #[.agg #[.slice A st.length c, .slice A2 wg.length c2], .slice none 0 0, .int .i64 (9)]) ?_ rfl ⟨.slice none 0 0, by rw [HE2.out], by rw [HL.out]; exact ⟨rfl, .inl ⟨rfl, rfl⟩⟩, HU5.out⟩
   clear hq1 hf1; simp [results, Tryd.results60, go_sem, hq5]
  ·have HE2 : Aside0 (ohE st wg = 0) := ⟨by simp [ohE, HE.out, hh]⟩
   have HL : Aside0 (ohL st wg = honL st wg) := ⟨by simp [ohL, HE2.out]⟩
   clear hh; go_wp2_with fail
   have HB5 := Aside0.mk ((HB4.out.set 0 (.slice A st.length c)).set 1 (.slice A2 wg.length c2))
   have HU5 := Aside0.mk ((HU4.out.set ⟨w.heap.size + 1, 0, none⟩ (.slice A st.length c) (by simp)).set ⟨w.heap.size + 1, 1, none⟩ (.slice A2 wg.length c2) (by simp))
   have hq5 := HB5.out.cell
   refine bodyPost_ret (v := .tuple #[.agg #[.slice A st.length c, .slice A2 wg.length c2], v2, .int .i64 (0)]) ?_ rfl ⟨v2, by rw [HE2.out], by rw [HL.out]; exact own_far (own_far HO.out HB4.out (by decide) 0 _) (HB4.out.set 0 _) (by decide) 1 _, HU5.out⟩
   clear hq1 hf1; simp [results, Tryd.results60, go_sem, hq5]
 ·have hd : (roadE st wg != 0) = true := by simp [he]
  have HE2 : Aside0 (ohE st wg = roadE st wg) := ⟨by simp [ohE, he]⟩
  have HL : Aside0 (ohL st wg = []) := ⟨by simp [ohL, ohE, he]⟩
  have HB4 := HB3; have HU4 := HU2
  clear he hbe; go_wp2_with fail
  have HB5 := Aside0.mk ((HB4.out.set 0 (.slice A st.length c)).set 1 (.slice A2 wg.length c2))
  have HU5 := Aside0.mk ((HU4.out.set ⟨w.heap.size + 1, 0, none⟩ (.slice A st.length c) (by simp)).set ⟨w.heap.size + 1, 1, none⟩ (.slice A2 wg.length c2) (by simp))
  have hq5 := HB5.out.cell
  refine bodyPost_ret (v := .tuple #[.agg #[.slice A st.length c, .slice A2 wg.length c2], .slice none 0 0, .int .i64 (roadE st wg)]) ?_ rfl ⟨.slice none 0 0, by rw [HE2.out], by rw [HL.out]; exact ⟨rfl, .inl ⟨rfl, rfl⟩⟩, HU5.out⟩
  clear hq1 hf1; simp [results, Tryd.results60, go_sem, hq5]
end Go.Proofs.YtemingmeidmjkaaDoor.Q
namespace Go.Proofs.YtemingmeidmjkaaDoor.Q
open Go.RowKit Go.Shelf Go.Proofs.YtemingmeidmjkaaDoorW.PrintWords Go.Proofs.YtemingmeidmjkaaDoorW.PrintLast
set_option linter.unusedVariables false
set_option linter.unusedSimpArgs false
theorem span_ (s : Sp) (w : World) : Calls Tryd.prog 61 #[.agg #[.int .i64 s.lo, .int .i64 s.hi]] w fun e w' => e = .returned (.agg #[.int .i64 s.lo, .int .i64 s.hi]) ∧ Up w w' := by
 go_enter Tryd.func61, Tryd.ntmps61
 go_wp2_with fail
 refine bodyPost_ret (v := .agg #[.int .i64 s.lo, .int .i64 s.hi]) ?_ rfl ⟨rfl, ?_⟩
 ·simp [results, Tryd.results61, go_sem]
 ·exact upA
theorem own_grown {W w1 : World} {b1 e1 s1 n1 b e s n : Nat} {u v : Value} {ys xs : List Value} (h : W.ownsRow b1 e1 s1 u n1 ys) (ho : W.ownsRow b e s v n xs) (ht : e1 ≠ e) (hg : W.grownBy w1 v.ownBlock) : w1.ownsRow b1 e1 s1 u n1 ys := by
 refine h.kept hg ?_
 rcases h.2 with ⟨rfl, _⟩ | ⟨g, cap, cur, rfl, _, hg2, _⟩
 ·exact .inl rfl
 ·refine .inr fun e' => ?_
  rcases ho.2 with ⟨rfl, _⟩ | ⟨g', cap', cur', rfl, _, hg3, _⟩
  ·simp [Value.ownBlock] at e'
  ·have : g = g' := by simpa [Value.ownBlock] using e'
   subst this
   rw [hg2] at hg3
   injection hg3 with hg3
   injection hg3 with _ h2
   exact ht h2
theorem own_C2 {w : World} {base e c : Nat} {A : Option Addr} {xs : List Sp} (h : w.ownsRow base e 2 (.slice A xs.length c) xs.length (cellsS xs)) (hm : xs.length ≤ 9223372036854775807) : Kd.C kSp w A xs.length xs := by
 obtain ⟨A', c', hv, _, hC⟩ := own_C_Sp h hm
 cases hv
 exact hC
theorem own_cell2 {w : World} {base e c g : Nat} {xs : List Sp} (h : w.ownsRow base e 2 (.slice (some ⟨g, 0, none⟩) xs.length c) xs.length (cellsS xs)) (i : Nat) (hi : i < xs.length) : (w.cell? ⟨g, i * 2, none⟩ = some (.int .i64 (rdS xs i).lo) ∧ w.cell? ⟨g, i * 2 + 1, none⟩ = some (.int .i64 (rdS xs i).hi)) ∧ g < w.heap.size ∧ ∀ o, w.frozen? ⟨g, o, none⟩ = false := by
 obtain ⟨g', cap, hv, _, _, hs⟩ := Sps.ofOwn h (by omega)
 cases hv
 have := hs.cell i hi
 rw [show 2 * i = i * 2 by omega] at this
 exact ⟨this, hs.lt, hs.frozen⟩
set_option maxRecDepth 100000 in
set_option maxHeartbeats 1000000 in
theorem weights_ (A : Option Addr) (c : Nat) (st : List Sp) (A2 : Option Addr) (c2 : Nat) (wg : List Wg) (w : World) (hG : GL w) (hr : Kd.C kSp w A st.length st) (hc : st.length ≤ c) (hr2 : Kd.C kWg w A2 wg.length wg) (hc2 : wg.length ≤ c2) :
  Calls Tryd.prog 20 #[.agg #[.slice A st.length c, .slice A2 wg.length c2]] w fun e w' => ∃ v, e = .returned (.tuple #[v, .int .i64 (ohE st wg)]) ∧ w'.ownsRow w.heap.size 41 2 v (ohL st wg).length (cellsS (ohL st wg)) ∧ Up w w' := by
 have HR := Aside0.mk hr
 have HR2 := Aside0.mk hr2
 have HGL := Aside0.mk hG
 have hlen : (ohL st wg).length ≤ 10 := by
  unfold ohL
  split
  ·rename_i h
   have h0 : roadE st wg = 0 := by
    unfold ohE at h
    by_cases h1 : roadE st wg = 0
    ·exact h1
    ·rw [if_neg h1] at h; exact absurd h h1
   have := (road_ok h0).2.2.1
   rw [honL_len]
   omega
  ·simp
 clear hr hr2 hG; have HU0 : Aside0 (Up w (w.alloc (.cells #[.slice A st.length c, .slice A2 wg.length c2] 25))) := ⟨upA⟩
 have hcall := openHonest_ A c st A2 c2 wg (w.alloc (.cells #[.slice A st.length c, .slice A2 wg.length c2] 25)) (HGL.out.up HU0.out) (C_up HR.out HU0.out) hc (C_up HR2.out HU0.out) hc2
 go_enter Tryd.func20, Tryd.ntmps20
 go_wp2_with fail
 generalize (w.alloc (.cells #[.slice A st.length c, .slice A2 wg.length c2] 25)) = W0 at *
 refine hcall.mono ?_
 clear hcall; rintro e w1 ⟨v1, rfl, hown, hb⟩
 obtain ⟨A5, c5, rfl, hc5, _⟩ := own_C_Sp hown (by omega)
 have HU1 := Aside0.mk (HU0.out.then hb)
 have HC5 := Aside0.mk (own_mono hown HU0.out.le)
 clear hown hb; obtain ⟨i0, hi, hz0, hz1, hz2⟩ := info_parts info_span
 obtain ⟨L, hL⟩ : ∃ L, L = ohL st wg := ⟨_, rfl⟩
 rw [← hL] at hlen hc5 HC5
 have HL := Aside0.mk hL
 rw [← hL]
 clear hL; go_wp2_with fail
 go_loopw [2, 16] (fun v2 i wr => ∃ k : Nat, k ≤ L.length ∧ i = .int .i64 k ∧ Aside0 (wr.ownsRow w.heap.size 41 2 v2 k (cellsS (L.take k))) ∧ Aside0 (wr.ownsRow w.heap.size 100 2 (.slice A5 L.length c5) L.length (cellsS L)) ∧ Aside0 (Up w wr)) (fun _ i _ => L.length - (intOf i).toNat)
 case atStart => exact ⟨0, Nat.zero_le _, rfl, ⟨⟨by simp [cellsS], .inl ⟨rfl, rfl⟩⟩⟩, ⟨own_up HC5.out upA⟩, ⟨HU1.out.then upA⟩⟩
 case round =>
  obtain ⟨k, hk, rfl, hO, hL5, hU⟩ := hrel
  by_cases hlt : k < L.length
  ·obtain ⟨ad, e, hx0, hx1⟩ := at_Sp (own_C2 hL5.out (by omega)) k (by omega) (by omega)
   cases e
   simp only [Int.toNat_natCast] at hx0 hx1
   have hi0 : (0 : Int) ≤ (k : Int) := by omega
   have hi1 : (k : Int) < (L.length : Int) := by omega
   have hu := Tryd.underlying100
   go_wp2_with fail
   refine (span_ (rdS L k) _).mono ?_
   rintro e w2 ⟨rfl, hb⟩
   have HU2 := Aside0.mk (((Up.refl wr).alloc (.cells #[.int .i64 (rdS L k).lo, .int .i64 (rdS L k).hi] 100)).then hb)
   have HO2 := Aside0.mk (own_up hO.out HU2.out)
   clear hb hx0 hx1; have HRC : Aside0 (0 < 1 → ∃ ad', some (⟨w2.heap.size, 0, none⟩ : Addr) = some ad' ∧ ∀ j u, ([.int .i64 (rdS L k).lo, .int .i64 (rdS L k).hi] : List Value)[j]? = some u → (w2.alloc (.cells #[.int .i64 (rdS L k).lo, .int .i64 (rdS L k).hi] 41)).cell? (ad'.add j) = some u) := ⟨fun _ => ⟨_, rfl, fun j u hu => by
    match j, hu with
    | 0, hu => simp at hu; subst hu; simp [go_sem]
    | 1, hu => simp at hu; subst hu; simp [go_sem]⟩⟩
   have HTK : Aside0 (cellsS (L.take (k + 1)) = cellsS (L.take k) ++ [.int .i64 (rdS L k).lo, .int .i64 (rdS L k).hi]) := ⟨by rw [List.take_succ_eq_append_getElem hlt, cellsS_append, rdS_nat L k hlt]; rfl⟩
   have hwz : w.heap.size ≤ w2.heap.size := Nat.le_trans hU.out.le HU2.out.le
   go_wp2_with (at_builtin; refine append_all w.heap.size rfl _ _ 22 41 (.agg #[.int .i64 0, .int .i64 0]) 2 16 rfl Tryd.underlying22 info_span rfl (by decide) (by decide) _ k (cellsS (L.take k)) [.int .i64 (rdS L k).lo, .int .i64 (rdS L k).hi] (some ⟨w2.heap.size, 0, none⟩) 1 1 rfl rfl (own_up HO2.out ((Up.refl _).alloc _)) rfl HRC.out ?qc3 ?qc4 ?qc5 ?_)
   case qc3 => intro u hu; simp at hu; rcases hu with rfl | rfl <;> rfl
   case qc4 => simp; omega
   case qc5 => omega
   intro v3 w3 hown hgrow
   have HU3 := Aside0.mk ((Up.alloc (hU.out.then HU2.out) (.cells #[.int .i64 (rdS L k).lo, .int .i64 (rdS L k).hi] 41)).grown (own_up HO2.out ((Up.refl _).alloc _)) (Nat.le_refl _) hgrow)
   have HL3 := Aside0.mk (own_grown (own_up (own_up hL5.out HU2.out) ((Up.refl _).alloc _)) (own_up HO2.out ((Up.refl _).alloc _)) (by decide) hgrow)
   have HO3 := Aside0.mk hown
   clear hown hgrow; go_wp2_with fail
   go_roundw
   case rel => exact ⟨k + 1, by omega, by go_num, ⟨by rw [HTK.out]; exact HO3.out⟩, HL3, HU3⟩
   case measure => simp [intOf]; omega
  ·obtain rfl : k = L.length := by omega
   go_wp2_with fail
   go_ret2
   have h9 := hO.out
   rw [List.take_length, HL.out] at h9
   exact ⟨_, by simp, h9, hU.out⟩
end Go.Proofs.YtemingmeidmjkaaDoor.Q
namespace Go.Proofs.YtemingmeidmjkaaDoor.Q
open Go.RowKit Go.Shelf Go.Proofs.YtemingmeidmjkaaDoorW.PrintWords Go.Proofs.YtemingmeidmjkaaDoorW.PrintLast
set_option linter.unusedVariables false
set_option linter.unusedSimpArgs false
def bitB (set i : Int) : Bool := decide (Go.bits .and .i64 (shr .i64 set i) 1 = 1)
def cellsW (l : List Wg) : List Value := l.flatMap fun x => [.int .i64 x.p, .int .i64 x.r, .int .i64 x.o]
def keepN (wg : List Wg) (set : Int) (k : Nat) : List Wg := ((List.range k).filter fun (i : Nat) => !bitB set i).map fun (i : Nat) => rdWg wg i
def dropN (set : Int) (k : Nat) : List Int := ((List.range k).filter fun (i : Nat) => bitB set i).map Int.ofNat
theorem keepN_succ (wg : List Wg) (set : Int) (k : Nat) : keepN wg set (k + 1) = keepN wg set k ++ (if bitB set k then [] else [rdWg wg k]) := by
 unfold keepN
 rw [List.range_succ, List.filter_append, List.map_append]
 congr 1
 by_cases h : bitB set k = true <;> simp [h]
theorem dropN_succ (set : Int) (k : Nat) : dropN set (k + 1) = dropN set k ++ (if bitB set k then [(k : Int)] else []) := by
 unfold dropN
 rw [List.range_succ, List.filter_append, List.map_append]
 congr 1
 by_cases h : bitB set k = true <;> simp [h]
theorem keepN_len (wg : List Wg) (set : Int) (k : Nat) : (keepN wg set k).length ≤ k := by
 unfold keepN
 rw [List.length_map]
 exact Nat.le_trans (List.length_filter_le _ _) (by simp)
theorem dropN_len (set : Int) (k : Nat) : (dropN set k).length ≤ k := by
 unfold dropN
 rw [List.length_map]
 exact Nat.le_trans (List.length_filter_le _ _) (by simp)
theorem info_wg : (Tryd.prog.info? 80).map (fun i => (i.zero, i.size, i.bytes)) = some (some (.agg #[.int .i64 0, .int .i64 0, .int .i64 0]), 3, 24) := by kernel_rfl
theorem cellsW_append (l m : List Wg) : cellsW (l ++ m) = cellsW l ++ cellsW m := by simp [cellsW]
set_option maxRecDepth 100000 in
set_option maxHeartbeats 1000000 in
theorem without_ (A : Option Addr) (n c : Nat) (A2 : Option Addr) (c2 : Nat) (wg : List Wg) (set : Int) (w : World) (hr2 : Kd.C kWg w A2 wg.length wg) (hc2 : wg.length ≤ c2) (hl : wg.length ≤ 63) :
  Calls Tryd.prog 77 #[.agg #[.slice A n c, .slice A2 wg.length c2], .int .i64 set] w fun e w' => ∃ A1 c1 v2, e = .returned (.tuple #[.agg #[.slice A n c, .slice A1 (keepN wg set wg.length).length c1], v2]) ∧ w'.ownsRow w.heap.size 80 3 (.slice A1 (keepN wg set wg.length).length c1) (keepN wg set wg.length).length (cellsW (keepN wg set wg.length)) ∧ w'.ownsRow w.heap.size 3 1 v2 (dropN set wg.length).length (nums .i64 (dropN set wg.length)) ∧ (dropN set wg.length = [] → v2 = .slice none 0 0) ∧ Up w w' := by
 have HR2 := Aside0.mk hr2
 clear hr2; have HB2 : Aside0 (Bx ((w.alloc (.cells #[.slice A n c, .slice A2 wg.length c2] 95)).alloc (.cells #[.slice A n c, .slice none 0 0] 95)) w.heap.size #[.slice A n c, .slice A2 wg.length c2] 95) := ⟨(Bx.new w _ _).up upA⟩
 have HB4 : Aside0 (Bx ((w.alloc (.cells #[.slice A n c, .slice A2 wg.length c2] 95)).alloc (.cells #[.slice A n c, .slice none 0 0] 95)) (w.heap.size + 1) #[.slice A n c, .slice none 0 0] 95) := ⟨by have h9 := Bx.new (w.alloc (.cells #[.slice A n c, .slice A2 wg.length c2] 95)) #[.slice A n c, .slice none 0 0] 95; simpa using h9⟩
 have HU0 : Aside0 (Up w ((w.alloc (.cells #[.slice A n c, .slice A2 wg.length c2] 95)).alloc (.cells #[.slice A n c, .slice none 0 0] 95))) := ⟨upA⟩
 obtain ⟨i0, hi, hz0, hz1, hz2⟩ := info_parts info_int
 obtain ⟨i1, hj, hy0, hy1, hy2⟩ := info_parts info_wg
 go_enter Tryd.func77, Tryd.ntmps77
 go_wp2_with fail
 go_loopw [5, 17] (fun v5 i wr => ∃ (k : Nat) (A1 : Option Addr) (c1 : Nat), k ≤ wg.length ∧ i = .int .i64 (k : Int) ∧ Aside0 (wr.ownsRow w.heap.size 3 1 v5 (dropN set k).length (nums .i64 (dropN set k))) ∧ Aside0 (dropN set k = [] → v5 = .slice none 0 0) ∧ Aside0 (wr.ownsRow w.heap.size 80 3 (.slice A1 (keepN wg set k).length c1) (keepN wg set k).length (cellsW (keepN wg set k))) ∧ Aside0 (Bx wr (w.heap.size + 1) #[.slice A n c, .slice A1 (keepN wg set k).length c1] 95) ∧ Aside0 (Up w wr)) (fun _ i _ => wg.length - (intOf i).toNat)
 case atStart => exact ⟨0, none, 0, Nat.zero_le _, rfl, ⟨⟨by simp [dropN, nums], .inl ⟨rfl, rfl⟩⟩⟩, ⟨fun _ => rfl⟩, ⟨⟨by simp [keepN, cellsW], .inl ⟨rfl, rfl⟩⟩⟩, HB4, HU0⟩
 case round =>
  clear HB2 HB4 HU0; obtain ⟨k, A1, c1, hk, rfl, hO, hE, hW, hB, hU⟩ := hrel
  by_cases hlt : k < wg.length
  ·obtain ⟨ad, e, hx0, hx1, hx2⟩ := at_Wg (C_up HR2.out hU.out) k (by omega) (by omega)
   cases e
   simp only [Int.toNat_natCast] at hx0 hx1 hx2
   have hk0 : (0 : Int) ≤ (k : Int) := by omega
   have hk1 : (k : Int) < (wg.length : Int) := by omega
   have hwk : IntKind.i64.wrap ((k : Int) + 1) = (k : Int) + 1 := IntWalk.i64_in _ (by omega)
   have hqb := hB.out.cell; have hfb := hB.out.frozen
   have hmin : min k IntKind.i64.bits = k := by show min k 64 = k; omega
   cases hbit : bitB set k
   ·have hbt : (Go.bits .and .i64 (set / 2 ^ k) 1 == 1) = false := by simpa [bitB, shr, hmin] using hbit
    have hqc : ∀ (C : Obj) o, (wr.alloc C).cell? ⟨w.heap.size + 1, o, none⟩ = (#[.slice A n c, .slice A1 (keepN wg set k).length c1] : Array Value)[o]? := fun C o => (hB.out.up ((Up.refl wr).alloc C)).cell o
    have HKW : Aside0 (keepN wg set (k + 1) = keepN wg set k ++ [rdWg wg k]) := ⟨by rw [keepN_succ, hbit]; simp⟩
    have HKD : Aside0 (dropN set (k + 1) = dropN set k) := ⟨by rw [dropN_succ, hbit]; simp⟩
    have hkl := keepN_len wg set k
    clear hbit hmin; obtain ⟨x, hx⟩ : ∃ x, x = rdWg wg k := ⟨_, rfl⟩
    rw [← hx] at hx0 hx1 hx2 HKW
    clear hx; have HUA : Aside0 (Up wr ((wr.alloc (.cells #[.int .i64 x.p, .int .i64 x.r, .int .i64 x.o] 80)).alloc (.cells #[.int .i64 x.p, .int .i64 x.r, .int .i64 x.o] 80))) := ⟨upA⟩
    have HOA := Aside0.mk (own_up hW.out HUA.out)
    have HOD := Aside0.mk (own_up hO.out HUA.out)
    have HBA := Aside0.mk (hB.out.up HUA.out)
    have HRC : Aside0 (0 < 1 → ∃ ad', some (⟨wr.heap.size + 1, 0, none⟩ : Addr) = some ad' ∧ ∀ j u, ([.int .i64 x.p, .int .i64 x.r, .int .i64 x.o] : List Value)[j]? = some u → ((wr.alloc (.cells #[.int .i64 x.p, .int .i64 x.r, .int .i64 x.o] 80)).alloc (.cells #[.int .i64 x.p, .int .i64 x.r, .int .i64 x.o] 80)).cell? (ad'.add j) = some u) := ⟨fun _ => ⟨_, rfl, fun j u hu => by
     match j, hu with
     | 0, hu => simp at hu; subst hu; simp [go_sem]
     | 1, hu => simp at hu; subst hu; simp [go_sem]
     | 2, hu => simp at hu; subst hu; simp [go_sem]⟩⟩
    go_wp2_with (at_builtin; refine append_all w.heap.size rfl _ _ 23 80 (.agg #[.int .i64 0, .int .i64 0, .int .i64 0]) 3 24 rfl Tryd.underlying23 info_wg rfl (by decide) (by decide) _ (keepN wg set k).length (cellsW (keepN wg set k)) [.int .i64 x.p, .int .i64 x.r, .int .i64 x.o] (some ⟨wr.heap.size + 1, 0, none⟩) 1 1 rfl rfl HOA.out rfl HRC.out ?qa3 ?qa4 ?qa5 ?_)
    case qa3 => intro u hu; simp at hu; rcases hu with rfl | rfl | rfl <;> rfl
    case qa4 => exact (hU.out.then HUA.out).le
    case qa5 => omega
    intro v3 w3 hown hgrow
    have HU3 := Aside0.mk ((hU.out.then HUA.out).grown HOA.out (Nat.le_refl _) hgrow)
    have HB3 := Aside0.mk (HBA.out.grown HOA.out (by decide) hgrow)
    have HD3 := Aside0.mk (own_grown HOD.out HOA.out (by decide) hgrow)
    have HO3 := Aside0.mk hown
    obtain ⟨A4, c4, rfl, _, _⟩ := ownF_slice hown
    clear hown hgrow hqb hfb; have hqb := HB3.out.cell
    have hfb := HB3.out.frozen
    go_wp2_with fail
    go_roundw
    case rel =>
     refine ⟨k + 1, A4, c4, by omega, by go_num, ⟨by rw [HKD.out]; exact own_far HD3.out HB3.out (by decide) 1 _⟩, ⟨by rw [HKD.out]; exact hE.out⟩, ⟨?_⟩, ⟨?_⟩, ⟨HU3.out.set _ _ (by simp)⟩⟩
     ·rw [HKW.out, cellsW_append, List.length_append]
      exact own_far HO3.out HB3.out (by decide) 1 _
     ·rw [HKW.out, List.length_append]
      exact HB3.out.set 1 _
    case measure => simp [intOf]; omega
   ·have hbt : (Go.bits .and .i64 (set / 2 ^ k) 1 == 1) = true := by simpa [bitB, shr, hmin] using hbit
    have HKW : Aside0 (keepN wg set (k + 1) = keepN wg set k) := ⟨by rw [keepN_succ, hbit]; simp⟩
    have HKD : Aside0 (dropN set (k + 1) = dropN set k ++ [(k : Int)]) := ⟨by rw [dropN_succ, hbit]; simp⟩
    have hkl := dropN_len set k
    clear hbit hmin; obtain ⟨x, hx⟩ : ∃ x, x = rdWg wg k := ⟨_, rfl⟩
    rw [← hx] at hx0 hx1 hx2
    clear hx; have HUA : Aside0 (Up wr ((wr.alloc (.cells #[.int .i64 x.p, .int .i64 x.r, .int .i64 x.o] 80)).alloc (.cells #[.int .i64 (k : Int)] 3))) := ⟨upA⟩
    have HOA := Aside0.mk (own_up hO.out HUA.out)
    have HOW := Aside0.mk (own_up hW.out HUA.out)
    have HBA := Aside0.mk (hB.out.up HUA.out)
    have HRC : Aside0 (0 < 1 → ∃ ad', some (⟨wr.heap.size + 1, 0, none⟩ : Addr) = some ad' ∧ ∀ j u, ([.int .i64 (k : Int)] : List Value)[j]? = some u → ((wr.alloc (.cells #[.int .i64 x.p, .int .i64 x.r, .int .i64 x.o] 80)).alloc (.cells #[.int .i64 (k : Int)] 3)).cell? (ad'.add j) = some u) := ⟨fun _ => ⟨_, rfl, fun j u hu => by
     match j, hu with
     | 0, hu => simp at hu; subst hu; simp [go_sem]⟩⟩
    go_wp2_with (at_builtin; refine append_all w.heap.size rfl _ _ 45 3 (.int .i64 0) 1 8 rfl Tryd.underlying45 info_int rfl (by decide) (by decide) _ (dropN set k).length (nums .i64 (dropN set k)) [.int .i64 (k : Int)] (some ⟨wr.heap.size + 1, 0, none⟩) 1 1 rfl rfl HOA.out rfl HRC.out ?qb3 ?qb4 ?qb5 ?_)
    case qb3 => intro u hu; simp at hu; subst hu; rfl
    case qb4 => exact (hU.out.then HUA.out).le
    case qb5 => omega
    intro v3 w3 hown hgrow
    have HU3 := Aside0.mk ((hU.out.then HUA.out).grown HOA.out (Nat.le_refl _) hgrow)
    have HB3 := Aside0.mk (HBA.out.grown HOA.out (by decide) hgrow)
    have HW3 := Aside0.mk (own_grown HOW.out HOA.out (by decide) hgrow)
    have HO3 := Aside0.mk hown
    clear hown hgrow hqb hfb; go_wp2_with fail
    go_roundw
    case rel =>
     refine ⟨k + 1, A1, c1, by omega, by go_num, ⟨?_⟩, ⟨by rw [HKD.out]; intro h; simp at h⟩, ⟨by rw [HKW.out]; exact HW3.out⟩, ⟨by rw [HKW.out]; exact HB3.out⟩, HU3⟩
     rw [HKD.out, List.length_append]
     have h9 := HO3.out
     simpa [nums] using h9
    case measure => simp [intOf]; omega
  ·obtain rfl : k = wg.length := by omega
   have hqb := hB.out.cell; have hfb := hB.out.frozen
   go_wp2_with fail
   have HU4 := Aside0.mk ((hU.out.set ⟨w.heap.size + 1, 0, none⟩ (.slice A n c) (by simp)).set ⟨w.heap.size + 1, 1, none⟩ (.slice A1 (keepN wg set wg.length).length c1) (by simp))
   have HB4 := Aside0.mk ((hB.out.set 0 (.slice A n c)).set 1 (.slice A1 (keepN wg set wg.length).length c1))
   have HW4 := Aside0.mk (own_far (own_far hW.out hB.out (by decide) 0 (.slice A n c)) (hB.out.set 0 (.slice A n c)) (by decide) 1 (.slice A1 (keepN wg set wg.length).length c1))
   have HD4 := Aside0.mk (own_far (own_far hO.out hB.out (by decide) 0 (.slice A n c)) (hB.out.set 0 (.slice A n c)) (by decide) 1 (.slice A1 (keepN wg set wg.length).length c1))
   have hq5 := HB4.out.cell
   refine bodyPost_ret (v := .tuple #[.agg #[.slice A n c, .slice A1 (keepN wg set wg.length).length c1], u5]) ?_ rfl ⟨A1, c1, u5, rfl, HW4.out, HD4.out, hE.out, HU4.out⟩
   clear hqb hfb; simp [results, Tryd.results77, go_sem, hq5]
end Go.Proofs.YtemingmeidmjkaaDoor.Q
namespace Go.Proofs.YtemingmeidmjkaaDoor.Q
open Go.RowKit Go.Shelf Go.Proofs.YtemingmeidmjkaaDoorW.PrintWords Go.Proofs.YtemingmeidmjkaaDoorW.PrintLast
set_option linter.unusedVariables false
set_option linter.unusedSimpArgs false
def hasB (x : Int) (l : List Int) : Bool := l.any fun y => decide (x = y)
set_option maxRecDepth 100000 in
theorem idx_ (x : Int) (A : Option Addr) (c : Nat) (l : List Int) (w : World) (hr : Kd.C (Kd.int .i64) w A l.length l) (hc : l.length ≤ c) :
  Calls Tryd.prog 109 #[.slice A l.length c, .int .i64 x] w fun e w' => e = .returned (.int .i64 (idxF (fun y => decide (x = y)) l 0)) ∧ Up w w' := by
 have HR := Aside0.mk hr
 have hm := CF_len hr
 clear hr; go_enter Tryd.func109, Tryd.ntmps109
 go_wp2
 go_loopw [8] (fun i wr => ∃ k : Nat, k ≤ l.length ∧ i = .int .i64 k ∧ Aside0 (idxF (fun y => decide (x = y)) l 0 = idxF (fun y => decide (x = y)) (l.drop k) k) ∧ Aside0 (Up w wr)) (fun i _ => l.length - (intOf i).toNat)
 case atStart => exact ⟨0, Nat.zero_le _, rfl, ⟨rfl⟩, ⟨Up.refl _⟩⟩
 case round =>
  obtain ⟨k, hk, rfl, he, hb⟩ := hrel
  by_cases hlt : k < l.length
  ·obtain ⟨ad, e, hx0⟩ := Kd.at_int (C_up HR.out hb.out) k (by omega) (by omega)
   cases e
   simp only [Int.toNat_natCast] at hx0
   have hi1 : (k : Int) < (l.length : Int) := by omega
   have hwk : IntKind.i64.wrap ((k : Int) + 1) = (k : Int) + 1 := IntWalk.i64_in _ (by omega)
   have he2 := idx_int_drop (fun y => decide (x = y)) l k hlt
   have he3 := Aside0.mk (he.out.trans he2)
   clear he he2
   by_cases hp : x = rd l k
   ·have he4 : Aside0 (idxF (fun y => decide (x = y)) l 0 = (k : Int)) := ⟨by rw [he3.out]; simp [hp]⟩
    have hpb : (x == rd l k) = true := by simp [hp]
    clear hp; go_wp2_with fail
    go_ret
    exact ⟨by rw [he4.out]; rfl, hb.out⟩
   ·have he4 : Aside0 (idxF (fun y => decide (x = y)) l 0 = idxF (fun y => decide (x = y)) (l.drop (k + 1)) (k + 1)) := ⟨by rw [he3.out]; simp [hp]⟩
    have hpb : (x == rd l k) = false := by simp [hp]
    clear hp; go_wp2_with fail
    go_roundw
    case rel => exact ⟨k + 1, by omega, by go_num, ⟨he4.out⟩, hb⟩
    case measure => simp [intOf]; omega
  ·go_wp2_with fail
   go_ret
   exact ⟨by rw [he.out, List.drop_eq_nil_of_le (by omega)]; rfl, hb.out⟩
theorem has_ (x : Int) (A : Option Addr) (c : Nat) (l : List Int) (w : World) (hr : Kd.C (Kd.int .i64) w A l.length l) (hc : l.length ≤ c) :
  Calls Tryd.prog 88 #[.slice A l.length c, .int .i64 x] w fun e w' => e = .returned (.bool (hasB x l)) ∧ Up w w' := by
 have hcall := idx_ x A c l w hr hc
 clear hr; have HD : Aside0 (decide (0 ≤ idxF (fun y => decide (x = y)) l 0) = hasB x l) := ⟨idxF_any _ l⟩
 go_enter Tryd.func88, Tryd.ntmps88
 go_wp2_with fail
 refine hcall.mono ?_
 clear hcall; rintro e w' ⟨rfl, hb'⟩
 have hb2 := Aside0.mk hb'
 clear hb'; go_wp2
 go_ret
 exact ⟨ret_bool HD.out, hb2.out⟩
theorem com2_ (s : Int) (b : Nat) (A : Option Addr) (c : Nat) (l : List Int) (w : World) (hb : Bx w b #[.slice A l.length c] 45) (hr : Kd.C (Kd.int .i64) w A l.length l) (hc : l.length ≤ c) :
  Calls Tryd.prog 87 #[.int .i64 s, .pointer (some ⟨b, 0, none⟩)] w fun e w' => e = .returned (.bool (!hasB s l)) ∧ Up w w' := by
 have hcall := has_ s A c l w hr hc
 have hq := hb.cell
 clear hr hb; go_enter Tryd.func87, Tryd.ntmps87
 go_wp2_with fail
 refine hcall.mono ?_
 clear hcall; rintro e w' ⟨rfl, hb'⟩
 have hb2 := Aside0.mk hb'
 clear hb' hq; go_wp2
 go_ret
 exact ⟨rfl, hb2.out⟩
theorem up_grown {w w' : World} (h : Up w w') (row : Option Nat) : w.grownBy w' row := ⟨h.os, h.tape, h.output, h.size, fun k hk _ => h.block k hk⟩
theorem grown_set {w : World} (g o : Nat) (u : Value) : w.grownBy (w.setCell ⟨g, o, none⟩ u) (some g) := by
 have hb0 := Below.setCell (B := 0) (Below.refl 0 w) (p := ⟨g, o, none⟩) (Nat.zero_le _) u
 exact ⟨hb0.os, hb0.tape, hb0.output, hb0.size, fun k _ hk => Below.heap_setCell w ⟨g, o, none⟩ u k (fun e => hk (by rw [e]))⟩
theorem setCells_keeps (g i : Nat) (e : TypeId) (d : Nat × Nat) : ∀ (xs : List Value) (o : Nat) (w : World) (cur : Array Value), i ≤ o → w.heap[g]? = some (.cells cur e d) →
  ∃ cur', (w.setCells g o xs).heap[g]? = some (.cells cur' e d) ∧ cur'.size = cur.size ∧ cur'.toList.take i = cur.toList.take i ∧ w.grownBy (w.setCells g o xs) (some g)
 | [], o, w, cur, _, h => ⟨cur, h, rfl, rfl, rfl, rfl, rfl, Nat.le_refl _, fun _ _ _ => rfl⟩
 | x :: xs, o, w, cur, hi, h => by
  have h1 : (w.setCell ⟨g, o, none⟩ x).heap[g]? = some (.cells (cur.setIfInBounds o x) e d) := by
   unfold World.setCell
   dsimp only
   rw [Array.getElem?_modify, if_pos rfl, h]
   rfl
  obtain ⟨cur', h2, h3, h4, h5⟩ := setCells_keeps g i e d xs (o + 1) _ _ (by omega) h1
  refine ⟨cur', h2, by rw [h3]; simp, ?_, (grown_set g o x).trans h5⟩
  rw [h4]
  apply List.ext_getElem?
  intro j
  rw [List.getElem?_take, List.getElem?_take]
  by_cases hj : j < i
  ·rw [if_pos hj, if_pos hj, Array.getElem?_toList, Array.getElem?_toList, Array.getElem?_setIfInBounds_ne (by omega)]
  ·rw [if_neg hj, if_neg hj]
theorem own_clear {w : World} {base e n cap g : Nat} {m : List Int} (h : w.ownsRow base e 1 (.slice (some ⟨g, 0, none⟩) n cap) n (nums .i64 m)) (hn : n = m.length) (i : Nat) (hi : i ≤ n) (xs : List Value) :
  (w.setCells g i xs).ownsRow base e 1 (.slice (some ⟨g, 0, none⟩) i cap) i (nums .i64 (m.take i)) ∧ w.grownBy (w.setCells g i xs) (some g) := by
 rcases h.2 with ⟨h0, _⟩ | ⟨g', cap', cur, hv, hb, hg, hcap, hm, hsz, htk⟩
 ·cases h0
 ·cases hv
  obtain ⟨cur', h2, h3, h4, h5⟩ := setCells_keeps g i e (0, 0) xs i w cur (Nat.le_refl _) hg
  refine ⟨⟨by simp [nums]; omega, .inr ⟨g, cap, cur', rfl, hb, h2, by omega, hm, by rw [h3]; exact hsz, ?_⟩⟩, h5⟩
  rw [Nat.mul_one] at htk ⊢
  rw [h4]
  have e1 : cur.toList.take i = (cur.toList.take n).take i := by rw [List.take_take, Nat.min_eq_left hi]
  rw [e1, htk]
  simp [nums, List.map_take]
theorem own_lt {w : World} {base e s n : Nat} {v : Value} {xs : List Value} (h : w.ownsRow base e s v n xs) {k : Nat} (hk : v.ownBlock = some k) : base ≤ k ∧ k < w.heap.size := by
 rcases h.2 with ⟨rfl, _⟩ | ⟨g, cap, cur, rfl, hb, hg, _⟩
 ·simp [Value.ownBlock] at hk
 ·have : g = k := by simpa [Value.ownBlock] using hk
  subst this
  exact ⟨hb, (Array.getElem?_eq_some_iff.1 hg).1⟩
def dlI (p : Int → Bool) (l : List Int) (j : Nat) : List Int := (l.take j).filter fun x => !p x
theorem dlI_succ (p : Int → Bool) (l : List Int) (j : Nat) (h : j < l.length) : dlI p l (j + 1) = dlI p l j ++ (if p (rd l j) then [] else [rd l j]) := by
 have e : l[j] = rd l j := by simp [rd, h]
 unfold dlI
 rw [List.take_succ_eq_append_getElem h, List.filter_append, e]
 congr 1
 cases h1 : p (rd l j) <;> simp [h1]
theorem idxF_spec (p : Int → Bool) : ∀ (l : List Int) (k : Nat), (idxF p l k = -1 ∧ ∀ x ∈ l, p x = false) ∨ ∃ i : Nat, i < l.length ∧ idxF p l k = ((k + i : Nat) : Int) ∧ p (rd l i) = true ∧ ∀ j : Nat, j < i → p (rd l j) = false
 | [], k => .inl ⟨rfl, by simp⟩
 | x :: l, k => by
  cases h : p x
  ·rcases idxF_spec p l (k + 1) with ⟨h1, h2⟩ | ⟨i, h1, h2, h3, h4⟩
   ·exact .inl ⟨by rw [idxF, h]; simpa using h1, by simpa [h] using h2⟩
   ·refine .inr ⟨i + 1, by simp; omega, by rw [idxF, h]; simp only [Bool.false_eq_true, if_false]; rw [h2]; omega, by simpa [rd] using h3, fun j hj => ?_⟩
    match j with
    | 0 => simpa [rd] using h
    | j + 1 => have := h4 j (by omega); simpa [rd] using this
  ·exact .inr ⟨0, by simp, by rw [idxF, h]; simp, by simpa [rd] using h, fun j hj => by omega⟩
theorem zero_int (w : World) : (zeroValue 3).run Tryd.prog w = .ok (.int .i64 0) w := by kernel_rfl
theorem dl_keep {l m : List Int} {p : Int → Bool} {i j : Nat} (hm : m.length = l.length) (hi : i = (dlI p l j).length) (h1 : m.take i = dlI p l j) (h2 : m.drop j = l.drop j) (hij : i < j) (hj : j < l.length) :
  rd m j = rd l j ∧ (p (rd l j) = false → (m.set i (rd l j)).length = l.length ∧ i + 1 = (dlI p l (j + 1)).length ∧ (m.set i (rd l j)).take (i + 1) = dlI p l (j + 1) ∧ (m.set i (rd l j)).drop (j + 1) = l.drop (j + 1)) ∧
  (p (rd l j) = true → i = (dlI p l (j + 1)).length ∧ m.take i = dlI p l (j + 1) ∧ m.drop (j + 1) = l.drop (j + 1)) := by
 have hd : m.drop (j + 1) = l.drop (j + 1) := by
  have := congrArg (List.drop 1) h2
  rwa [List.drop_drop, List.drop_drop] at this
 refine ⟨?_, fun hp => ?_, fun hp => ?_⟩
 ·have := congrArg (fun z => z[0]?) h2
  simp only [List.getElem?_drop, Nat.add_zero] at this
  simp [rd, List.getD_eq_getElem?_getD, this]
 ·have hs := dlI_succ p l j hj
  rw [hp] at hs
  simp only [Bool.false_eq_true, if_false] at hs
  refine ⟨by simp [hm], by rw [hs, List.length_append]; simp; omega, ?_, ?_⟩
  ·rw [hs, ← h1]
   apply List.ext_getElem?
   intro t
   rw [List.getElem?_take, List.getElem?_append, List.length_take, List.getElem?_set]
   by_cases ht : t < i
   ·rw [if_pos (by omega), if_neg (by omega), if_pos (by omega), List.getElem?_take, if_pos ht]
   ·by_cases ht2 : t = i
    ·subst ht2
     rw [if_pos (by omega), if_pos rfl, if_pos (by omega), if_neg (by omega)]
     simp [show t - min t m.length = 0 by omega]
    ·rw [if_neg (by omega), if_neg (by omega), List.getElem?_eq_none]
     simp; omega
  ·rw [← hd]
   apply List.ext_getElem?
   intro t
   rw [List.getElem?_drop, List.getElem?_drop, List.getElem?_set_ne (by omega)]
 ·have hs := dlI_succ p l j hj
  rw [hp] at hs
  simp only [if_true, List.append_nil] at hs
  exact ⟨by rw [hs]; exact hi, by rw [hs]; exact h1, hd⟩
set_option maxRecDepth 100000 in
set_option maxHeartbeats 1000000 in
theorem delete_ (fv : FuncId) (cap : Array Value) (p : Int → Bool) (base : Nat) (v : Value) (l : List Int) (w : World) (ho : w.ownsRow base 3 1 v l.length (nums .i64 l)) (hm : l.length ≤ 1000)
  (hE : ∀ (args : Array Value) (w : World), (callFunc fv args).run Tryd.prog w = .ok (.enter fv args) w)
  (hf : ∀ x W, w.grownBy W v.ownBlock → Calls Tryd.prog fv (#[.int .i64 x] ++ cap) W fun e W' => e = .returned (.bool (p x)) ∧ Up W W') :
  Calls Tryd.prog 86 #[v, .func (.func fv) #[] cap] w fun e w' => ∃ v', e = .returned v' ∧ w'.ownsRow base 3 1 v' (l.filter fun x => !p x).length (nums .i64 (l.filter fun x => !p x)) ∧ w.grownBy w' v.ownBlock := by
 obtain ⟨A, c, rfl, hc, hC⟩ := own_C_int ho (by omega)
 have hi := index_int fv cap p A c l w hC hc hE (fun x W hu => hf x W (up_grown hu _))
 have HO := Aside0.mk ho
 have HF := Aside0.mk hf
 clear ho hf hC; go_enter Tryd.func86, Tryd.ntmps86
 go_wp2_with fail
 refine hi.mono ?_
 clear hi; rintro e w1 ⟨rfl, hu⟩
 have HU := Aside0.mk hu
 clear hu
 rcases idxF_spec p l 0 with ⟨h1, h2⟩ | ⟨k, h1, h2, h3, h4⟩
 ·rw [h1]
  have HL : Aside0 ((l.filter fun x => !p x) = l) := ⟨List.filter_eq_self.2 (fun x hx => by rw [h2 x hx]; rfl)⟩
  clear h1 h2; go_wp2_with fail
  go_ret
  exact ⟨_, rfl, by rw [HL.out]; exact own_up HO.out HU.out, up_grown HU.out _⟩
 ·rw [h2, Nat.zero_add]
  have HS : Aside0 (dlI p l (k + 1) = l.take k) := ⟨by
   rw [dlI_succ p l k h1, h3]
   simp only [if_true, List.append_nil]
   exact List.filter_eq_self.2 (fun x hx => by
    obtain ⟨i, hi1, hi2⟩ := List.getElem_of_mem hx
    simp only [List.length_take] at hi1
    rw [List.getElem_take] at hi2
    have := h4 i (by omega)
    have e1 : rd l i = x := by rw [← hi2]; simp [rd, show i < l.length by omega]
    rw [e1] at this
    rw [this]; rfl)⟩
  have hne : ((k : Int) == -1) = false := beq_eq_false_iff_ne.2 (by omega)
  obtain ⟨g, rfl⟩ : ∃ g, A = some ⟨g, 0, none⟩ := by
   obtain ⟨A0, c0, hv0, _, hg0⟩ := ownF_slice HO.out
   obtain ⟨g, cur, hg, _⟩ := hg0 (by omega)
   cases hv0
   exact ⟨g, hg⟩
  have hwk : IntKind.i64.wrap ((k : Int) + 1) = (k : Int) + 1 := IntWalk.i64_in _ (by omega)
  have HLK : Aside0 (k = (dlI p l (k + 1)).length) := ⟨by rw [HS.out]; simp; omega⟩
  clear h2 h3 h4; go_wp2_with fail
  go_loopw [5, 6] (fun v5 v6 wr => ∃ (i j : Nat) (m : List Int), v5 = .int .i64 (i : Int) ∧ v6 = .int .i64 (j : Int) ∧ i < j ∧ j ≤ l.length ∧ m.length = l.length ∧ Aside0 (wr.ownsRow base 3 1 (.slice (some ⟨g, 0, none⟩) l.length c) m.length (nums .i64 m)) ∧ Aside0 (i = (dlI p l j).length ∧ m.take i = dlI p l j ∧ m.drop j = l.drop j) ∧ Aside0 (w.grownBy wr (some g))) (fun _ v6 _ => l.length - (intOf v6).toNat)
  case atStart => exact ⟨k, k + 1, l, rfl, by go_num, by omega, by omega, rfl, ⟨own_up HO.out HU.out⟩, ⟨HLK.out, by rw [HS.out], rfl⟩, ⟨up_grown HU.out _⟩⟩
  case round =>
   clear hwk hne h1; obtain ⟨i, j, m, rfl, rfl, hij, hj, hml, hO, hI, hG⟩ := hrel
   by_cases hlt : j < l.length
   ·have hlt2 : (j : Int) < (l.length : Int) := by omega
    have hi2 : (i : Int) < (l.length : Int) := by omega
    have hwk : IntKind.i64.wrap ((j : Int) + 1) = (j : Int) + 1 := IntWalk.i64_in _ (by omega)
    have hwi : IntKind.i64.wrap ((i : Int) + 1) = (i : Int) + 1 := IntWalk.i64_in _ (by omega)
    have HK := Aside0.mk (dl_keep hml hI.out.1 hI.out.2.1 hI.out.2.2 hij hlt)
    rw [← hml] at hO
    obtain ⟨g1, c1, hv1, _, _, hcj, hfj, _, _⟩ := own_put hO.out j (by omega)
    cases hv1
    rw [HK.out.1] at hcj
    have hcl := HF.out (rd l j) wr hG.out
    clear hfj; go_wp2_with fail
    refine hcl.mono ?_
    clear hcl hcj; rintro e w3 ⟨rfl, hu⟩
    have HO3 := Aside0.mk (own_up hO.out hu)
    have HG3 := Aside0.mk (hG.out.trans (up_grown hu (some g)))
    clear hu
    cases hp : p (rd l j)
    ·obtain ⟨e1, e2, e3, e4⟩ := HK.out.2.1 hp
     obtain ⟨g1, c1, hv1, _, _, hcj, hfj, _, hset⟩ := own_put HO3.out i (by omega)
     cases hv1
     have HST := Aside0.mk (hset (rd l j))
     have HE1 := Aside0.mk e1
     have HE2 := Aside0.mk e2
     have HE3 := Aside0.mk e3
     have HE4 := Aside0.mk e4
     clear hset hp e1 e2 e3 e4; go_wp2_with fail
     go_roundw
     case rel => exact ⟨i + 1, j + 1, m.set i (rd l j), by go_num, by go_num, by omega, by omega, HE1.out, ⟨by have h9 := HST.out; rw [hml] at h9; exact h9⟩, ⟨HE2.out, HE3.out, HE4.out⟩, ⟨HG3.out.trans (grown_set g i _)⟩⟩
     case measure => simp [intOf]; omega
    ·have HE2 := Aside0.mk (HK.out.2.2 hp)
     clear hp; go_wp2_with fail
     go_roundw
     case rel => exact ⟨i, j + 1, m, rfl, by go_num, by omega, by omega, hml, ⟨by have h9 := HO3.out; rw [hml] at h9 ⊢; exact h9⟩, ⟨HE2.out⟩, HG3⟩
     case measure => simp [intOf]; omega
   ·obtain rfl : j = l.length := by omega
    have HFL : Aside0 ((l.filter fun x => !p x) = m.take i) := ⟨by rw [hI.out.2.1]; simp [dlI]⟩
    have HO2 : Aside0 (wr.ownsRow base 3 1 (.slice (some ⟨g, 0, none⟩) m.length c) m.length (nums .i64 m)) := ⟨by have h9 := hO.out; rw [hml] at h9 ⊢; exact h9⟩
    have hcf : ∀ t, t < l.length → (wr.cell? ⟨g, t, none⟩).isSome = true ∧ wr.frozen? ⟨g, t, none⟩ = false := fun t ht => by
     obtain ⟨g1, c1, hv1, _, _, h5, h6, _, _⟩ := own_put HO2.out t (by omega)
     cases hv1
     exact ⟨by rw [h5]; rfl, h6⟩
    have hcl : ∀ ty, (Builtin.clear_ #[45] ty #[.slice (some ⟨g, i, none⟩) (l.length - i) (c - i)]).run Tryd.prog wr = .ok (.tuple #[]) (wr.setCells g i (List.replicate (l.length - i) (.int .i64 0))) :=
     fun ty => Lib.run_clear_slice wr 45 3 ty _ Tryd.underlying45 zero_int rfl rfl g i _ _ (by omega) (fun t ht => (hcf (i + t) (by omega)).1) (fun t ht => (hcf (i + t) (by omega)).2)
    have HCL := Aside0.mk (own_clear HO2.out rfl i (by omega) (List.replicate (l.length - i) (.int .i64 0)))
    have hil : i ≤ l.length := by omega
    have hic : i ≤ c := by omega
    have hlen : (m.take i).length = i := by simp; omega
    have HLN := Aside0.mk hlen
    clear hcf hlen hO; go_wp2_with fail
    go_ret
    exact ⟨_, rfl, by rw [HFL.out, HLN.out]; exact HCL.out.1, hG.out.trans HCL.out.2⟩
end Go.Proofs.YtemingmeidmjkaaDoor.Q
namespace Go.Proofs.YtemingmeidmjkaaDoor.Q
open Go.RowKit Go.Shelf Go.Proofs.YtemingmeidmjkaaDoorW.PrintWords Go.Proofs.YtemingmeidmjkaaDoorW.PrintLast
open Go.WideElems (Fit rd rg pl rd_key rd_val rg_of)
set_option linter.unusedVariables false
set_option linter.unusedSimpArgs false
attribute [local go_sem] bi_max2 bi_min2 bi_max_two bi_min_two
def eS (s : Sp) : Value := .agg #[.int .i64 s.lo, .int .i64 s.hi]
def dS (s : Sp) : DataW Unit := .agg [.lit (.int .i64 s.lo), .lit (.int .i64 s.hi)]
theorem dS_inj {s t : Sp} (h : dS s = dS t) : s = t := by
 unfold dS at h
 simp only [DataW.agg.injEq, List.cons.injEq, DataW.lit.injEq, Lit.int.injEq, true_and, and_true] at h
 obtain ⟨a, b⟩ := s
 obtain ⟨c, d⟩ := t
 simp only at h
 rw [h.1, h.2]
def R_S (v : Value) : Option (DataW Unit × List MemPlace) :=
 match v with
 | .agg c =>
  match c.toList with
  | [.int .i64 a, .int .i64 b] => some (dS ⟨a, b⟩, [])
  | _ => none
 | _ => none
theorem R_S_e (s : Sp) : R_S (eS s) = some (dS s, []) := rfl
theorem R_S_inv (v : Value) (y : DataW Unit × List MemPlace) (h : R_S v = some y) : ∃ c : Sp, v = eS c := by
 unfold R_S at h
 split at h
 ·rename_i c
  split at h
  ·rename_i a b hc
   refine ⟨⟨a, b⟩, ?_⟩
   unfold eS
   congr 1
   apply Array.toList_inj.1
   rw [hc]
  ·cases h
 ·cases h
theorem kInt : Maps.Keyed Tryd.prog 3 := Maps.int_keyed Tryd.underlying3
theorem zero_some (w : World) : (zeroValue 100).run Tryd.prog w = .ok (.agg #[.int .i64 0, .int .i64 0]) w := by kernel_rfl
def wfI (x : Int) : Prop := (Lit.int .i64 x).wf = true
theorem wf_small {x : Int} (h : -9223372036854775808 ≤ x ∧ x ≤ 9223372036854775807) : wfI x := WalkArith.wf_i64 (by omega)
structure Mf (D : DataW Unit) (M : Int → Option Sp) : Prop where
 isMap : Maps.IsMap D
 has : ∀ x, wfI x → Maps.has D (.int .i64 x) = (M x).isSome
 at_ : ∀ x s, wfI x → M x = some s → ∀ zd, D.atKey (.int .i64 x) zd = dS s
theorem Mf.empty : Mf (.map []) (fun _ => none) := ⟨Maps.isMap_empty, fun _ _ => rfl, fun x s _ h => by cases h⟩
theorem key_int {x : Int} (h : wfI x) : WideAt.IsKeyLit (.int .i64 x) := kInt.key (Maps.keyOf_int_mk (P := Tryd.prog) Tryd.underlying3 h)
theorem int_ne {x y : Int} (h : x ≠ y) : (Lit.int .i64 x) ≠ .int .i64 y := by
 intro e
 cases e
 exact h rfl
def mo : Option Sp → Option Sp → Option Sp
 | none, p => p
 | some a, none => some a
 | some a, some b => some ⟨min a.lo b.lo, max a.hi b.hi⟩
theorem mo_none (o : Option Sp) : mo o none = o := by cases o <;> rfl
theorem mo_comm (o p : Option Sp) : mo o p = mo p o := by
 cases o <;> cases p <;> simp only [mo]
 rename_i a b
 rw [Int.min_comm, Int.max_comm]
theorem mo_assoc (o p q : Option Sp) : mo (mo o p) q = mo o (mo p q) := by
 cases o <;> cases p <;> cases q <;> simp only [mo]
 rename_i a b c
 rw [Int.min_assoc, Int.max_assoc]
def upd (M : Int → Option Sp) (x : Int) (s : Sp) : Int → Option Sp := fun y => if y = x then mo (M x) (some s) else M y
theorem Mf.put {D : DataW Unit} {M : Int → Option Sp} (h : Mf D M) {x : Int} (hx : wfI x) (s : Sp) (t : Sp) (ht : mo (M x) (some s) = some t) : Mf (D.put (.int .i64 x) (dS t)) (upd M x s) := by
 refine ⟨h.isMap.put _ _, fun y hy => ?_, fun y u hy hu zd => ?_⟩
 ·by_cases e : y = x
  ·subst e
   rw [Maps.has_put_same h.isMap (key_int hy)]
   simp [upd, ht]
  ·rw [Maps.has_put_other (int_ne e), h.has y hy]
   simp [upd, e]
 ·by_cases e : y = x
  ·subst e
   rw [Maps.atKey_put_same h.isMap (key_int hy)]
   simp only [upd, if_true, ht] at hu
   rw [Option.some.inj hu]
  ·rw [Maps.atKey_put_other (int_ne e)]
   simp only [upd, if_neg e] at hu
   exact h.at_ y u hy hu zd
theorem mlook_ {b n : Nat} {D : DataW Unit} {M : Int → Option Sp} {x : Int} {w : World} (hown : w.ownsMap Tryd.prog 3 R_S b n D) (hM : Mf D M) (hx : wfI x) :
  (Instr.lookup 111 (.map (some b)) (.int .i64 x) true).run Tryd.prog w = .ok (.tuple #[.agg #[.int .i64 ((M x).getD ⟨0, 0⟩).lo, .int .i64 ((M x).getD ⟨0, 0⟩).hi], .bool (M x).isSome]) w := by
 obtain ⟨v, ps, hrun, hv⟩ := hown.look_ok kInt Tryd.underlying111 (zero_some w) (R_S_e ⟨0, 0⟩) (Maps.keyOf_int_mk (P := Tryd.prog) Tryd.underlying3 hx)
 rw [hrun, hM.has x hx]
 obtain ⟨c, rfl⟩ := R_S_inv v _ hv
 have e : c = (M x).getD ⟨0, 0⟩ := by
  rw [R_S_e] at hv
  simp only [Option.some.injEq, Prod.mk.injEq] at hv
  cases hm : M x with
  | none =>
   have h1 := hM.has x hx
   rw [hm] at h1
   rw [Maps.atKey_of_not_has h1] at hv
   exact dS_inj hv.1
  | some t =>
   rw [hM.at_ x t hx hm] at hv
   exact dS_inj hv.1
 rw [e]
 rfl
set_option maxRecDepth 100000 in
theorem add_ (b n : Nat) (D : DataW Unit) (M : Int → Option Sp) (x : Int) (s : Sp) (w : World) (hown : w.ownsMap Tryd.prog 3 R_S b n D) (hM : Mf D M) (hn : n < 9223372036854775807) (hx : wfI x) :
  Calls Tryd.prog 69 #[.map (some b), .int .i64 x, .agg #[.int .i64 s.lo, .int .i64 s.hi]] w fun e w' => e = .returned (.tuple #[]) ∧ (∃ D', w'.ownsMap Tryd.prog 3 R_S b (n + 1) D' ∧ Mf D' (upd M x s)) ∧ w.grownBy w' (some b) := by
 have HM := Aside0.mk hM
 have HX := Aside0.mk hx
 have hn2 : n < maxLen := hn
 have hlk := mlook_ (hown.alloc (.cells #[.int .i64 s.lo, .int .i64 s.hi] 100)) hM hx
 have HB5 : Aside0 (Bx (w.alloc (.cells #[.int .i64 s.lo, .int .i64 s.hi] 100)) w.heap.size #[.int .i64 s.lo, .int .i64 s.hi] 100) := ⟨Bx.new w _ _⟩
 cases hm : M x with
 | none =>
  rw [hm] at hlk
  (try simp only [Option.getD_none, Option.isSome_none] at hlk)
  have HT : Aside0 (mo (M x) (some s) = some s) := ⟨by rw [hm]; rfl⟩
  have HO2 := Aside0.mk ((hown.alloc (.cells #[.int .i64 s.lo, .int .i64 s.hi] 100)).alloc (.cells #[.int .i64 0, .int .i64 0] 100))
  have HU2 : Aside0 (w.grownBy ((w.alloc (.cells #[.int .i64 s.lo, .int .i64 s.hi] 100)).alloc (.cells #[.int .i64 0, .int .i64 0] 100)) (some b)) := ⟨up_grown upA _⟩
  have hq5 := (HB5.out.up ((Up.refl (w.alloc (.cells #[.int .i64 s.lo, .int .i64 s.hi] 100))).alloc (.cells #[.int .i64 0, .int .i64 0] 100))).cell
  clear hm hown hM hx; go_enter Tryd.func69, Tryd.ntmps69
  go_wp2_with (first | (at_mapUpdate; refine wpList_mapUpdate_own _ rfl _ _ _ 111 rfl 3 100 kInt Tryd.underlying111 R_S b n D rfl HO2.out hn2 _ _ _ rfl rfl (Maps.keyOf_int_mk (P := Tryd.prog) Tryd.underlying3 HX.out) (dS s) [] (R_S_e s) ?_) | go_in)
  intro w3 hown3 hg3
  (try go_frame)
  go_wp2_with fail
  go_end0
  exact ⟨rfl, ⟨_, hown3, HM.out.put HX.out s s HT.out⟩, HU2.out.trans hg3⟩
 | some t =>
  rw [hm] at hlk
  (try simp only [Option.getD_some, Option.isSome_some] at hlk)
  have HT : Aside0 (mo (M x) (some s) = some ⟨min t.lo s.lo, max t.hi s.hi⟩) := ⟨by rw [hm]; rfl⟩
  have HB6 : Aside0 (Bx ((w.alloc (.cells #[.int .i64 s.lo, .int .i64 s.hi] 100)).alloc (.cells #[.int .i64 t.lo, .int .i64 t.hi] 100)) w.heap.size #[.int .i64 s.lo, .int .i64 s.hi] 100) := ⟨HB5.out.up ((Up.refl _).alloc _)⟩
  have HO2 := Aside0.mk ((hown.alloc (.cells #[.int .i64 (min t.lo s.lo), .int .i64 (max t.hi s.hi)] 100)).alloc (.cells #[.int .i64 t.lo, .int .i64 t.hi] 100))
  have HU2 : Aside0 (w.grownBy ((w.alloc (.cells #[.int .i64 (min t.lo s.lo), .int .i64 (max t.hi s.hi)] 100)).alloc (.cells #[.int .i64 t.lo, .int .i64 t.hi] 100)) (some b)) := ⟨up_grown upA _⟩
  have hq5 := HB6.out.cell; have hf5 := HB6.out.frozen
  clear hm hown hM hx; go_enter Tryd.func69, Tryd.ntmps69
  go_wp2_with (first | (at_mapUpdate; refine wpList_mapUpdate_own _ rfl _ _ _ 111 rfl 3 100 kInt Tryd.underlying111 R_S b n D rfl HO2.out hn2 _ _ _ rfl rfl (Maps.keyOf_int_mk (P := Tryd.prog) Tryd.underlying3 HX.out) (dS ⟨min t.lo s.lo, max t.hi s.hi⟩) [] (R_S_e ⟨min t.lo s.lo, max t.hi s.hi⟩) ?_) | go_in)
  intro w3 hown3 hg3
  (try go_frame)
  go_wp2_with fail
  go_end0
  exact ⟨rfl, ⟨_, hown3, HM.out.put HX.out s _ HT.out⟩, HU2.out.trans hg3⟩
end Go.Proofs.YtemingmeidmjkaaDoor.Q
namespace Go.Proofs.YtemingmeidmjkaaDoor.Q
open Go.RowKit Go.Shelf Go.Proofs.YtemingmeidmjkaaDoorW.PrintWords Go.Proofs.YtemingmeidmjkaaDoorW.PrintLast
set_option linter.unusedVariables false
set_option linter.unusedSimpArgs false
def con (t seen : Sp) (v w : Int) : Option Sp → Option Sp
 | none => none
 | some a => if seen.lo ≤ v ∧ v ≤ min seen.hi (hiS t w) then some ⟨a.lo + max 0 (loS t w - v), a.hi + hiS t w - v⟩ else none
def fo (f : Nat → Option Sp) (n : Nat) : Option Sp := (List.range n).foldl (fun o (j : Nat) => mo o (f j)) none
theorem fo_succ (f : Nat → Option Sp) (n : Nat) : fo f (n + 1) = mo (fo f n) (f n) := by
 simp only [fo, List.range_succ, List.foldl_append, List.foldl_cons, List.foldl_nil]
theorem fo_congr {f g : Nat → Option Sp} : ∀ {n : Nat}, (∀ j, j < n → f j = g j) → fo f n = fo g n
 | 0, _ => rfl
 | n + 1, h => by rw [fo_succ, fo_succ, fo_congr (fun j hj => h j (by omega)), h n (by omega)]
theorem fo_none {f : Nat → Option Sp} : ∀ {n : Nat}, (∀ j, j < n → f j = none) → fo f n = none
 | 0, _ => rfl
 | n + 1, h => by rw [fo_succ, fo_none (fun j hj => h j (by omega)), h n (by omega)]; rfl
theorem fo_upd {f g : Nat → Option Sp} {k : Nat} (hk : f k = none) : ∀ {n : Nat}, k < n → (∀ j, j < n → j ≠ k → g j = f j) → fo g n = mo (fo f n) (g k)
 | 0, h, _ => by omega
 | n + 1, h, hg => by
  rw [fo_succ, fo_succ]
  by_cases e : k = n
  ·subst e
   rw [hk, mo_none, fo_congr (fun j hj => hg j (by omega) (by omega))]
  ·rw [fo_upd hk (by omega) (fun j hj => hg j (by omega)), hg n (by omega) (fun e' => e e'.symm), mo_assoc, mo_assoc, mo_comm (g k)]
theorem fo_isNone {f : Nat → Option Sp} : ∀ {n : Nat}, fo f n = none ↔ ∀ j, j < n → f j = none
 | 0 => ⟨fun _ j hj => by omega, fun _ => rfl⟩
 | n + 1 => by
  rw [fo_succ]
  constructor
  ·intro h j hj
   have h1 : fo f n = none ∧ f n = none := by
    cases h2 : fo f n <;> cases h3 : f n <;> rw [h2, h3] at h <;> simp_all [mo]
   by_cases e : j = n
   ·rw [e]; exact h1.2
   ·exact fo_isNone.1 h1.1 j (by omega)
  ·intro h
   rw [fo_isNone.2 (fun j hj => h j (by omega)), h n (by omega)]
   rfl
def bdS (A B : Int) (s : Sp) : Prop := (A ≤ s.lo ∧ s.lo ≤ B) ∧ (A ≤ s.hi ∧ s.hi ≤ B)
theorem mo_bd {A B : Int} {o p : Option Sp} (ho : ∀ s, o = some s → bdS A B s) (hp : ∀ s, p = some s → bdS A B s) : ∀ s, mo o p = some s → bdS A B s := by
 intro s h
 cases o with
 | none => exact hp s h
 | some a =>
  cases p with
  | none => exact ho s h
  | some b =>
   have h1 := ho a rfl
   have h2 := hp b rfl
   simp only [mo, Option.some.injEq] at h
   rw [← h]
   unfold bdS at *
   simp only
   omega
theorem fo_bd {A B : Int} {f : Nat → Option Sp} : ∀ {n : Nat}, (∀ j, j < n → ∀ s, f j = some s → bdS A B s) → ∀ s, fo f n = some s → bdS A B s
 | 0, _, s, h => by cases h
 | n + 1, hf, s, h => by
  rw [fo_succ] at h
  exact mo_bd (fo_bd (fun j hj => hf j (by omega))) (hf n (by omega)) s h
def spN (sp : Sp) : Nat := (sp.hi + 1 - sp.lo).toNat
def msStep (t sp seen : Sp) (M : Int → Option Sp) (v : Int) : Option Sp := fo (fun j => con t seen v (sp.lo + (j : Int)) (M (sp.lo + (j : Int)))) (spN sp)
def msN (st : List Sp) (wg : List Wg) : Nat → Int → Option Sp
 | 0 => fun v => if (seenS wg 0).lo ≤ v ∧ v < (seenS wg 0).lo + (spN (seenS wg 0) : Int) then some ⟨0, 0⟩ else none
 | i + 1 => msStep (rdS st i) (seenS wg (i : Int)) (seenS wg ((i + 1 : Nat) : Int)) (msN st wg i)
def msAll (st : List Sp) (wg : List Wg) : Option Sp := fo (fun j => msN st wg st.length ((seenS wg (st.length : Int)).lo + (j : Int))) (spN (seenS wg (st.length : Int)))
def totS : Option Sp → Sp
 | none => ⟨400, 0⟩
 | some s => ⟨min 400 s.lo, max 0 s.hi⟩
theorem totS_mo (o : Option Sp) (s : Sp) : totS (mo o (some s)) = ⟨min (totS o).lo s.lo, max (totS o).hi s.hi⟩ := by
 cases o with
 | none => rfl
 | some a => simp only [mo, totS, Int.min_assoc, Int.max_assoc]
def msE (st : List Sp) (wg : List Wg) : Int := if roadE st wg = 0 then (if msAll st wg = none then 9 else 0) else roadE st wg
def msS (st : List Sp) (wg : List Wg) : Sp := if msE st wg = 0 then totS (msAll st wg) else ⟨0, 0⟩
theorem con_some {t seen : Sp} {v w : Int} {o : Option Sp} {s : Sp} (h : con t seen v w o = some s) : (seen.lo ≤ v ∧ v ≤ seen.hi) ∧ ∃ a, o = some a ∧ v ≤ hiS t w ∧ s = ⟨a.lo + max 0 (loS t w - v), a.hi + hiS t w - v⟩ := by
 cases o with
 | none => cases h
 | some a =>
  simp only [con] at h
  split at h
  ·rename_i h1
   exact ⟨by omega, a, rfl, by omega, (Option.some.inj h).symm⟩
  ·cases h
theorem msN_ok {st : List Sp} {wg : List Wg} (h : RdOk st wg) : ∀ (i : Nat), i ≤ st.length → ∀ v s, msN st wg i v = some s → ((seenS wg (i : Int)).lo ≤ v ∧ v ≤ (seenS wg (i : Int)).hi) ∧ bdS 0 (400 * (i : Int)) s
 | 0, _, v, s, hs => by
  simp only [msN] at hs
  split at hs
  ·rename_i h1
   unfold spN at h1
   refine ⟨⟨h1.1, by simp only [Int.ofNat_eq_natCast, Int.natCast_zero] at *; omega⟩, ?_⟩
   rw [← Option.some.inj hs]
   simp [bdS]
  ·cases hs
 | i + 1, hi, v, s, hs => by
  have ih := msN_ok h i (by omega)
  simp only [msN, msStep] at hs
  have hk : ∀ j, j < spN (seenS wg (i : Int)) → ∀ s, con (rdS st i) (seenS wg ((i + 1 : Nat) : Int)) v ((seenS wg (i : Int)).lo + (j : Int)) (msN st wg i ((seenS wg (i : Int)).lo + (j : Int))) = some s → bdS 0 (400 * ((i + 1 : Nat) : Int)) s ∧ ((seenS wg ((i + 1 : Nat) : Int)).lo ≤ v ∧ v ≤ (seenS wg ((i + 1 : Nat) : Int)).hi) := by
   intro j hj s hs
   obtain ⟨h1, a, h2, h3, rfl⟩ := con_some hs
   obtain ⟨h4, h5⟩ := ih _ _ h2
   have g0 := seenS_ok wg (i : Int)
   have g1 := seenS_ok wg ((i + 1 : Nat) : Int)
   have hst := h.at (i : Int) (by omega) (by omega)
   have e1 := hiS_le hst (w := (seenS wg (i : Int)).lo + (j : Int)) (by omega)
   have e2 := loS_hiS hst (w := (seenS wg (i : Int)).lo + (j : Int)) (by omega)
   generalize loS (rdS st i) ((seenS wg (i : Int)).lo + (j : Int)) = p at *
   generalize hiS (rdS st i) ((seenS wg (i : Int)).lo + (j : Int)) = q at *
   unfold bdS at *
   refine ⟨?_, h1⟩
   simp only
   omega
  refine ⟨?_, fo_bd (fun j hj s hs => (hk j hj s hs).1) s hs⟩
  by_cases hall : ∀ j, j < spN (seenS wg (i : Int)) → con (rdS st i) (seenS wg ((i + 1 : Nat) : Int)) v ((seenS wg (i : Int)).lo + (j : Int)) (msN st wg i ((seenS wg (i : Int)).lo + (j : Int))) = none
  ·rw [fo_none hall] at hs
   cases hs
  ·obtain ⟨j, hj⟩ := Classical.not_forall.1 hall
   obtain ⟨hj1, hj2⟩ := Classical.not_imp.1 hj
   obtain ⟨s', hs'⟩ := Option.ne_none_iff_exists'.1 hj2
   exact (hk j hj1 s' hs').2
theorem bx_map {A A' : World} {B : Nat} {C : Array Value} {T : TypeId} (h : Bx A B C T) {P : Program} {k : TypeId} {R : Value → Option (DataW Unit × List MemPlace)} {b n : Nat} {D : DataW Unit} (ho : A.ownsMap P k R b n D) (hg : A.grownBy A' (some b)) : Bx A' B C T := by
 refine h.own hg (fun r e => ?_)
 cases e
 obtain ⟨es, clock, hb, _⟩ := ho
 exact ⟨_, hb, rfl⟩
theorem bx_iter {A A' : World} {B : Nat} {C : Array Value} {T : TypeId} (h : Bx A B C T) {P : Program} {k : TypeId} {R : Value → Option (DataW Unit × List MemPlace)} {b r n : Nat} {D : DataW Unit} {left : Lit → Bool} {cnt : Nat} (ho : A.ranges P k R b r n D left cnt) (hg : A.grownBy A' (some r)) : Bx A' B C T := by
 refine h.own hg (fun r e => ?_)
 cases e
 obtain ⟨es, clock, since, seen, c0, _, _, _, _, hr, _⟩ := ho
 exact ⟨_, hr, rfl⟩
theorem bx_none {A A' : World} {B : Nat} {C : Array Value} {T : TypeId} (h : Bx A B C T) (hg : A.grownBy A' none) : Bx A' B C T := h.own hg (fun r e => nomatch e)
theorem up_some {w A A' : World} (h : Up w A) {b : Nat} (hb : w.heap.size ≤ b) (hg : A.grownBy A' (some b)) : Up w A' := Below.grown h hg h.size (fun k hk => by cases hk; exact hb)
theorem up_none {w A A' : World} (h : Up w A) (hg : A.grownBy A' none) : Up w A' := Below.grown h hg h.size (fun k hk => nomatch hk)
theorem size_le {w : World} {P : Program} {k : TypeId} {R : Value → Option (DataW Unit × List MemPlace)} {b n : Nat} {D : DataW Unit} (h : w.ownsMap P k R b n D) : Maps.size D ≤ n := by
 obtain ⟨es, clock, _, _, hs, rfl⟩ := h
 rw [Maps.size_eq, length_sorted]
 simpa using hs
theorem own_key {w : World} {b n : Nat} {D : DataW Unit} (h : w.ownsMap Tryd.prog 3 R_S b n D) (hs : Maps.size D ≠ 0) : ∃ x, wfI x ∧ Maps.has D (.int .i64 x) = true := by
 obtain ⟨es, clock, hb, F, hn, rfl⟩ := h
 rw [Maps.size_eq, length_sorted, List.length_map] at hs
 obtain ⟨e0, he0⟩ := List.exists_mem_of_length_pos (Nat.pos_of_ne_zero hs)
 obtain ⟨y, hy⟩ := F.reads e0 he0
 obtain ⟨x, hx, hk, hw⟩ := Maps.keyOf_int_inv Tryd.underlying3 (Go.WideElems.rd_key hy)
 refine ⟨x, hw, ?_⟩
 rw [Maps.has_eq]
 refine List.any_eq_true.2 ⟨Go.WideElems.rg Tryd.prog 3 R_S e0, mem_sorted.2 (List.mem_map.2 ⟨e0, he0, rfl⟩), ?_⟩
 have e1 : (Go.WideElems.rg Tryd.prog 3 R_S e0).1 = .int .i64 x := by rw [Go.WideElems.rg_of hy, hk]
 rw [e1]
 exact WideAt.sameKey_self (key_int hw)
theorem size_zero {D : DataW Unit} {M : Int → Option Sp} (hM : Mf D M) (h : Maps.size D = 0) (x : Int) (hx : wfI x) : M x = none := by
 have h1 := hM.has x hx
 obtain ⟨es, rfl⟩ := hM.isMap
 have h2 : es = [] := List.length_eq_zero_iff.1 h
 subst h2
 cases hm : M x with
 | none => rfl
 | some s => rw [hm] at h1; cases h1
theorem entry_is {D : DataW Unit} {M : Int → Option Sp} (hM : Mf D M) {x : Int} {c : Sp} {y : DataW Unit × List MemPlace} (hx : wfI x) (hR : R_S (eS c) = some y) (hat : ∀ zd, D.atKey (.int .i64 x) zd = y.1) : M x = some c := by
 rw [R_S_e] at hR
 have e1 : y = (dS c, []) := (Option.some.inj hR).symm
 have h1 := Maps.has_true_of_atKey (D := D) (k := .int .i64 x) hat
 rw [hM.has x hx] at h1
 obtain ⟨s, hs⟩ := Option.isSome_iff_exists.1 h1
 have h2 := hM.at_ x s hx hs (dS ⟨0, 0⟩)
 rw [hat, e1] at h2
 rw [hs, dS_inj h2]
def pL (t sp seen : Sp) (M : Int → Option Sp) (left : Lit → Bool) : Int → Option Sp := fun v => fo (fun j => if left (.int .i64 (sp.lo + (j : Int))) then none else con t seen v (sp.lo + (j : Int)) (M (sp.lo + (j : Int)))) (spN sp)
theorem pL_start {t sp seen : Sp} {M : Int → Option Sp} {left : Lit → Bool} (h : ∀ j : Nat, j < spN sp → left (.int .i64 (sp.lo + (j : Int))) = (M (sp.lo + (j : Int))).isSome) : pL t sp seen M left = fun _ => none := by
 funext v
 refine fo_none (fun j hj => ?_)
 rw [h j hj]
 cases M (sp.lo + (j : Int)) <;> rfl
theorem pL_end {t sp seen : Sp} {M : Int → Option Sp} {left : Lit → Bool} (h : ∀ kl, left kl = false) : pL t sp seen M left = msStep t sp seen M := by
 funext v
 exact fo_congr (fun j hj => by rw [h]; rfl)
theorem strike_off {left : Lit → Bool} {sp : Sp} {x : Int} {j : Nat} (h0 : sp.lo ≤ x) (hj : j ≠ (x - sp.lo).toNat) : (left (.int .i64 (sp.lo + (j : Int))) && !(Lit.int .i64 (sp.lo + (j : Int))).sameKey (.int .i64 x)) = left (.int .i64 (sp.lo + (j : Int))) := by
 rw [Maps.sameKey_ne (int_ne (by omega))]
 simp
theorem pL_step {t sp seen : Sp} {M : Int → Option Sp} {left : Lit → Bool} {x : Int} (hx : wfI x) (h0 : sp.lo ≤ x) (h1 : x ≤ sp.hi) (hl : left (.int .i64 x) = true) (v : Int) :
  pL t sp seen M (fun z => left z && !z.sameKey (.int .i64 x)) v = mo (pL t sp seen M left v) (con t seen v x (M x)) := by
 have e : sp.lo + (((x - sp.lo).toNat : Nat) : Int) = x := by omega
 unfold pL
 rw [fo_upd (f := fun j => if left (.int .i64 (sp.lo + (j : Int))) then none else con t seen v (sp.lo + (j : Int)) (M (sp.lo + (j : Int)))) (k := (x - sp.lo).toNat) (by simp only [e, hl, if_true]) (by unfold spN; omega) (fun j _ hj => by simp only [strike_off h0 hj])]
 simp only [e, WideAt.sameKey_self (key_int hx), Bool.not_true, Bool.and_false, Bool.false_eq_true, if_false]
def qL (t seen : Sp) (P : Int → Option Sp) (x : Int) (c : Sp) (j : Nat) : Int → Option Sp := fun v => if seen.lo ≤ v ∧ v < seen.lo + (j : Int) then mo (P v) (con t seen v x (some c)) else P v
theorem qL_zero (t seen : Sp) (P : Int → Option Sp) (x : Int) (c : Sp) : qL t seen P x c 0 = P := by
 funext v
 rw [qL, if_neg (by omega)]
theorem qL_succ {t seen : Sp} {P : Int → Option Sp} {x : Int} {c : Sp} {j : Nat} (h : seen.lo + (j : Int) ≤ min seen.hi (hiS t x)) :
  upd (qL t seen P x c j) (seen.lo + (j : Int)) ⟨c.lo + max 0 (loS t x - (seen.lo + (j : Int))), c.hi + hiS t x - (seen.lo + (j : Int))⟩ = qL t seen P x c (j + 1) := by
 funext v
 unfold upd qL
 by_cases h1 : v = seen.lo + (j : Int)
 ·rw [if_pos h1, if_neg (by omega), if_pos (by omega), h1]
  simp only [con]
  rw [if_pos (by omega)]
 ·rw [if_neg h1]
  by_cases h2 : seen.lo ≤ v ∧ v < seen.lo + (j : Int)
  ·rw [if_pos h2, if_pos (by omega)]
  ·rw [if_neg h2, if_neg (by omega)]
theorem qL_end {t seen : Sp} {P : Int → Option Sp} {x : Int} {c : Sp} {j : Nat} (h : ¬ seen.lo + (j : Int) ≤ min seen.hi (hiS t x)) (h2 : j = 0 ∨ seen.lo + (j : Int) ≤ min seen.hi (hiS t x) + 1) : qL t seen P x c j = fun v => mo (P v) (con t seen v x (some c)) := by
 funext v
 unfold qL
 by_cases h3 : seen.lo ≤ v ∧ v < seen.lo + (j : Int)
 ·rw [if_pos h3]
 ·rw [if_neg h3]
  simp only [con]
  rw [if_neg (by omega), mo_none]
def tL (sp : Sp) (M : Int → Option Sp) (left : Lit → Bool) : Option Sp := fo (fun j => if left (.int .i64 (sp.lo + (j : Int))) then none else M (sp.lo + (j : Int))) (spN sp)
theorem tL_start {sp : Sp} {M : Int → Option Sp} {left : Lit → Bool} (h : ∀ j : Nat, j < spN sp → left (.int .i64 (sp.lo + (j : Int))) = (M (sp.lo + (j : Int))).isSome) : tL sp M left = none := by
 refine fo_none (fun j hj => ?_)
 rw [h j hj]
 cases M (sp.lo + (j : Int)) <;> rfl
theorem tL_end {sp : Sp} {M : Int → Option Sp} {left : Lit → Bool} (h : ∀ kl, left kl = false) : tL sp M left = fo (fun j => M (sp.lo + (j : Int))) (spN sp) :=
 fo_congr (fun j hj => by rw [h]; rfl)
theorem tL_step {sp : Sp} {M : Int → Option Sp} {left : Lit → Bool} {x : Int} (hx : wfI x) (h0 : sp.lo ≤ x) (h1 : x ≤ sp.hi) (hl : left (.int .i64 x) = true) :
  tL sp M (fun z => left z && !z.sameKey (.int .i64 x)) = mo (tL sp M left) (M x) := by
 have e : sp.lo + (((x - sp.lo).toNat : Nat) : Int) = x := by omega
 unfold tL
 rw [fo_upd (f := fun j => if left (.int .i64 (sp.lo + (j : Int))) then none else M (sp.lo + (j : Int))) (k := (x - sp.lo).toNat) (by simp only [e, hl, if_true]) (by unfold spN; omega) (fun j _ hj => by simp only [strike_off h0 hj])]
 simp only [e, WideAt.sameKey_self (key_int hx), Bool.not_true, Bool.and_false, Bool.false_eq_true, if_false]
end Go.Proofs.YtemingmeidmjkaaDoor.Q
namespace Go.Proofs.YtemingmeidmjkaaDoor.Q
open Go.RowKit Go.Shelf Go.Proofs.YtemingmeidmjkaaDoorW.PrintWords Go.Proofs.YtemingmeidmjkaaDoorW.PrintLast
set_option linter.unusedVariables false
set_option linter.unusedSimpArgs false
attribute [local go_sem] bi_max2 bi_min2 bi_max_two bi_min_two
abbrev OM (W : World) (b n : Nat) (D : DataW Unit) : Prop := W.ownsMap Tryd.prog 3 R_S b n D
def m0 (s : Sp) (j : Nat) : Int → Option Sp := fun v => if s.lo ≤ v ∧ v < s.lo + (j : Int) then some ⟨0, 0⟩ else none
theorem m0_zero (s : Sp) : m0 s 0 = fun _ => none := by
 funext v
 rw [m0, if_neg (by omega)]
theorem m0_succ (s : Sp) (j : Nat) : upd (m0 s j) (s.lo + (j : Int)) ⟨0, 0⟩ = m0 s (j + 1) := by
 funext v
 unfold upd m0
 by_cases h : v = s.lo + (j : Int)
 ·rw [if_pos h, if_neg (by omega), if_pos (by omega)]
  rfl
 ·rw [if_neg h]
  by_cases h2 : s.lo ≤ v ∧ v < s.lo + (j : Int)
  ·rw [if_pos h2, if_pos (by omega)]
  ·rw [if_neg h2, if_neg (by omega)]
theorem m0_end (st : List Sp) (wg : List Wg) : m0 (seenS wg 0) (spN (seenS wg 0)) = msN st wg 0 := rfl
set_option maxRecDepth 100000 in
set_option maxHeartbeats 2000000 in
theorem missing_ (A : Option Addr) (c : Nat) (st : List Sp) (A2 : Option Addr) (c2 : Nat) (wg : List Wg) (w : World) (hG : GL w) (hr : Kd.C kSp w A st.length st) (hc : st.length ≤ c) (hr2 : Kd.C kWg w A2 wg.length wg) (hc2 : wg.length ≤ c2) :
  Calls Tryd.prog 29 #[.agg #[.slice A st.length c, .slice A2 wg.length c2]] w fun e w' => e = .returned (.tuple #[.agg #[.int .i64 (msS st wg).lo, .int .i64 (msS st wg).hi], .int .i64 (msE st wg)]) ∧ Up w w' := by
 have HR := Aside0.mk hr
 have HR2 := Aside0.mk hr2
 have HGL := Aside0.mk hG
 clear hr hr2 hG; have hmm := @run_makeMap Tryd.prog
 have HU0 : Aside0 (Up w ((w.alloc (.cells #[.slice A st.length c, .slice A2 wg.length c2] 25)).alloc (.cells #[.int .i64 0, .int .i64 0] 41))) := ⟨upA⟩
 have HB2 : Aside0 (Bx ((w.alloc (.cells #[.slice A st.length c, .slice A2 wg.length c2] 25)).alloc (.cells #[.int .i64 0, .int .i64 0] 41)) (w.heap.size + 1) #[.int .i64 0, .int .i64 0] 41) := ⟨by have h9 := Bx.new (w.alloc (.cells #[.slice A st.length c, .slice A2 wg.length c2] 25)) #[.int .i64 0, .int .i64 0] 41; simpa using h9⟩
 have hcall := open_ A c st A2 c2 wg _ (C_up HR.out HU0.out) hc (C_up HR2.out HU0.out) hc2
 have hbe : (roadE st wg != 0) = !decide (roadE st wg = 0) := by by_cases h : roadE st wg = 0 <;> simp [h]
 go_enter Tryd.func29, Tryd.ntmps29
 go_wp2_with fail
 generalize ((w.alloc (.cells #[.slice A st.length c, .slice A2 wg.length c2] 25)).alloc (.cells #[.int .i64 0, .int .i64 0] 41)) = W0 at *
 refine hcall.mono ?_
 clear hcall; rintro e w1 ⟨rfl, hb⟩
 have HU1 := Aside0.mk ((HU0.out.then hb).alloc (.cells #[.slice A st.length c, .slice A2 wg.length c2] 95))
 have HB3 := Aside0.mk ((HB2.out.up hb).up ((Up.refl w1).alloc (.cells #[.slice A st.length c, .slice A2 wg.length c2] 95)))
 have HB4 : Aside0 (Bx (w1.alloc (.cells #[.slice A st.length c, .slice A2 wg.length c2] 95)) w1.heap.size #[.slice A st.length c, .slice A2 wg.length c2] 95) := ⟨Bx.new w1 _ _⟩
 have HW1 : Aside0 (w.heap.size ≤ w1.heap.size) := ⟨(HU0.out.then hb).le⟩
 clear hb HB2
 by_cases he : roadE st wg = 0
 ·have hd : (roadE st wg != 0) = false := by simp [he]
  have HE := Aside0.mk he
  clear he hbe; have hok := road_ok HE.out
  have HOK := Aside0.mk hok.1
  have hs5 := hok.2.2.1
  have hso := seenS_ok wg 0
  have hM := World.ownsMap_made (H := Unit) (w1.alloc (.cells #[.slice A st.length c, .slice A2 wg.length c2] 95)) Tryd.prog 3 R_S
  obtain ⟨W2, hW2⟩ : ∃ W, W = ((w1.alloc (.cells #[.slice A st.length c, .slice A2 wg.length c2] 95)).alloc (.map #[] 0)) := ⟨_, rfl⟩
  have HX2 : Aside0 (Up (w1.alloc (.cells #[.slice A st.length c, .slice A2 wg.length c2] 95)) W2) := ⟨by rw [hW2]; exact (Up.refl _).alloc _⟩
  have HM2 : Aside0 (OM W2 (w1.heap.size + 1) 0 (.map [])) := ⟨by rw [hW2]; simpa using hM⟩
  have HU2 := Aside0.mk (HU1.out.then HX2.out)
  have HB3' := Aside0.mk (HB3.out.up HX2.out)
  have HB4' := Aside0.mk (HB4.out.up HX2.out)
  have hsc := seen_ A c st A2 c2 wg 0 W2 (HGL.out.up HU2.out) (C_up HR2.out HU2.out) hc2 HOK.out.wgs
  have hq4 := HB4'.out.cell
  rw [hW2] at hsc hq4
  obtain ⟨f, hf⟩ : ∃ f, f = seenS wg 0 := ⟨_, rfl⟩
  rw [← hf] at hsc hso
  have HF := Aside0.mk hf
  clear hf hok hM; go_wp2_with fail
  refine hsc.mono ?_
  clear hsc hq4; rintro e w3 ⟨rfl, hb⟩
  rw [← hW2] at hb
  have HV := Aside0.mk (hb.alloc (.cells #[.int .i64 f.lo, .int .i64 f.hi] 100))
  have HU4 := Aside0.mk (HU2.out.then HV.out)
  have HB3 := Aside0.mk (HB3'.out.up HV.out)
  have HB4 := Aside0.mk (HB4'.out.up HV.out)
  have HM4 : Aside0 (OM (w3.alloc (.cells #[.int .i64 f.lo, .int .i64 f.hi] 100)) (w1.heap.size + 1) 0 (.map [])) := ⟨HM2.out.kept (up_grown HV.out none) (by simp)⟩
  have HB6 : Aside0 (Bx (w3.alloc (.cells #[.int .i64 f.lo, .int .i64 f.hi] 100)) w3.heap.size #[.int .i64 f.lo, .int .i64 f.hi] 100) := ⟨Bx.new w3 _ _⟩
  have hq6 := HB6.out.cell
  clear hb HB3' HB4'; go_wp2_with fail
  clear hq6; obtain ⟨b0, hb0⟩ : ∃ b, b = w1.heap.size + 1 := ⟨_, rfl⟩
  have HWb : Aside0 (w.heap.size ≤ b0) := ⟨by rw [hb0]; have := HW1.out; omega⟩
  obtain ⟨B4, hB4⟩ : ∃ b, b = w1.heap.size := ⟨_, rfl⟩
  have HWB : Aside0 (w.heap.size ≤ B4) := ⟨by rw [hB4]; exact HW1.out⟩
  rw [← hb0] at HM4
  rw [← hb0]
  rw [← hB4] at HB4
  rw [← hB4]
  obtain ⟨B6, hB6⟩ : ∃ b, b = w3.heap.size := ⟨_, rfl⟩
  rw [← hB6] at HB6
  rw [← hB6]
  clear hb0 hB4 hB6 hW2; go_loopw [7] (fun v7 wr => ∃ (j n : Nat) (D : DataW Unit), j ≤ spN f ∧ n ≤ j ∧ v7 = .int .i64 (f.lo + (j : Int)) ∧ Aside0 (OM wr b0 n D ∧ Mf D (m0 f j)) ∧ Aside0 (Bx wr (w.heap.size + 1) #[.int .i64 0, .int .i64 0] 41) ∧ Aside0 (Bx wr B4 #[.slice A st.length c, .slice A2 wg.length c2] 95) ∧ Aside0 (Bx wr B6 #[.int .i64 f.lo, .int .i64 f.hi] 100) ∧ Aside0 (Up w wr)) (fun v7 _ => (f.hi + 1 - intOf v7).toNat)
  case atStart => exact ⟨0, 0, _, Nat.zero_le _, Nat.le_refl _, by simp, ⟨HM4.out, by rw [m0_zero]; exact Mf.empty⟩, HB3, HB4, HB6, HU4⟩
  case round =>
   clear HM4 HB3 HB4 HB6 HU4 HV HM2 HX2 HU2; obtain ⟨j, n, D, hj, hn, rfl, hM, hB2, hB4, hB6, hU⟩ := hrel
   have hq6 := hB6.out.cell
   by_cases hle : f.lo + (j : Int) ≤ f.hi
   ·have hjs : j < spN f := by unfold spN; omega
    have hwx : IntKind.i64.wrap (f.lo + (j : Int) + 1) = f.lo + (j : Int) + 1 := IntWalk.i64_in _ (by omega)
    have hca := add_ b0 n D (m0 f j) (f.lo + (j : Int)) ⟨0, 0⟩ wr hM.out.1 hM.out.2 (by unfold spN at hjs; omega) (wf_small (by omega))
    go_wp2_with fail
    refine hca.mono ?_
    clear hca hq6; rintro e w4 ⟨rfl, ⟨D', hown, hMf⟩, hg⟩
    rw [m0_succ] at hMf
    have HM5 : Aside0 (OM w4 b0 (n + 1) D' ∧ Mf D' (m0 f (j + 1))) := ⟨hown, hMf⟩
    have HB2 := Aside0.mk (bx_map hB2.out hM.out.1 hg)
    have HB4 := Aside0.mk (bx_map hB4.out hM.out.1 hg)
    have HB6 := Aside0.mk (bx_map hB6.out hM.out.1 hg)
    have HU5 := Aside0.mk (up_some hU.out HWb.out hg)
    clear hown hMf hg; go_wp2_with fail
    go_roundw
    case rel => exact ⟨j + 1, n + 1, D', by omega, by omega, by go_num, HM5, HB2, HB4, HB6, HU5⟩
    case measure => simp [intOf]; omega
   ·have hjN : j = spN f := by unfold spN at *; omega
    subst hjN
    have HM5 : Aside0 (OM wr b0 n D ∧ Mf D (msN st wg 0)) := ⟨hM.out.1, by rw [← m0_end]; have h9 := hM.out.2; rwa [HF.out] at h9⟩
    have hn1 : n ≤ 401 := by unfold spN at hn; omega
    have hq4 := hB4.out.cell
    clear hM hn hj; go_wp2_with fail
    clear hq6 hq4; go_loopw [5, 46] (fun v5 i wr => ∃ (k n b : Nat) (D : DataW Unit), k ≤ st.length ∧ n ≤ 401 ^ (k + 1) ∧ v5 = .map (some b) ∧ i = .int .i64 (k : Int) ∧ w.heap.size ≤ b ∧ Aside0 (OM wr b n D ∧ Mf D (msN st wg k)) ∧ Aside0 (Bx wr (w.heap.size + 1) #[.int .i64 0, .int .i64 0] 41) ∧ Aside0 (Bx wr B4 #[.slice A st.length c, .slice A2 wg.length c2] 95) ∧ Aside0 (Up w wr)) (fun _ i _ => st.length - (intOf i).toNat)
    case atStart => exact ⟨0, n, b0, D, Nat.zero_le _, by simpa using hn1, rfl, rfl, HWb.out, HM5, hB2, hB4, hU⟩
    case round =>
     clear HM5 hB2 hB4 hB6 hU HF hle hn1; obtain ⟨k, n, b, D, hk, hn, rfl, rfl, hwb, hM, hB2, hB4, hU⟩ := hrel
     by_cases hlt : k < st.length
     ·have hk1 : (k : Int) < (st.length : Int) := by omega
      have hwk : IntKind.i64.wrap ((k : Int) + 1) = (k : Int) + 1 := IntWalk.i64_in _ (by omega)
      have hnb : n ≤ 10368641602001 := Nat.le_trans hn (Nat.le_trans (Nat.pow_le_pow_right (n := 401) (by omega) (show k + 1 ≤ 5 by omega)) (by decide))
      have HPW : Aside0 (n * 401 ≤ 401 ^ (k + 1 + 1)) := ⟨by rw [Nat.pow_succ]; exact Nat.mul_le_mul_right _ hn⟩
      have HOKM := Aside0.mk (msN_ok HOK.out k (by omega))
      have HST := Aside0.mk (HOK.out.at (k : Int) (by omega) hk1)
      have hso := seenS_ok wg (k : Int)
      have hse := seenS_ok wg ((k : Int) + 1)
      have HMS : Aside0 (msN st wg (k + 1) = msStep (rdS st k) (seenS wg (k : Int)) (seenS wg ((k : Int) + 1)) (msN st wg k)) := ⟨rfl⟩
      obtain ⟨wo, rfl⟩ : ∃ wo, wo = wr := ⟨_, rfl⟩
      have hMN := World.ownsMap_made (H := Unit) wo Tryd.prog 3 R_S
      obtain ⟨W1, hW1⟩ : ∃ W, W = wo.alloc (.map #[] 0) := ⟨_, rfl⟩
      have HV1 : Aside0 (Up wo W1) := ⟨by rw [hW1]; exact (Up.refl wo).alloc _⟩
      have hsc := seen_ A c st A2 c2 wg ((k : Int) + 1) W1 (HGL.out.up (hU.out.then HV1.out)) (C_up HR2.out (hU.out.then HV1.out)) hc2 HOK.out.wgs
      have HN1 : Aside0 (OM W1 wo.heap.size 0 (.map [])) := ⟨by rw [hW1]; exact hMN⟩
      have hq4 := (hB4.out.up HV1.out).cell
      rw [hW1] at hsc hq4
      generalize seenS wg ((k : Int) + 1) = seen at *
      generalize seenS wg (k : Int) = sp at *
      generalize msN st wg k = M at *
      clear hMN hn; go_wp2_with fail
      refine hsc.mono ?_
      clear hsc hq4; rintro e w2 ⟨rfl, hb⟩
      rw [← hW1] at hb
      obtain ⟨W3, hW3⟩ : ∃ W, W = w2.alloc (.cells #[.int .i64 seen.lo, .int .i64 seen.hi] 100) := ⟨_, rfl⟩
      have HV3 : Aside0 (Up W1 W3) := ⟨by rw [hW3]; exact hb.alloc _⟩
      have HU3 := Aside0.mk (hU.out.then (HV1.out.then HV3.out))
      have HB2 := Aside0.mk (hB2.out.up (HV1.out.then HV3.out))
      have HB4 := Aside0.mk (hB4.out.up (HV1.out.then HV3.out))
      have HB10 : Aside0 (Bx W3 w2.heap.size #[.int .i64 seen.lo, .int .i64 seen.hi] 100) := ⟨by rw [hW3]; exact Bx.new w2 _ _⟩
      have HM3 : Aside0 (OM W3 b n D ∧ Mf D M) := ⟨hM.out.1.kept (up_grown (HV1.out.then HV3.out) none) (by simp), hM.out.2⟩
      have HN3 : Aside0 (OM W3 wo.heap.size 0 (.map [])) := ⟨HN1.out.kept (up_grown HV3.out none) (by simp)⟩
      have hrz : W3.heap.size = w2.heap.size + 1 := by rw [hW3]; simp
      have HWN : Aside0 (w.heap.size ≤ wo.heap.size ∧ wo.heap.size ≠ b ∧ wo.heap.size < W3.heap.size ∧ b < W3.heap.size) := ⟨hU.out.le, fun e => by have := hM.out.1.lt; omega, HN3.out.lt, HM3.out.1.lt⟩
      have hM3' := HM3.out.1
      rw [hW3] at hM3'
      clear hb; go_wp2_with (first | (at_range; refine wpList_range_own _ rfl _ 111 rfl 3 100 kInt Tryd.underlying111 R_S b n D rfl hM3' ?_; intro w0 hrg0 hg0 hs0) | go_in)
      (try go_frame)
      rw [← hW3] at hrg0 hg0 hs0 ⊢
      obtain ⟨r, hrr⟩ : ∃ r, r = W3.heap.size := ⟨_, rfl⟩
      obtain ⟨b2, hb2⟩ : ∃ b, b = wo.heap.size := ⟨_, rfl⟩
      obtain ⟨B10, hB10⟩ : ∃ b, b = w2.heap.size := ⟨_, rfl⟩
      rw [← hrr] at hrg0 hs0 ⊢
      rw [← hb2] at HN3 HWN ⊢
      rw [← hB10] at HB10 ⊢
      have HRG : Aside0 (w0.ranges Tryd.prog 3 R_S b r n D (Maps.has D) (Maps.size D)) := ⟨hrg0⟩
      have HN0 : Aside0 (OM w0 b2 0 (.map [])) := ⟨HN3.out.kept hg0 (by simp)⟩
      have HB2 := Aside0.mk (bx_none HB2.out hg0)
      have HB4 := Aside0.mk (bx_none HB4.out hg0)
      have HB10 := Aside0.mk (bx_none HB10.out hg0)
      have HU0' := Aside0.mk (up_none HU3.out hg0)
      have HNE : Aside0 (w.heap.size ≤ r ∧ r ≠ b ∧ r ≠ b2 ∧ w.heap.size ≤ b2 ∧ b2 ≠ b) := ⟨by have := HWN.out; have := HU3.out.le; omega, by have := HWN.out; omega, by have := HWN.out; omega, HWN.out.1, HWN.out.2.1⟩
      have HMf := Aside0.mk hM.out.2
      have HSZ := Aside0.mk (size_le hM.out.1)
      have HP0 : Aside0 (pL (rdS st k) sp seen M (Maps.has D) = fun _ => none) := ⟨pL_start (fun j hj => hM.out.2.has _ (wf_small (by unfold spN at hj; omega)))⟩
      clear hrg0 hg0 hs0 hrr hb2 hB10 hM hB2 hB4 hU hM3' hrz hW3 hW1 HM3 HN3 HN1 HV1 HV3 HU3 HWN; go_loopw [11] (fun _ wr => ∃ (left : Lit → Bool) (cnt n2 : Nat) (D2 : DataW Unit), n2 + cnt * 401 ≤ Maps.size D * 401 ∧ Aside0 (wr.ranges Tryd.prog 3 R_S b r n D left cnt) ∧ Aside0 (OM wr b2 n2 D2 ∧ Mf D2 (pL (rdS st k) sp seen M left)) ∧ Aside0 (Bx wr (w.heap.size + 1) #[.int .i64 0, .int .i64 0] 41) ∧ Aside0 (Bx wr B4 #[.slice A st.length c, .slice A2 wg.length c2] 95) ∧ Aside0 (Bx wr B10 #[.int .i64 seen.lo, .int .i64 seen.hi] 100) ∧ Aside0 (Up w wr)) (fun _ wr => wr.rangeLeft b r)
      case atStart => exact ⟨_, _, 0, _, by omega, HRG, ⟨HN0.out, by rw [HP0.out]; exact Mf.empty⟩, HB2, HB4, HB10, HU0'⟩
      case round =>
       clear HRG HN0 HP0 HB2 HB4 HB10 HU0'; obtain ⟨left, cnt, n2, D2, hn2, hrg, hN, hB2, hB4, hB10, hU⟩ := hrel
       obtain ⟨wp, rfl⟩ : ∃ wp, wp = wr := ⟨_, rfl⟩
       go_wp2_with (first | (at_next; refine wpList_next_ranges _ rfl _ rfl 3 kInt R_S (Value.int .i64) eS (fun key kl h => by obtain ⟨x, hx, _⟩ := Maps.keyOf_int_inv Tryd.underlying3 h; exact ⟨x, hx⟩) R_S_inv b r n D left cnt rfl hrg.out ?_ ?_) | go_in)
       ·intro hc0 hl0
        have HE5 : Aside0 (OM wp b2 n2 D2 ∧ Mf D2 (msN st wg (k + 1))) := ⟨hN.out.1, by rw [HMS.out, ← pL_end (fun kl => hl0 kl)]; exact hN.out.2⟩
        have HN5 : Aside0 (n2 ≤ 401 ^ (k + 1 + 1)) := ⟨Nat.le_trans (by have := HSZ.out; omega) HPW.out⟩
        clear hc0 hl0 hN; go_wp2_with fail
        go_roundw
        case rel => exact ⟨k + 1, n2, b2, D2, by omega, HN5.out, rfl, by go_num, HNE.out.2.2.2.1, HE5, hB2, hB4, hU⟩
        case measure => simp [intOf]; omega
       ·intro x c1 kl y1 y2 w1' cnt1 hkey hlk hv hat hrg1 hlt1 hg1 hs1 hen
        obtain ⟨x', ex, rfl, hwx⟩ := Maps.keyOf_int_inv Tryd.underlying3 hkey
        cases ex
        have hMx := entry_is HMf.out hwx hv hat
        obtain ⟨hxr, hbd⟩ := HOKM.out x c1 hMx
        obtain ⟨hbd1, hbd2⟩ := hbd
        have hen2 : (Instr.entry (.pointer (some ⟨r, 0, none⟩))).run Tryd.prog w1' = .ok (.tuple #[.int .i64 x, .agg #[.int .i64 c1.lo, .int .i64 c1.hi]]) w1' := hen
        have HLK := Aside0.mk hlk
        have HWX := Aside0.mk hwx
        have HMX := Aside0.mk hMx
        obtain ⟨left', hleft⟩ : ∃ l : Lit → Bool, l = (fun z => left z && !z.sameKey (.int .i64 x)) := ⟨_, rfl⟩
        have HLF := Aside0.mk hleft
        rw [← hleft] at hrg1
        have HN1 : Aside0 (OM w1' b2 n2 D2 ∧ Mf D2 (pL (rdS st k) sp seen M left)) := ⟨hN.out.1.kept hg1 (by have := HNE.out; intro e; cases e; omega), hN.out.2⟩
        have HB2a := Aside0.mk (bx_iter hB2.out hrg.out hg1)
        have HB4a := Aside0.mk (bx_iter hB4.out hrg.out hg1)
        have HB10a := Aside0.mk (bx_iter hB10.out hrg.out hg1)
        have HUa := Aside0.mk (up_some hU.out HNE.out.1 hg1)
        have HRGa := Aside0.mk hrg1
        have HLE := Aside0.mk hrg.out.left_eq
        obtain ⟨W5, hW5⟩ : ∃ W, W = w1'.alloc (.cells #[.int .i64 c1.lo, .int .i64 c1.hi] 100) := ⟨_, rfl⟩
        have HV5 : Aside0 (Up w1' W5) := ⟨by rw [hW5]; exact (Up.refl _).alloc _⟩
        have HB12a : Aside0 (Bx W5 w1'.heap.size #[.int .i64 c1.lo, .int .i64 c1.hi] 100) := ⟨by rw [hW5]; exact Bx.new w1' _ _⟩
        have hq4 := (HB4a.out.up HV5.out).cell
        have hcl := left_ A c st A2 c2 wg (k : Int) x W5 (C_up HR.out (HUa.out.then HV5.out)) hc (C_up HR2.out (HUa.out.then HV5.out)) hc2 (by omega) hk1 HST.out ⟨by omega, by omega⟩
        have g1 := hiS_le HST.out (w := x) (by omega)
        have g2 := loS_hiS HST.out (w := x) (by omega)
        have g3 := loS_nn HST.out (w := x) (by omega)
        have hk5 : 400 * (k : Int) ≤ 2000 := by omega
        rw [hW5] at hcl hq4
        clear hkey hlk hv hat hrg1 hg1 hs1 hen hwx hMx hleft hN hB2 hB4 hB10 hU hrg; go_wp2_with fail
        refine hcl.mono ?_
        clear hcl hq4 hen2; rintro e w5 ⟨rfl, hb⟩
        rw [← hW5] at hb
        obtain ⟨p, hp⟩ : ∃ p, p = loS (rdS st k) x := ⟨_, rfl⟩
        obtain ⟨q, hq⟩ : ∃ q, q = hiS (rdS st k) x := ⟨_, rfl⟩
        rw [← hp, ← hq]
        rw [← hq] at g1 g2
        rw [← hp] at g2 g3
        have HPQ := Aside0.mk (And.intro hp hq)
        clear hp hq; obtain ⟨W6, hW6⟩ : ∃ W, W = w5.alloc (.cells #[.int .i64 p, .int .i64 q] 100) := ⟨_, rfl⟩
        have HV6 : Aside0 (Up w1' W6) := ⟨by rw [hW6]; exact (HV5.out.then hb).alloc _⟩
        have HV56 : Aside0 (Up W5 W6) := ⟨by rw [hW6]; exact hb.alloc _⟩
        have HB13 : Aside0 (Bx W6 w5.heap.size #[.int .i64 p, .int .i64 q] 100) := ⟨by rw [hW6]; exact Bx.new w5 _ _⟩
        have HB12 := Aside0.mk (HB12a.out.up HV56.out)
        have HB2 := Aside0.mk (HB2a.out.up HV6.out)
        have HB4 := Aside0.mk (HB4a.out.up HV6.out)
        have HB10 := Aside0.mk (HB10a.out.up HV6.out)
        have HU6 := Aside0.mk (HUa.out.then HV6.out)
        have HN6 : Aside0 (OM W6 b2 n2 D2 ∧ Mf D2 (pL (rdS st k) sp seen M left)) := ⟨HN1.out.1.kept (up_grown HV6.out none) (by simp), HN1.out.2⟩
        have HRG6 := Aside0.mk (HRGa.out.kept (up_grown HV6.out none) (by simp) (by simp))
        have hq10 := HB10.out.cell
        rw [hW6] at hq10
        obtain ⟨B12, hB12⟩ : ∃ b, b = w1'.heap.size := ⟨_, rfl⟩
        obtain ⟨B13, hB13⟩ : ∃ b, b = w5.heap.size := ⟨_, rfl⟩
        have HP := Aside0.mk (show ∀ v, pL (rdS st k) sp seen M left' v = mo (pL (rdS st k) sp seen M left v) (con (rdS st k) seen v x (some c1)) from fun v => by rw [HLF.out, pL_step HWX.out hxr.1 hxr.2 HLK.out, HMX.out])
        clear hb HB2a HB4a HB10a HB12a HN1 HRGa; go_wp2_with fail
        rw [← hW6]
        rw [← hB12, ← hB13]
        rw [← hB12] at HB12
        rw [← hB13] at HB13
        clear hq10 hW6 hB12 hB13 hW5; generalize hPP : pL (rdS st k) sp seen M left = P at *
        clear hPP; go_loopw [14] (fun v14 wr => ∃ (j n3 : Nat) (D3 : DataW Unit), n3 ≤ n2 + j ∧ j ≤ 401 ∧ (j = 0 ∨ seen.lo + (j : Int) ≤ min seen.hi q + 1) ∧ v14 = .int .i64 (seen.lo + (j : Int)) ∧ Aside0 (OM wr b2 n3 D3 ∧ Mf D3 (qL (rdS st k) seen P x c1 j)) ∧ Aside0 (wr.ranges Tryd.prog 3 R_S b r n D left' cnt1) ∧ Aside0 (Bx wr (w.heap.size + 1) #[.int .i64 0, .int .i64 0] 41) ∧ Aside0 (Bx wr B4 #[.slice A st.length c, .slice A2 wg.length c2] 95) ∧ Aside0 (Bx wr B10 #[.int .i64 seen.lo, .int .i64 seen.hi] 100) ∧ Aside0 (Bx wr B12 #[.int .i64 c1.lo, .int .i64 c1.hi] 100) ∧ Aside0 (Bx wr B13 #[.int .i64 p, .int .i64 q] 100) ∧ Aside0 (Up w wr)) (fun v14 _ => (402 - intOf v14).toNat)
        case atStart => exact ⟨0, n2, D2, by omega, by omega, .inl rfl, by simp, ⟨HN6.out.1, by rw [qL_zero]; exact HN6.out.2⟩, HRG6, HB2, HB4, HB10, HB12, HB13, HU6⟩
        case round =>
         clear HN6 HRG6 HB2 HB4 HB10 HB12 HB13 HU6; obtain ⟨j, n3, D3, hn3, hj4, hjq, rfl, hN, hrg, hB2, hB4, hB10, hB12, hB13, hU⟩ := hrel
         have hq10 := hB10.out.cell; have hq12 := hB12.out.cell; have hq13 := hB13.out.cell
         obtain ⟨v, hv⟩ : ∃ v, v = seen.lo + (j : Int) := ⟨_, rfl⟩
         rw [← hv] at hjq ⊢
         have HVJ := Aside0.mk hv
         have hv0 : seen.lo ≤ v := by omega
         have hv1 : v ≤ min seen.hi q → j + 1 ≤ 401 := by omega
         clear hv
         by_cases hle : v ≤ min seen.hi q
         ·have hw1 : IntKind.i64.wrap (p - v) = p - v := IntWalk.i64_in _ (by omega)
          have hw2 : IntKind.i64.wrap (c1.lo + max 0 (p - v)) = c1.lo + max 0 (p - v) := IntWalk.i64_in _ (by omega)
          have hw3 : IntKind.i64.wrap (c1.hi + q) = c1.hi + q := IntWalk.i64_in _ (by omega)
          have hw4 : IntKind.i64.wrap (c1.hi + q - v) = c1.hi + q - v := IntWalk.i64_in _ (by omega)
          have hw5 : IntKind.i64.wrap (v + 1) = v + 1 := IntWalk.i64_in _ (by omega)
          have hj5 : j + 1 ≤ 401 := hv1 hle
          have hca := add_ b2 n3 D3 (qL (rdS st k) seen P x c1 j) v ⟨c1.lo + max 0 (p - v), c1.hi + q - v⟩ wr hN.out.1 hN.out.2 (by have := HSZ.out; omega) (wf_small (by omega))
          have HQ : Aside0 (upd (qL (rdS st k) seen P x c1 j) v ⟨c1.lo + max 0 (p - v), c1.hi + q - v⟩ = qL (rdS st k) seen P x c1 (j + 1)) := ⟨by rw [HVJ.out, HPQ.out.1, HPQ.out.2]; refine qL_succ ?_; rw [← HPQ.out.2, ← HVJ.out]; exact hle⟩
          clear hv1; go_wp2_with fail
          refine hca.mono ?_
          clear hca hq10 hq12 hq13; rintro e w7 ⟨rfl, ⟨D', hown, hMf⟩, hg⟩
          rw [HQ.out] at hMf
          have HN7 : Aside0 (OM w7 b2 (n3 + 1) D' ∧ Mf D' (qL (rdS st k) seen P x c1 (j + 1))) := ⟨hown, hMf⟩
          have HR7 := Aside0.mk (hrg.out.kept hg (by have := HNE.out; intro e; cases e; omega) (by have := HNE.out; intro e; cases e; omega))
          have HB2 := Aside0.mk (bx_map hB2.out hN.out.1 hg)
          have HB4 := Aside0.mk (bx_map hB4.out hN.out.1 hg)
          have HB10 := Aside0.mk (bx_map hB10.out hN.out.1 hg)
          have HB12 := Aside0.mk (bx_map hB12.out hN.out.1 hg)
          have HB13 := Aside0.mk (bx_map hB13.out hN.out.1 hg)
          have HU7 := Aside0.mk (up_some hU.out HNE.out.2.2.2.1 hg)
          clear hown hMf hg; go_wp2_with fail
          go_roundw
          case rel => exact ⟨j + 1, n3 + 1, D', by omega, by omega, .inr (by have := HVJ.out; omega), by have := HVJ.out; go_num, HN7, HR7, HB2, HB4, HB10, HB12, HB13, HU7⟩
          case measure => have := HVJ.out; simp [intOf]; omega
         ·have HN7 : Aside0 (OM wr b2 n3 D3 ∧ Mf D3 (pL (rdS st k) sp seen M left')) := ⟨hN.out.1, by
           have e1 : pL (rdS st k) sp seen M left' = qL (rdS st k) seen P x c1 j := by
            rw [qL_end (by rw [← HPQ.out.2, ← HVJ.out]; exact hle) (by rw [← HPQ.out.2, ← HVJ.out]; exact hjq)]
            funext v
            exact HP.out v
           rw [e1]
           exact hN.out.2⟩
          have HLE2 := Aside0.mk hrg.out.left_eq
          clear hN; go_wp2_with fail
          go_roundw
          case rel => exact ⟨left', cnt1, n3, D3, by omega, hrg, HN7, hB2, hB4, hB10, hU⟩
          case measure => rw [HLE2.out, HLE.out]; exact hlt1
     ·obtain rfl : k = st.length := by omega
      have HOKM := Aside0.mk (msN_ok HOK.out st.length (Nat.le_refl _))
      have hso := seenS_ok wg (st.length : Int)
      have HAL : Aside0 (msAll st wg = fo (fun j => msN st wg st.length ((seenS wg (st.length : Int)).lo + (j : Int))) (spN (seenS wg (st.length : Int)))) := ⟨rfl⟩
      generalize msN st wg st.length = M at *
      generalize seenS wg (st.length : Int) = sp at *
      clear hn
      by_cases hz : Maps.size D = 0
      ·have HZ : Aside0 (msAll st wg = none) := ⟨by rw [HAL.out]; exact fo_none (fun j hj => size_zero hM.out.2 hz _ (wf_small (by unfold spN at hj; omega)))⟩
       have HE2 : Aside0 (msE st wg = 9) := ⟨by rw [msE, if_pos HE.out, if_pos HZ.out]⟩
       have HS2 : Aside0 (msS st wg = ⟨0, 0⟩) := ⟨by rw [msS, HE2.out]; rfl⟩
       have hzi : ((Maps.size D : Nat) : Int) = 0 := by omega
       have hq2 := hB2.out.cell; have hf2 := hB2.out.frozen
       go_wp2_with (first | (at_len; refine wpList_len_own _ rfl _ 111 rfl 3 100 Tryd.underlying111 R_S b n D rfl hM.out.1 ?_) | go_in)
       have HB5 := Aside0.mk ((hB2.out.set 0 (.int .i64 0)).set 1 (.int .i64 0))
       have HU5 := Aside0.mk ((hU.out.set ⟨w.heap.size + 1, 0, none⟩ (.int .i64 0) (by simp)).set ⟨w.heap.size + 1, 1, none⟩ (.int .i64 0) (by simp))
       have hq5 := HB5.out.cell
       refine bodyPost_ret (v := .tuple #[.agg #[.int .i64 0, .int .i64 0], .int .i64 9]) ?_ rfl ⟨by rw [HE2.out, HS2.out], HU5.out⟩
       clear hq2 hf2; simp [results, Tryd.results29, go_sem, hq5]
      ·have HZ : Aside0 (msAll st wg ≠ none) := ⟨by
        intro h0
        rw [HAL.out, fo_isNone] at h0
        obtain ⟨x, hx, hh⟩ := own_key hM.out.1 hz
        rw [hM.out.2.has x hx] at hh
        obtain ⟨s, hs⟩ := Option.isSome_iff_exists.1 hh
        obtain ⟨h1, _⟩ := HOKM.out x s hs
        have h2 := h0 (x - sp.lo).toNat (by unfold spN; omega)
        rw [show sp.lo + (((x - sp.lo).toNat : Nat) : Int) = x by omega, hs] at h2
        cases h2⟩
       have HE2 : Aside0 (msE st wg = 0) := ⟨by rw [msE, if_pos HE.out, if_neg HZ.out]⟩
       have HS2 : Aside0 (msS st wg = totS (msAll st wg)) := ⟨by rw [msS, HE2.out]; rfl⟩
       have hzi : (((Maps.size D : Nat) : Int) == 0) = false := beq_eq_false_iff_ne.2 (by omega)
       obtain ⟨wo, rfl⟩ : ∃ wo, wo = wr := ⟨_, rfl⟩
       have HV1 : Aside0 (Up wo (wo.alloc (.cells #[.int .i64 400, .int .i64 0] 100))) := ⟨(Up.refl wo).alloc _⟩
       have HU1' := Aside0.mk (hU.out.then HV1.out)
       have HB2 := Aside0.mk (hB2.out.up HV1.out)
       have HB15 : Aside0 (Bx (wo.alloc (.cells #[.int .i64 400, .int .i64 0] 100)) wo.heap.size #[.int .i64 400, .int .i64 0] 100) := ⟨Bx.new wo _ _⟩
       have hM3 := hM.out.1.alloc (.cells #[.int .i64 400, .int .i64 0] 100)
       have hrz : (wo.alloc (.cells #[.int .i64 400, .int .i64 0] 100)).heap.size = wo.heap.size + 1 := by simp
       go_wp2_with (first | (at_len; refine wpList_len_own _ rfl _ 111 rfl 3 100 Tryd.underlying111 R_S b n D rfl hM.out.1 ?_) | (at_range; refine wpList_range_own _ rfl _ 111 rfl 3 100 kInt Tryd.underlying111 R_S b n D rfl hM3 ?_; intro w0 hrg0 hg0 hs0) | go_in)
       (try go_frame)
       rw [hrz] at hrg0 hs0 ⊢
       obtain ⟨r, hrr⟩ : ∃ r, r = wo.heap.size + 1 := ⟨_, rfl⟩
       rw [← hrr] at hrg0 hs0 ⊢
       obtain ⟨B15, hB15⟩ : ∃ b, b = wo.heap.size := ⟨_, rfl⟩
       rw [← hB15] at HB15 ⊢
       have HRG : Aside0 (w0.ranges Tryd.prog 3 R_S b r n D (Maps.has D) (Maps.size D)) := ⟨hrg0⟩
       have HB2 := Aside0.mk (bx_none HB2.out hg0)
       have HB15 := Aside0.mk (bx_none HB15.out hg0)
       have HU0' := Aside0.mk (up_none HU1'.out hg0)
       have HNE : Aside0 (w.heap.size ≤ r ∧ r ≠ b ∧ w.heap.size ≤ B15 ∧ B15 ≠ b ∧ B15 ≠ w.heap.size + 1) := ⟨by have := hU.out.le; omega, by have := hM.out.1.lt; omega, by have := hU.out.le; omega, by have := hM.out.1.lt; omega, by have := hB2.out.lt; omega⟩
       have HNE2 : Aside0 (r ≠ B15) := ⟨by omega⟩
       have HMf := Aside0.mk hM.out.2
       have HP0 : Aside0 (tL sp M (Maps.has D) = none) := ⟨tL_start (fun j hj => hM.out.2.has _ (wf_small (by unfold spN at hj; omega)))⟩
       clear hrg0 hg0 hs0 hrr hB15 hM hB2 hB4 hU hM3 hrz HV1 HU1' hz hzi; go_loopw [17] (fun _ wr => ∃ (left : Lit → Bool) (cnt : Nat), Aside0 (wr.ranges Tryd.prog 3 R_S b r n D left cnt) ∧ Aside0 (Bx wr (w.heap.size + 1) #[.int .i64 0, .int .i64 0] 41) ∧ Aside0 (Bx wr B15 #[.int .i64 (totS (tL sp M left)).lo, .int .i64 (totS (tL sp M left)).hi] 100) ∧ Aside0 (Up w wr)) (fun _ wr => wr.rangeLeft b r)
       case atStart => exact ⟨_, _, HRG, HB2, ⟨by rw [HP0.out]; exact HB15.out⟩, HU0'⟩
       case round =>
        clear HRG HP0 HB2 HB15 HU0'; obtain ⟨left, cnt, hrg, hB2, hB15, hU⟩ := hrel
        obtain ⟨wp, rfl⟩ : ∃ wp, wp = wr := ⟨_, rfl⟩
        go_wp2_with (first | (at_next; refine wpList_next_ranges _ rfl _ rfl 3 kInt R_S (Value.int .i64) eS (fun key kl h => by obtain ⟨x, hx, _⟩ := Maps.keyOf_int_inv Tryd.underlying3 h; exact ⟨x, hx⟩) R_S_inv b r n D left cnt rfl hrg.out ?_ ?_) | go_in)
        ·intro hc0 hl0
         have HT : Aside0 (tL sp M left = msAll st wg) := ⟨by rw [HAL.out]; exact tL_end hl0⟩
         rw [HT.out] at hB15
         have hq15 := hB15.out.cell
         obtain ⟨u, hu⟩ : ∃ u, u = totS (msAll st wg) := ⟨_, rfl⟩
         rw [← hu] at hq15 HS2
         clear hc0 hl0 hu hrg; go_wp2_with fail
         refine (span_ u _).mono ?_
         clear hq15; rintro e w6 ⟨rfl, hb⟩
         have HU6 := Aside0.mk (hU.out.then hb)
         have HB6 := Aside0.mk (hB2.out.up hb)
         have hq2 := HB6.out.cell; have hf2 := HB6.out.frozen
         clear hb hB15; go_wp2_with fail
         have HB5 := Aside0.mk ((HB6.out.set 0 (.int .i64 u.lo)).set 1 (.int .i64 u.hi))
         have HU5 := Aside0.mk ((HU6.out.set ⟨w.heap.size + 1, 0, none⟩ (.int .i64 u.lo) (by simp)).set ⟨w.heap.size + 1, 1, none⟩ (.int .i64 u.hi) (by simp))
         have hq5 := HB5.out.cell
         refine bodyPost_ret (v := .tuple #[.agg #[.int .i64 u.lo, .int .i64 u.hi], .int .i64 0]) ?_ rfl ⟨by rw [HE2.out, HS2.out], HU5.out⟩
         clear hq2 hf2; simp [results, Tryd.results29, go_sem, hq5]
        ·intro x c1 kl y1 y2 w1' cnt1 hkey hlk hv hat hrg1 hlt1 hg1 hs1 hen
         obtain ⟨x', ex, rfl, hwx⟩ := Maps.keyOf_int_inv Tryd.underlying3 hkey
         cases ex
         have hMx := entry_is HMf.out hwx hv hat
         obtain ⟨hxr, _⟩ := HOKM.out x c1 hMx
         have hen2 : (Instr.entry (.pointer (some ⟨r, 0, none⟩))).run Tryd.prog w1' = .ok (.tuple #[.int .i64 x, .agg #[.int .i64 c1.lo, .int .i64 c1.hi]]) w1' := hen
         obtain ⟨left', hleft⟩ : ∃ l : Lit → Bool, l = (fun z => left z && !z.sameKey (.int .i64 x)) := ⟨_, rfl⟩
         have HT : Aside0 (totS (tL sp M left') = ⟨min (totS (tL sp M left)).lo c1.lo, max (totS (tL sp M left)).hi c1.hi⟩) := ⟨by rw [hleft, tL_step hwx hxr.1 hxr.2 hlk, hMx, totS_mo]⟩
         rw [← hleft] at hrg1
         have HB2a := Aside0.mk (bx_iter hB2.out hrg.out hg1)
         have HB15a := Aside0.mk (bx_iter hB15.out hrg.out hg1)
         have HUa := Aside0.mk (up_some hU.out HNE.out.1 hg1)
         have HRGa := Aside0.mk hrg1
         have HLE := Aside0.mk hrg.out.left_eq
         generalize totS (tL sp M left) = u at *
         have HV5 : Aside0 (Up w1' (w1'.alloc (.cells #[.int .i64 c1.lo, .int .i64 c1.hi] 100))) := ⟨(Up.refl _).alloc _⟩
         have HB17 : Aside0 (Bx (w1'.alloc (.cells #[.int .i64 c1.lo, .int .i64 c1.hi] 100)) w1'.heap.size #[.int .i64 c1.lo, .int .i64 c1.hi] 100) := ⟨Bx.new w1' _ _⟩
         have HB15b := Aside0.mk (HB15a.out.up HV5.out)
         have hq15 := HB15a.out.cell; have hf15 := HB15a.out.frozen; have hq17 := HB17.out.cell
         have hfw : B15 < w1'.heap.size := HB15a.out.lt
         clear hkey hlk hv hat hrg1 hg1 hs1 hen hwx hMx hleft hB2 hB15 hU hrg; go_wp2_with fail
         go_roundw
         case rel =>
          refine ⟨left', cnt1, ⟨?_⟩, ⟨((HB2a.out.far (by have := HNE.out; omega) _ _).far (by have := HNE.out; omega) _ _).up ((Up.refl _).alloc _)⟩, ⟨by rw [HT.out]; exact ((HB15a.out.set 0 _).set 1 _).up ((Up.refl _).alloc _)⟩, ⟨((HUa.out.set _ _ HNE.out.2.2.1).set _ _ HNE.out.2.2.1).alloc _⟩⟩
          exact ((HRGa.out.kept (grown_set B15 0 _) (by have := HNE.out; intro e; cases e; omega) (by have := HNE2.out; intro e; cases e; omega)).kept (grown_set B15 1 _) (by have := HNE.out; intro e; cases e; omega) (by have := HNE2.out; intro e; cases e; omega)).alloc _
         case measure =>
          have h9 := ((HRGa.out.kept (grown_set B15 0 (.int .i64 (min u.lo c1.lo))) (by have := HNE.out; intro e; cases e; omega) (by have := HNE2.out; intro e; cases e; omega)).kept (grown_set B15 1 (.int .i64 (max u.hi c1.hi))) (by have := HNE.out; intro e; cases e; omega) (by have := HNE2.out; intro e; cases e; omega)).alloc (.cells #[.int .i64 c1.lo, .int .i64 c1.hi] 100)
          rw [h9.left_eq, HLE.out]
          exact hlt1
 ·have hd : (roadE st wg != 0) = true := by simp [he]
  have HE2 : Aside0 (msE st wg = roadE st wg) := ⟨by simp [msE, he]⟩
  have HS2 : Aside0 (msS st wg = ⟨0, 0⟩) := ⟨by simp [msS, HE2.out, he]⟩
  clear he hbe; have hq2 := HB3.out.cell
  have hf2 := HB3.out.frozen
  go_wp2_with fail
  have HB5 := Aside0.mk ((HB3.out.set 0 (.int .i64 0)).set 1 (.int .i64 0))
  have HU5 := Aside0.mk ((HU1.out.set ⟨w.heap.size + 1, 0, none⟩ (.int .i64 0) (by simp)).set ⟨w.heap.size + 1, 1, none⟩ (.int .i64 0) (by simp))
  have hq5 := HB5.out.cell
  refine bodyPost_ret (v := .tuple #[.agg #[.int .i64 0, .int .i64 0], .int .i64 (roadE st wg)]) ?_ rfl ⟨by rw [HE2.out, HS2.out], HU5.out⟩
  clear hq2 hf2; simp [results, Tryd.results29, go_sem, hq5]
end Go.Proofs.YtemingmeidmjkaaDoor.Q
namespace Go.Proofs.YtemingmeidmjkaaDoor.Q
open Go.RowKit Go.Proofs.YtemingmeidmjkaaDoorW.PrintWords Go.Proofs.YtemingmeidmjkaaDoorW.PrintLast Go.Proofs.YtemingmeidmjkaaDoorW.PrintMore
attribute [local go_sem] max2_int min2_int max_two min_two max_three min_three max_four min_four   -- for this text's walks alone
set_option linter.unusedVariables false
set_option linter.unusedSimpArgs false
theorem eqA41 (d : Nat) (w : World) (x0 y0 : Int) (x1 y1 : Int) :
  (Op.equalIn (d + 2) 41 (.agg #[.int .i64 x0, .int .i64 x1]) (.agg #[.int .i64 y0, .int .i64 y1])).run Tryd.prog w = .ok (x0 == y0 && (x1 == y1)) w := by
 refine eqA_of Tryd.underlying41 (by kernel_rfl) ?_
 refine eqf_cons (by rfl) (by go_simp; rfl) (by go_simp; rfl) (by go_simp) ?_
 exact eqf_last (by rfl) (by go_simp; rfl) (by go_simp; rfl) (by go_simp)
end Go.Proofs.YtemingmeidmjkaaDoor.Q
namespace Go.Proofs.YtemingmeidmjkaaDoor.Q
open Go.RowKit Go.Proofs.YtemingmeidmjkaaDoorW.PrintWords Go.Proofs.YtemingmeidmjkaaDoorW.PrintLast Go.Proofs.YtemingmeidmjkaaDoorW.PrintMore
attribute [local go_sem] max2_int min2_int max_two min_two max_three min_three max_four min_four   -- for this text's walks alone
set_option linter.unusedVariables false
set_option linter.unusedSimpArgs false
attribute [local go_sem high] eqA41
def rf_Spans.l0 : Nat → List (S41) → List (S41) → Int → Option (Bool)
 | 0, _, _, _ => none
 | k + 1, x0, x1, x5 => if x5 < (x0.length : Int) then (if 0 ≤ x5 then (if x5 < (x1.length : Int) then (if (!(((rd_T41 x0 x5).f0) == ((rd_T41 x1 x5).f0)) || (!(((rd_T41 x0 x5).f1) == ((rd_T41 x1 x5).f1)))) = true then (some false) else (rf_Spans.l0 k x0 x1 (wrap64 (x5 + 1)))) else (none)) else (none)) else (some true)
def rf_Spans.f (k : Nat) (l0 : List (S41)) (l1 : List (S41)) : Option (Bool) := if (l0.length : Int) = (l1.length : Int) then (rf_Spans.l0 k l0 l1 0) else (some false)
set_option maxHeartbeats 8000000 in
set_option maxRecDepth 100000 in
theorem rf_Spans.calls (k : Nat) (A0 : Option Addr) (c0 : Nat) (l0 : List (S41)) (A1 : Option Addr) (c1 : Nat) (l1 : List (S41)) (r : Bool) (w : World) (hr0 : Kd.C k41 w A0 l0.length l0) (hc0 : l0.length ≤ c0) (hr1 : Kd.C k41 w A1 l1.length l1) (hc1 : l1.length ≤ c1) (h : rf_Spans.f k l0 l1 = some r) :
  Calls Tryd.prog 26 #[.slice A0 l0.length c0, .slice A1 l1.length c1] w fun e w' => e = .returned (.bool r) ∧ Drawn0 w w' := by
 have hu41 := Tryd.underlying41
 have HR0 := Aside0.mk hr0
 have HC0 := Aside0.mk hc0
 clear hr0 hc0; have HR1 := Aside0.mk hr1
 have HC1 := Aside0.mk hc1
 clear hr1 hc1; have H : (if (l0.length : Int) = (l1.length : Int) then (rf_Spans.l0 k l0 l1 0) else (some false)) = some r := h
 clear h
 by_cases c3 : (l0.length : Int) = (l1.length : Int)
 ·rw [if_pos c3] at H
  have c3b0 : ((l0.length : Int) == (l1.length : Int)) = true := beq_iff_eq.mpr c3
  have c3b1 : ((l0.length : Int) != (l1.length : Int)) = false := bne_eq_false_iff_eq.mpr c3
  have c3b2 : (l0.length == l1.length) = true := by first | simpa using c3 | (simp at c3 ⊢; omega)
  clear c3; have H' := Aside0.mk H
  clear H; go_enter Tryd.func26, Tryd.ntmps26
  go_wp2
  repeat (go_quiet (fail); try go_wp2)
  go_loopg [5] k (fun kq v5 w' => ∃ (x5_1 : Int), v5 = .int .i64 x5_1 ∧ Aside0 (rf_Spans.l0 kq l0 l1 x5_1 = some r) ∧ Aside0 (kq ≤ k) ∧ Drawn0 w w')
  case atStart => exact ⟨(0), (by first | rfl | (simp; done) | (simp [*]; done)), H', ⟨Nat.le_refl _⟩, by repeat (first | exact Drawn0.refl _ | apply Drawn0.step)⟩
  case round =>
   clear H'; try clear c1
   try clear c2
   try clear p2
   try clear c3
   try clear c3b0
   try clear c3b1
   try clear c3b2
   obtain ⟨x5_1, rfl, HA, HK1, ⟨m1, rfl⟩⟩ := hrel
   cases gk with
   | zero => exact absurd HA.out (by simp [rf_Spans.l0])
   | succ k1 =>
    have H := HA.out
    clear HA; simp only [rf_Spans.l0] at H
    by_cases c4 : x5_1 < (l0.length : Int)
    ·rw [if_pos c4] at H
     have c4b0 : decide (x5_1 < (l0.length : Int)) = true := decide_eq_true c4
     clear c4
     by_cases c5 : 0 ≤ x5_1
     ·rw [if_pos c5] at H
      have c5b0 : decide (0 ≤ x5_1) = true := decide_eq_true c5
      clear c5
      by_cases c6 : x5_1 < (l1.length : Int)
      ·rw [if_pos c6] at H
       have c6b0 : decide (x5_1 < (l1.length : Int)) = true := decide_eq_true c6
       clear c6
       by_cases c7 : (!(((rd_T41 l0 x5_1).f0) == ((rd_T41 l1 x5_1).f0)) || (!(((rd_T41 l0 x5_1).f1) == ((rd_T41 l1 x5_1).f1)))) = true
       ·rw [if_pos c7] at H
        have c7b0 : (!(((rd_T41 l0 x5_1).f0) == ((rd_T41 l1 x5_1).f0)) || (!(((rd_T41 l0 x5_1).f1) == ((rd_T41 l1 x5_1).f1)))) = true := c7
        clear c7; obtain rfl := Option.some.inj H
        have p176 : 0 ≤ (x5_1 : Int) := of_decide_eq_true (by first | (with_reducible assumption) | assumption)
        have q176 : x5_1 < (l0.length : Int) := of_decide_eq_true (by first | (with_reducible assumption) | assumption)
        obtain ⟨ad176, e176, hx176_0, hx176_1⟩ := at_T41 HR0.out x5_1 p176 q176
        cases e176
        replace p176 := eq_true p176
        replace q176 := eq_true q176
        have p177 : 0 ≤ (x5_1 : Int) := of_decide_eq_true (by first | (with_reducible assumption) | assumption)
        have q177 : x5_1 < (l1.length : Int) := of_decide_eq_true (by first | (with_reducible assumption) | assumption)
        obtain ⟨ad177, e177, hx177_0, hx177_1⟩ := at_T41 HR1.out x5_1 p177 q177
        cases e177
        replace p177 := eq_true p177
        replace q177 := eq_true q177
        go_wp2
        repeat (go_quiet (fail); try go_wp2)
        go_ret
        exact ⟨by first | rfl | (simp; done) | (simp [*]; done), by repeat (first | exact Drawn0.refl _ | apply Drawn0.step)⟩
       ·rw [if_neg c7] at H
        have c7b0 : (!(((rd_T41 l0 x5_1).f0) == ((rd_T41 l1 x5_1).f0)) || (!(((rd_T41 l0 x5_1).f1) == ((rd_T41 l1 x5_1).f1)))) = false := by simpa using c7
        clear c7; have H' := Aside0.mk H
        clear H; have p176 : 0 ≤ (x5_1 : Int) := of_decide_eq_true (by first | (with_reducible assumption) | assumption)
        have q176 : x5_1 < (l0.length : Int) := of_decide_eq_true (by first | (with_reducible assumption) | assumption)
        obtain ⟨ad176, e176, hx176_0, hx176_1⟩ := at_T41 HR0.out x5_1 p176 q176
        cases e176
        replace p176 := eq_true p176
        replace q176 := eq_true q176
        have p177 : 0 ≤ (x5_1 : Int) := of_decide_eq_true (by first | (with_reducible assumption) | assumption)
        have q177 : x5_1 < (l1.length : Int) := of_decide_eq_true (by first | (with_reducible assumption) | assumption)
        obtain ⟨ad177, e177, hx177_0, hx177_1⟩ := at_T41 HR1.out x5_1 p177 q177
        cases e177
        replace p177 := eq_true p177
        replace q177 := eq_true q177
        go_wp2
        repeat (go_quiet (fail); try go_wp2)
        go_roundg k1
        case measure => have := HK1.out; omega
        case rel => exact ⟨(wrap64 (x5_1 + 1)), (by first | rfl | (simp; done) | (simp [*]; done)), H', ⟨by have := HK1.out; omega⟩, by repeat (first | exact Drawn0.refl _ | apply Drawn0.step)⟩
      ·rw [if_neg c6] at H
       exact absurd H (by simp)
     ·rw [if_neg c5] at H
      exact absurd H (by simp)
    ·rw [if_neg c4] at H
     have c4b0 : decide (x5_1 < (l0.length : Int)) = false := decide_eq_false c4
     clear c4; obtain rfl := Option.some.inj H
     go_wp2
     repeat (go_quiet (fail); try go_wp2)
     go_ret
     exact ⟨by first | rfl | (simp; done) | (simp [*]; done), by repeat (first | exact Drawn0.refl _ | apply Drawn0.step)⟩
 ·rw [if_neg c3] at H
  have c3b0 : ((l0.length : Int) == (l1.length : Int)) = false := beq_eq_false_iff_ne.mpr c3
  have c3b1 : ((l0.length : Int) != (l1.length : Int)) = true := bne_iff_ne.mpr c3
  have c3b2 : (l0.length == l1.length) = false := by first | simpa using c3 | (simp at c3 ⊢; omega)
  obtain rfl := Option.some.inj H
  go_enter Tryd.func26, Tryd.ntmps26
  go_wp2
  repeat (go_quiet (fail); try go_wp2)
  go_ret
  exact ⟨by first | rfl | (simp; done) | (simp [*]; done), by repeat (first | exact Drawn0.refl _ | apply Drawn0.step)⟩
end Go.Proofs.YtemingmeidmjkaaDoor.Q
namespace Go.Proofs.YtemingmeidmjkaaDoor.Q
open Go.RowKit Go.Proofs.YtemingmeidmjkaaDoorW.PrintWords Go.Proofs.YtemingmeidmjkaaDoorW.PrintLast Go.Proofs.YtemingmeidmjkaaDoorW.PrintMore
attribute [local go_sem] max2_int min2_int max_two min_two max_three min_three max_four min_four   -- for this text's walks alone
set_option linter.unusedVariables false
set_option linter.unusedSimpArgs false
def rf_Ints.l0 : Nat → List Int → List Int → Int → Option (Bool)
 | 0, _, _, _ => none
 | k + 1, x0, x1, x5 => if x5 < (x0.length : Int) then (if 0 ≤ x5 then (if x5 < (x1.length : Int) then (if (rd x0 x5) = (rd x1 x5) then (rf_Ints.l0 k x0 x1 (wrap64 (x5 + 1))) else (some false)) else (none)) else (none)) else (some true)
def rf_Ints.f (k : Nat) (l0 : List Int) (l1 : List Int) : Option (Bool) := if (l0.length : Int) = (l1.length : Int) then (rf_Ints.l0 k l0 l1 0) else (some false)
set_option maxHeartbeats 8000000 in
set_option maxRecDepth 100000 in
theorem rf_Ints.calls (k : Nat) (A0 : Option Addr) (c0 : Nat) (l0 : List Int) (A1 : Option Addr) (c1 : Nat) (l1 : List Int) (r : Bool) (w : World) (hr0 : Kd.C (Kd.int .i64) w A0 l0.length l0) (hc0 : l0.length ≤ c0) (hr1 : Kd.C (Kd.int .i64) w A1 l1.length l1) (hc1 : l1.length ≤ c1) (h : rf_Ints.f k l0 l1 = some r) :
  Calls Tryd.prog 34 #[.slice A0 l0.length c0, .slice A1 l1.length c1] w fun e w' => e = .returned (.bool r) ∧ Drawn0 w w' := by
 have HR0 := Aside0.mk hr0
 have HC0 := Aside0.mk hc0
 clear hr0 hc0; have HR1 := Aside0.mk hr1
 have HC1 := Aside0.mk hc1
 clear hr1 hc1; have H : (if (l0.length : Int) = (l1.length : Int) then (rf_Ints.l0 k l0 l1 0) else (some false)) = some r := h
 clear h
 by_cases c3 : (l0.length : Int) = (l1.length : Int)
 ·rw [if_pos c3] at H
  have c3b0 : ((l0.length : Int) == (l1.length : Int)) = true := beq_iff_eq.mpr c3
  have c3b1 : ((l0.length : Int) != (l1.length : Int)) = false := bne_eq_false_iff_eq.mpr c3
  have c3b2 : (l0.length == l1.length) = true := by first | simpa using c3 | (simp at c3 ⊢; omega)
  clear c3; have H' := Aside0.mk H
  clear H; go_enter Tryd.func34, Tryd.ntmps34
  go_wp2
  repeat (go_quiet (fail); try go_wp2)
  go_loopg [5] k (fun kq v5 w' => ∃ (x5_1 : Int), v5 = .int .i64 x5_1 ∧ Aside0 (rf_Ints.l0 kq l0 l1 x5_1 = some r) ∧ Aside0 (kq ≤ k) ∧ Drawn0 w w')
  case atStart => exact ⟨(0), (by first | rfl | (simp; done) | (simp [*]; done)), H', ⟨Nat.le_refl _⟩, by repeat (first | exact Drawn0.refl _ | apply Drawn0.step)⟩
  case round =>
   clear H'; try clear c1
   try clear p2
   try clear c3
   try clear c3b0
   try clear c3b1
   try clear c3b2
   obtain ⟨x5_1, rfl, HA, HK1, ⟨m1, rfl⟩⟩ := hrel
   cases gk with
   | zero => exact absurd HA.out (by simp [rf_Ints.l0])
   | succ k1 =>
    have H := HA.out
    clear HA; simp only [rf_Ints.l0] at H
    by_cases c4 : x5_1 < (l0.length : Int)
    ·rw [if_pos c4] at H
     have c4b0 : decide (x5_1 < (l0.length : Int)) = true := decide_eq_true c4
     clear c4
     by_cases c5 : 0 ≤ x5_1
     ·rw [if_pos c5] at H
      have c5b0 : decide (0 ≤ x5_1) = true := decide_eq_true c5
      clear c5
      by_cases c6 : x5_1 < (l1.length : Int)
      ·rw [if_pos c6] at H
       have c6b0 : decide (x5_1 < (l1.length : Int)) = true := decide_eq_true c6
       clear c6
       by_cases c7 : (rd l0 x5_1) = (rd l1 x5_1)
       ·rw [if_pos c7] at H
        have c7b0 : ((rd l0 x5_1) == (rd l1 x5_1)) = true := beq_iff_eq.mpr c7
        have c7b1 : ((rd l0 x5_1) != (rd l1 x5_1)) = false := bne_eq_false_iff_eq.mpr c7
        clear c7; have H' := Aside0.mk H
        clear H; have p379 : 0 ≤ (x5_1 : Int) := of_decide_eq_true (by first | (with_reducible assumption) | assumption)
        have q379 : x5_1 < (l0.length : Int) := of_decide_eq_true (by first | (with_reducible assumption) | assumption)
        obtain ⟨ad379, e379, hx379_0⟩ := Kd.at_int HR0.out x5_1 p379 q379
        cases e379
        replace p379 := eq_true p379
        replace q379 := eq_true q379
        have p380 : 0 ≤ (x5_1 : Int) := of_decide_eq_true (by first | (with_reducible assumption) | assumption)
        have q380 : x5_1 < (l1.length : Int) := of_decide_eq_true (by first | (with_reducible assumption) | assumption)
        obtain ⟨ad380, e380, hx380_0⟩ := Kd.at_int HR1.out x5_1 p380 q380
        cases e380
        replace p380 := eq_true p380
        replace q380 := eq_true q380
        go_wp2
        repeat (go_quiet (fail); try go_wp2)
        go_roundg k1
        case measure => have := HK1.out; omega
        case rel => exact ⟨(wrap64 (x5_1 + 1)), (by first | rfl | (simp; done) | (simp [*]; done)), H', ⟨by have := HK1.out; omega⟩, by repeat (first | exact Drawn0.refl _ | apply Drawn0.step)⟩
       ·rw [if_neg c7] at H
        have c7b0 : ((rd l0 x5_1) == (rd l1 x5_1)) = false := beq_eq_false_iff_ne.mpr c7
        have c7b1 : ((rd l0 x5_1) != (rd l1 x5_1)) = true := bne_iff_ne.mpr c7
        obtain rfl := Option.some.inj H
        have p379 : 0 ≤ (x5_1 : Int) := of_decide_eq_true (by first | (with_reducible assumption) | assumption)
        have q379 : x5_1 < (l0.length : Int) := of_decide_eq_true (by first | (with_reducible assumption) | assumption)
        obtain ⟨ad379, e379, hx379_0⟩ := Kd.at_int HR0.out x5_1 p379 q379
        cases e379
        replace p379 := eq_true p379
        replace q379 := eq_true q379
        have p380 : 0 ≤ (x5_1 : Int) := of_decide_eq_true (by first | (with_reducible assumption) | assumption)
        have q380 : x5_1 < (l1.length : Int) := of_decide_eq_true (by first | (with_reducible assumption) | assumption)
        obtain ⟨ad380, e380, hx380_0⟩ := Kd.at_int HR1.out x5_1 p380 q380
        cases e380
        replace p380 := eq_true p380
        replace q380 := eq_true q380
        go_wp2
        repeat (go_quiet (fail); try go_wp2)
        go_ret
        exact ⟨by first | rfl | (simp; done) | (simp [*]; done), by repeat (first | exact Drawn0.refl _ | apply Drawn0.step)⟩
      ·rw [if_neg c6] at H
       exact absurd H (by simp)
     ·rw [if_neg c5] at H
      exact absurd H (by simp)
    ·rw [if_neg c4] at H
     have c4b0 : decide (x5_1 < (l0.length : Int)) = false := decide_eq_false c4
     clear c4; obtain rfl := Option.some.inj H
     go_wp2
     repeat (go_quiet (fail); try go_wp2)
     go_ret
     exact ⟨by first | rfl | (simp; done) | (simp [*]; done), by repeat (first | exact Drawn0.refl _ | apply Drawn0.step)⟩
 ·rw [if_neg c3] at H
  have c3b0 : ((l0.length : Int) == (l1.length : Int)) = false := beq_eq_false_iff_ne.mpr c3
  have c3b1 : ((l0.length : Int) != (l1.length : Int)) = true := bne_iff_ne.mpr c3
  have c3b2 : (l0.length == l1.length) = false := by first | simpa using c3 | (simp at c3 ⊢; omega)
  obtain rfl := Option.some.inj H
  go_enter Tryd.func34, Tryd.ntmps34
  go_wp2
  repeat (go_quiet (fail); try go_wp2)
  go_ret
  exact ⟨by first | rfl | (simp; done) | (simp [*]; done), by repeat (first | exact Drawn0.refl _ | apply Drawn0.step)⟩
end Go.Proofs.YtemingmeidmjkaaDoor.Q
namespace Go.Proofs.YtemingmeidmjkaaDoor.Q
open Go.RowKit Go.Shelf Go.Proofs.YtemingmeidmjkaaDoorW.PrintWords Go.Proofs.YtemingmeidmjkaaDoorW.PrintLast
set_option linter.unusedVariables false
set_option linter.unusedSimpArgs false
theorem C_newK {α : Type} (d : Kd α) (enc : α → List Value) (hK : ∀ w x, d.K w x (enc x)) (hl : ∀ x, (enc x).length = d.sz) (w : World) (T : TypeId) (xs : List α) (cs : Array Value) (n b : Nat) (hb : b = w.heap.size) (hcs : cs = (xs.flatMap enc).toArray) (hn : n = xs.length) (hm : xs.length ≤ 9223372036854775807) :
  Kd.C d (w.alloc (.cells cs T)) (some ⟨b, 0, none⟩) n xs := by
 subst hcs hn hb
 refine ⟨rfl, hm, fun hp => ⟨_, rfl, fun j x hj => ⟨enc x, hl x, hK _ x, fun i u hu => ?_⟩⟩⟩
 have hi : i < d.sz := by rw [← hl x]; exact (List.getElem?_eq_some_iff.1 hu).1
 rw [add_plain, (Bx.new w _ T).cell, List.getElem?_toArray, flat_get enc d.sz hl xs j x i hj hi]
 exact hu
def encWg (x : Wg) : List Value := [.int .i64 x.p, .int .i64 x.r, .int .i64 x.o]
def encSp (x : Sp) : List Value := [.int .i64 x.lo, .int .i64 x.hi]
def encInt (x : Int) : List Value := [.int .i64 x]
theorem kspan_ (a b : Int) (w : World) : Calls Tryd.prog 52 #[.int .i64 a, .int .i64 b] w fun e w' => e = .returned (.agg #[.int .i64 a, .int .i64 b]) ∧ Up w w' := by
 go_enter Tryd.func52, Tryd.ntmps52
 go_wp2_with fail
 refine bodyPost_ret (v := .agg #[.int .i64 a, .int .i64 b]) ?_ rfl ⟨rfl, upA⟩
 simp [results, Tryd.results52, go_sem]
theorem own_C_Wg2 {w : World} {base e : Nat} {v : Value} {xs : List Wg} (h : w.ownsRow base e 3 v xs.length (cellsW xs)) (hm : xs.length ≤ 9223372036854775807) : ∃ A c, v = .slice A xs.length c ∧ xs.length ≤ c ∧ Kd.C kWg w A xs.length xs :=
 own_Kd kWg encWg (fun w x => kWg_mk w x) (fun _ => rfl) h hm
def exSt : List Sp := [⟨100, 200⟩, ⟨0, 50⟩]
def exWg (last : Int) (more : List Wg) : List Wg := [⟨0, 200, 2⟩, ⟨2, last, 1⟩] ++ more
set_option maxRecDepth 100000 in
theorem kroad_ (last : Int) (more : List Wg) (A : Option Addr) (m c : Nat) (w : World) (hr : Kd.C kWg w A m more) (hm : m ≤ 1) :
  Calls Tryd.prog 54 #[.int .i64 last, .slice A m c] w fun e w' => ∃ A1 A2 c2, e = .returned (.agg #[.slice A1 2 2, .slice A2 (2 + m) c2]) ∧ Kd.C kSp w' A1 2 exSt ∧ Kd.C kWg w' A2 (2 + m) (exWg last more) ∧ 2 + m ≤ c2 ∧ Up w w' := by
 have HR := Aside0.mk hr
 have hml : m = more.length := hr.1.symm
 have HML := Aside0.mk hml
 clear hr hml; have HB4 : Aside0 (Bx (w.alloc (.cells #[.slice none 0 0, .slice none 0 0] 25)) w.heap.size #[.slice none 0 0, .slice none 0 0] 25) := ⟨Bx.new w _ _⟩
 have HU0 : Aside0 (Up w (w.alloc (.cells #[.slice none 0 0, .slice none 0 0] 25))) := ⟨upA⟩
 go_enter Tryd.func54, Tryd.ntmps54
 go_wp2_with fail
 refine (kspan_ 100 200 _).mono ?_
 rintro e w1 ⟨rfl, hb⟩
 have HU1 := Aside0.mk (HU0.out.then hb)
 have HB1 := Aside0.mk (HB4.out.up hb)
 clear hb; go_wp2_with fail
 refine (kspan_ 0 50 _).mono ?_
 rintro e w2 ⟨rfl, hb⟩
 have HU2 := Aside0.mk (HU1.out.then hb)
 have HB2 := Aside0.mk (HB1.out.up hb)
 clear hb; obtain ⟨W3, hW3⟩ : ∃ W, W = ((w2.alloc (.cells #[.int .i64 100, .int .i64 200, .int .i64 0, .int .i64 50] 41)).alloc (.cells #[.int .i64 0, .int .i64 200, .int .i64 2, .int .i64 2, .int .i64 last, .int .i64 1] 80)) := ⟨_, rfl⟩
 have HV3 : Aside0 (Up w2 W3) := ⟨by rw [hW3]; exact ((Up.refl w2).alloc _).alloc _⟩
 have HU3 := Aside0.mk (HU2.out.then HV3.out)
 have HB3 := Aside0.mk (HB2.out.up HV3.out)
 have HOS : Aside0 (W3.ownsRow w.heap.size 41 2 (.slice (some ⟨w2.heap.size, 0, none⟩) 2 2) 2 (cellsS exSt)) := ⟨by rw [hW3]; exact own_up (World.ownsRow_lit w2 _ 2 HU2.out.le (by decide) rfl) ((Up.refl _).alloc _)⟩
 have HOW : Aside0 (W3.ownsRow w.heap.size 80 3 (.slice (some ⟨w2.heap.size + 1, 0, none⟩) 2 2) 2 (cellsW [⟨0, 200, 2⟩, ⟨2, last, 1⟩])) := ⟨by
  rw [hW3]
  have h9 := World.ownsRow_lit (e := 80) (size := 3) (base := w.heap.size) (w2.alloc (.cells #[.int .i64 100, .int .i64 200, .int .i64 0, .int .i64 50] 41)) #[.int .i64 0, .int .i64 200, .int .i64 2, .int .i64 2, .int .i64 last, .int .i64 1] 2 (Nat.le_trans HU2.out.le (by simp)) (by decide) rfl
  simpa [cellsW] using h9⟩
 have HRC : Aside0 (0 < m → ∃ ad', A = some ad' ∧ ∀ j u, (cellsW more)[j]? = some u → W3.cell? (ad'.add j) = some u) := ⟨fun h0 => by
  have h9 := cells_Kd kWg encWg (fun w x cs h => by rw [kWg_open h]; rfl) (fun _ => rfl) (by decide) (show Kd.C kWg W3 A more.length more from HML.out ▸ C_up HR.out HU3.out) (by have := HML.out; omega)
  exact h9⟩
 have HC1 : Aside0 (∀ u ∈ cellsW more, u.oneCell' = true) := ⟨flat_mem encWg (fun x u hu => by simp [encWg] at hu; rcases hu with rfl | rfl | rfl <;> rfl) more⟩
 have HLN : Aside0 ((cellsW more).length = m * 3) := ⟨by have h9 := flat_len encWg 3 (fun _ => rfl) more; rw [HML.out]; exact h9⟩
 have hb4 := HB3.out.cell; have hf4 := HB3.out.frozen; have hOW := HOW.out; have hRC := HRC.out
 rw [hW3] at hOW hRC
 have HOW' := Aside0.mk hOW
 have HRC' := Aside0.mk hRC
 have HSZ : Aside0 (w.heap.size ≤ ((w2.alloc (.cells #[.int .i64 100, .int .i64 200, .int .i64 0, .int .i64 50] 41)).alloc (.cells #[.int .i64 0, .int .i64 200, .int .i64 2, .int .i64 2, .int .i64 last, .int .i64 1] 80)).heap.size) := ⟨by have := HU2.out.le; simp; omega⟩
 clear hOW hRC hb4 hf4; go_wp2_with (at_builtin; refine append_all w.heap.size rfl _ _ 23 80 (.agg #[.int .i64 0, .int .i64 0, .int .i64 0]) 3 24 rfl Tryd.underlying23 info_wg rfl (by decide) (by decide) _ 2 (cellsW [⟨0, 200, 2⟩, ⟨2, last, 1⟩]) (cellsW more) A m c rfl rfl HOW'.out HLN.out HRC'.out HC1.out HSZ.out ?qa5 ?_)
 case qa5 => omega
 intro v3 w3 hown hgrow
 rw [← hW3] at hgrow
 have HU4 := Aside0.mk (HU3.out.grown HOW.out (Nat.le_refl _) hgrow)
 have HB4 := Aside0.mk (HB3.out.grown HOW.out (by decide) hgrow)
 have HS4 := Aside0.mk (own_grown HOS.out HOW.out (by decide) hgrow)
 have HO4 := Aside0.mk hown
 obtain ⟨A4, c4, rfl, hc4, _⟩ := ownF_slice hown
 clear hown hgrow hW3; have hb4 := HB4.out.cell
 have hf4 := HB4.out.frozen
 go_wp2_with fail
 have HU5 := Aside0.mk ((HU4.out.set ⟨w.heap.size, 0, none⟩ (.slice (some ⟨w2.heap.size, 0, none⟩) 2 2) (by simp)).set ⟨w.heap.size, 1, none⟩ (.slice A4 (2 + m) c4) (by simp))
 have HB5 := Aside0.mk ((HB4.out.set 0 (.slice (some ⟨w2.heap.size, 0, none⟩) 2 2)).set 1 (.slice A4 (2 + m) c4))
 have HS5 := Aside0.mk (own_far (own_far HS4.out HB4.out (by decide) 0 (.slice (some ⟨w2.heap.size, 0, none⟩) 2 2)) (HB4.out.set 0 (.slice (some ⟨w2.heap.size, 0, none⟩) 2 2)) (by decide) 1 (.slice A4 (2 + m) c4))
 have HO5 := Aside0.mk (own_far (own_far HO4.out HB4.out (by decide) 0 (.slice (some ⟨w2.heap.size, 0, none⟩) 2 2)) (HB4.out.set 0 (.slice (some ⟨w2.heap.size, 0, none⟩) 2 2)) (by decide) 1 (.slice A4 (2 + m) c4))
 have hq5 := HB5.out.cell
 obtain ⟨A6, c6, hv6, hc6, hC6⟩ := own_C_Sp (xs := exSt) HS5.out (by decide)
 cases hv6
 have HO6 : Aside0 (((w3.setCell ⟨w.heap.size, 0, none⟩ (.slice (some ⟨w2.heap.size, 0, none⟩) 2 2)).setCell ⟨w.heap.size, 1, none⟩ (.slice A4 (2 + m) c4)).ownsRow w.heap.size 80 3 (.slice A4 (2 + m) c4) (exWg last more).length (cellsW (exWg last more))) := ⟨by
  have h9 := HO5.out
  rw [← cellsW_append] at h9
  have e1 : (exWg last more).length = 2 + m := by rw [HML.out]; simp [exWg]; omega
  rw [e1]
  exact h9⟩
 obtain ⟨A7, c7, hv7, hc7, hC7⟩ := own_C_Wg2 HO6.out (by have := HML.out; simp [exWg]; omega)
 have e1 : (exWg last more).length = 2 + m := by rw [HML.out]; simp [exWg]; omega
 rw [e1] at hv7 hC7
 cases hv7
 refine bodyPost_ret (v := .agg #[.slice (some ⟨w2.heap.size, 0, none⟩) 2 2, .slice A4 (2 + m) c4]) ?_ rfl ⟨_, A4, c4, rfl, hC6, hC7, hc4, HU5.out⟩
 clear hb4 hf4; simp [results, Tryd.results54, go_sem, hq5]
end Go.Proofs.YtemingmeidmjkaaDoor.Q
namespace Go.Proofs.YtemingmeidmjkaaDoor.Q
open Go.RowKit Go.Shelf Go.Proofs.YtemingmeidmjkaaDoorW.PrintWords Go.Proofs.YtemingmeidmjkaaDoorW.PrintLast
set_option linter.unusedVariables false
set_option linter.unusedSimpArgs false
attribute [local go_sem] bi_max2 bi_min2 bi_max_two bi_min_two
def flkStep (t s2 x : Sp) (w : Int) : Sp := ⟨min x.lo (w - (andS ⟨loS t w, hiS t w⟩ s2).hi), max x.hi (w - (andS ⟨loS t w, hiS t w⟩ s2).lo)⟩
def flkN (t s s2 : Sp) (n : Nat) : Sp := (List.range n).foldl (fun x (j : Nat) => flkStep t s2 x (s.lo + (j : Int))) ⟨400, 0⟩
def flk (t s s2 : Sp) : Sp := flkN t s s2 (s.hi + 1 - s.lo).toNat
def flocksL (st : List Sp) (wg : List Wg) : List Sp := if ohE st wg = 0 then (List.range st.length).map fun (i : Nat) => flk (rdS st i) (rdS (honL st wg) i) (rdS (honL st wg) ((i + 1 : Nat) : Int)) else []
theorem flkN_succ (t s s2 : Sp) (n : Nat) : flkN t s s2 (n + 1) = flkStep t s2 (flkN t s s2 n) (s.lo + (n : Int)) := by
 simp only [flkN, List.range_succ, List.foldl_append, List.foldl_cons, List.foldl_nil]
def fullS (s : Sp) : Prop := 0 ≤ s.lo ∧ s.lo ≤ s.hi ∧ s.hi ≤ 400
theorem trimLo_ok (st after : Sp) : ∀ (n : Nat) (s : Sp), okS s → okS (trimLo st after n s)
 | 0, s, h => h
 | n + 1, s, h => by
  unfold trimLo
  split
  ·exact h
  ·split
   ·refine trimLo_ok st after n _ ?_
    unfold okS at *
    simp only
    omega
   ·exact h
theorem trimHi_ok (st after : Sp) : ∀ (n : Nat) (s : Sp), okS s → okS (trimHi st after n s)
 | 0, s, h => h
 | n + 1, s, h => by
  unfold trimHi
  split
  ·exact h
  ·split
   ·refine trimHi_ok st after n _ ?_
    unfold okS at *
    simp only
    omega
   ·exact h
theorem backS_ok (st : Sp) {s after : Sp} (hs : okS s) (ha : okS after) : okS (backS st s after) := by
 unfold backS
 split
 ·exact ha
 ·exact trimHi_ok _ _ _ _ (trimLo_ok _ _ _ _ hs)
theorem goL_ok : ∀ (ts l : List Sp), (∀ s ∈ l, okS s) → ∀ s ∈ goL ts l, okS s
 | [], [], h => by simp [goL]
 | [], s :: l, h => by simpa [goL] using h
 | t :: ts, [], h => by simp [goL]
 | t :: ts, s :: l, h => by
  have ih := goL_ok ts l (fun x hx => h x (by simp [hx]))
  intro x hx
  rw [goL, List.mem_cons] at hx
  rcases hx with rfl | hx
  ·refine backS_ok t (h s (by simp)) ?_
   cases hg : goL ts l with
   | nil => exact .inr ⟨by simp [z_Sp], by simp [z_Sp]⟩
   | cons y ys => exact ih y (by rw [hg]; simp)
  ·exact ih x hx
theorem honL_full {st : List Sp} {wg : List Wg} (h : ohE st wg = 0) : ∀ i : Nat, i ≤ st.length → fullS (rdS (honL st wg) i) := by
 intro i hi
 have h0 : roadE st wg = 0 := by
  unfold ohE at h
  by_cases h1 : roadE st wg = 0
  ·exact h1
  ·rw [if_neg h1] at h; exact absurd h h1
 have h1 : honB st wg = true := by
  unfold ohE at h
  rw [if_pos h0] at h
  cases hb : honB st wg
  ·rw [hb] at h; simp at h
  ·rfl
 have hlt : i < (honL st wg).length := by rw [honL_len]; omega
 rw [rdS_nat _ _ hlt]
 have hm := List.getElem_mem hlt
 have h2 := goL_ok st (comeL st wg) (comeL_ok (road_ok h0).1) _ hm
 have h3 : ¬ ((honL st wg)[i].lo > (honL st wg)[i].hi) := by
  unfold honB at h1
  simp only [Bool.not_eq_true', List.any_eq_false] at h1
  have := h1 _ hm
  simpa [noneB] using this
 unfold okS at h2
 unfold fullS
 omega
set_option maxRecDepth 100000 in
set_option maxHeartbeats 1000000 in
theorem flocks_ (A : Option Addr) (c : Nat) (st : List Sp) (A2 : Option Addr) (c2 : Nat) (wg : List Wg) (w : World) (hG : GL w) (hr : Kd.C kSp w A st.length st) (hc : st.length ≤ c) (hr2 : Kd.C kWg w A2 wg.length wg) (hc2 : wg.length ≤ c2) :
  Calls Tryd.prog 21 #[.agg #[.slice A st.length c, .slice A2 wg.length c2]] w fun e w' => ∃ v, e = .returned (.tuple #[v, .int .i64 (ohE st wg)]) ∧ w'.ownsRow w.heap.size 41 2 v (flocksL st wg).length (cellsS (flocksL st wg)) ∧ Up w w' := by
 have HR := Aside0.mk hr
 have HR2 := Aside0.mk hr2
 have HGL := Aside0.mk hG
 clear hr hr2 hG; have HU0 : Aside0 (Up w (w.alloc (.cells #[.slice A st.length c, .slice A2 wg.length c2] 25))) := ⟨upA⟩
 have hcall := openHonest_ A c st A2 c2 wg (w.alloc (.cells #[.slice A st.length c, .slice A2 wg.length c2] 25)) (HGL.out.up HU0.out) (C_up HR.out HU0.out) hc (C_up HR2.out HU0.out) hc2
 by_cases he : ohE st wg = 0
 ·have h0 : roadE st wg = 0 := by
   unfold ohE at he
   by_cases h1 : roadE st wg = 0
   ·exact h1
   ·rw [if_neg h1] at he; exact absurd he h1
  have hok := road_ok h0
  have hl5 := hok.2.2.1; have hl1 := hok.2.1
  have hd : (ohE st wg != 0) = false := by simp [he]
  have HOK := Aside0.mk hok.1
  have HFU := Aside0.mk (honL_full he)
  have HFL : Aside0 (flocksL st wg = (List.range st.length).map fun (i : Nat) => flk (rdS st i) (rdS (honL st wg) i) (rdS (honL st wg) ((i + 1 : Nat) : Int))) := ⟨by rw [flocksL, if_pos he]⟩
  have HOL : Aside0 (ohL st wg = honL st wg) := ⟨by rw [ohL, if_pos he]⟩
  have HE := Aside0.mk he
  clear hok h0 he; go_enter Tryd.func21, Tryd.ntmps21
  go_wp2_with fail
  generalize (w.alloc (.cells #[.slice A st.length c, .slice A2 wg.length c2] 25)) = W0 at *
  refine hcall.mono ?_
  clear hcall; rintro e w1 ⟨v1, rfl, hown, hb⟩
  rw [HOL.out] at hown
  obtain ⟨H, hH⟩ : ∃ H, H = honL st wg := ⟨_, rfl⟩
  have hHl : H.length = st.length + 1 := by rw [hH, honL_len]
  have hHl2 : (st.length : Int) < (H.length : Int) := by omega
  have HHL := Aside0.mk hHl
  rw [← hH] at hown HFU HFL
  have HH := Aside0.mk hH
  obtain ⟨g5, c5, rfl, hg5, hc5, _⟩ := Spc.ofOwn hown (by omega)
  have HU1 := Aside0.mk (HU0.out.then hb)
  have HC5 := Aside0.mk (own_mono hown HU0.out.le)
  clear hown hb hH hHl; have HB4 : Aside0 (Bx (w1.alloc (.cells #[.slice A st.length c, .slice A2 wg.length c2] 95)) w1.heap.size #[.slice A st.length c, .slice A2 wg.length c2] 95) := ⟨Bx.new w1 _ _⟩
  have HU4 : Aside0 (Up w (w1.alloc (.cells #[.slice A st.length c, .slice A2 wg.length c2] 95))) := ⟨HU1.out.alloc _⟩
  have HC4 := Aside0.mk (own_up HC5.out ((Up.refl w1).alloc (.cells #[.slice A st.length c, .slice A2 wg.length c2] 95)))
  go_wp2_with fail
  obtain ⟨B4, hB4⟩ : ∃ B, B = w1.heap.size := ⟨_, rfl⟩
  rw [← hB4] at HB4
  rw [← hB4]
  clear hB4; go_loopw [2, 23] (fun v2 i wr => ∃ k : Nat, k ≤ st.length ∧ i = .int .i64 k ∧ Aside0 (wr.ownsRow w.heap.size 41 2 v2 k (cellsS ((List.range k).map fun (i : Nat) => flk (rdS st i) (rdS H i) (rdS H ((i + 1 : Nat) : Int))))) ∧ Aside0 (wr.ownsRow w.heap.size 100 2 (.slice (some ⟨g5, 0, none⟩) H.length c5) H.length (cellsS H)) ∧ Aside0 (Bx wr B4 #[.slice A st.length c, .slice A2 wg.length c2] 95) ∧ Aside0 (Up w wr)) (fun _ i _ => st.length - (intOf i).toNat)
  case atStart => exact ⟨0, Nat.zero_le _, rfl, ⟨⟨by simp [cellsS], .inl ⟨rfl, rfl⟩⟩⟩, HC4, HB4, HU4⟩
  case round =>
   clear HC4 HB4 HU4; obtain ⟨k, hk, rfl, hO, hL5, hB, hU⟩ := hrel
   by_cases hlt : k < st.length
   ·have hfu := HFU.out k (by omega)
    have hfu2 := HFU.out (k + 1) (by omega)
    have hHl := HHL.out
    obtain ⟨⟨hx0, hx1⟩, hgz, _⟩ := own_cell2 hL5.out k (by omega)
    obtain ⟨⟨hy0, hy1⟩, _, _⟩ := own_cell2 hL5.out (k + 1) (by omega)
    clear hHl; obtain ⟨s, hs⟩ : ∃ s, s = rdS H (k : Nat) := ⟨_, rfl⟩
    obtain ⟨s2, hs2⟩ : ∃ s2, s2 = rdS H ((k + 1 : Nat) : Int) := ⟨_, rfl⟩
    rw [← hs] at hx0 hx1 hfu
    rw [← hs2] at hy0 hy1 hfu2
    have HS := Aside0.mk hs
    have HS2 := Aside0.mk hs2
    have hi0 : (0 : Int) ≤ (k : Int) := by omega
    have hi1 : (k : Int) < (H.length : Int) := by omega
    have hi2 : (k : Int) + 1 < (H.length : Int) := by omega
    have hi3 : (0 : Int) ≤ (k : Int) + 1 := by omega
    have hi4 : ((k : Int) + 1).toNat = k + 1 := by omega
    have hi5 : (k : Int) < (st.length : Int) := by omega
    have hwk : IntKind.i64.wrap ((k : Int) + 1) = (k : Int) + 1 := IntWalk.i64_in _ (by omega)
    obtain ⟨wo, rfl⟩ : ∃ wo, wo = wr := ⟨_, rfl⟩
    have HX : Aside0 (∀ W : World, Up wo W → (W.cell? ⟨g5, k * 2, none⟩ = some (.int .i64 s.lo) ∧ W.cell? ⟨g5, k * 2 + 1, none⟩ = some (.int .i64 s.hi)) ∧ (W.cell? ⟨g5, (k + 1) * 2, none⟩ = some (.int .i64 s2.lo) ∧ W.cell? ⟨g5, (k + 1) * 2 + 1, none⟩ = some (.int .i64 s2.hi))) := ⟨fun W hu => ⟨⟨hu.cell hx0, hu.cell hx1⟩, hu.cell hy0, hu.cell hy1⟩⟩
    have hX1 : ∀ C : Obj, (wo.alloc C).cell? ⟨g5, k * 2, none⟩ = some (.int .i64 s.lo) := fun C => (HX.out _ ((Up.refl wo).alloc C)).1.1
    have HB7 : Aside0 (Bx (wo.alloc (.cells #[.int .i64 400, .int .i64 0] 41)) wo.heap.size #[.int .i64 400, .int .i64 0] 41) := ⟨Bx.new wo _ _⟩
    have HU7 : Aside0 (Up wo (wo.alloc (.cells #[.int .i64 400, .int .i64 0] 41))) := ⟨(Up.refl wo).alloc _⟩
    clear hs hs2 hx0 hx1 hy0 hy1; go_wp2_with fail
    obtain ⟨B7, hB7⟩ : ∃ B, B = wo.heap.size := ⟨_, rfl⟩
    rw [← hB7] at HB7
    rw [← hB7]
    have HB7e := Aside0.mk (Nat.le_of_eq hB7.symm)
    clear hB7 hX1; have hb1 := hfu.1
    have hb2 := hfu.2.1; have hb3 := hfu.2.2; have hb4 := hfu2.1; have hb5 := hfu2.2.1; have hb6 := hfu2.2.2
    clear hfu hfu2; go_loopw [8] (fun v8 W => ∃ j : Nat, s.lo + (j : Int) ≤ s.hi + 1 ∧ v8 = .int .i64 (s.lo + (j : Int)) ∧ Aside0 (Bx W B7 #[.int .i64 (flkN (rdS st k) s s2 j).lo, .int .i64 (flkN (rdS st k) s s2 j).hi] 41) ∧ Aside0 (Up wo W)) (fun v8 _ => (s.hi + 1 - intOf v8).toNat)
    case atStart => exact ⟨0, by omega, by simp, HB7, HU7⟩
    case round =>
     obtain ⟨j, hj, rfl, hB7, hW⟩ := hrel
     obtain ⟨x, hx⟩ : ∃ x, x = s.lo + (j : Int) := ⟨_, rfl⟩
     rw [← hx] at hj
     rw [← hx]
     have HXJ := Aside0.mk hx
     clear hx; have hX := HX.out _ hW.out
     obtain ⟨⟨hX0, hX1⟩, hX2, hX3⟩ := hX
     by_cases hle : x ≤ s.hi
     ·have hx0 : 0 ≤ x := by have := HXJ.out; omega
      have hx4 : x ≤ 400 := by omega
      have HS4 : Aside0 (∀ W' : World, Up wr W' → W'.cell? ⟨B4, 0, none⟩ = some (.slice A st.length c) ∧ W'.cell? ⟨B4, 1, none⟩ = some (.slice A2 wg.length c2) ∧ W'.cell? ⟨g5, (k + 1) * 2, none⟩ = some (.int .i64 s2.lo) ∧ W'.cell? ⟨g5, (k + 1) * 2 + 1, none⟩ = some (.int .i64 s2.hi)) := ⟨fun W' hu => ⟨(hB.out.up (hW.out.then hu)).cell 0, (hB.out.up (hW.out.then hu)).cell 1, (HX.out _ (hW.out.then hu)).2.1, (HX.out _ (hW.out.then hu)).2.2⟩⟩
      have hok9 := HOK.out.at k (by omega) hi5
      have hp0 := loS_nn hok9 hx0
      have hq0 := hiS_le hok9 hx0
      have hpq := loS_hiS hok9 hx0
      have HLC : Aside0 (∀ W' : World, Up wr W' → Calls Tryd.prog 62 #[.agg #[.slice A st.length c, .slice A2 wg.length c2], .int .i64 (k : Int), .int .i64 x] W' fun e w' => e = .returned (.agg #[.int .i64 (loS (rdS st k) x), .int .i64 (hiS (rdS st k) x)]) ∧ Up W' w') := ⟨fun W' hu => left_ A c st A2 c2 wg k x W' (C_up HR.out (hU.out.then (hW.out.then hu))) hc (C_up HR2.out (hU.out.then (hW.out.then hu))) hc2 (by omega) hi5 (HOK.out.at k (by omega) hi5) ⟨hx0, hx4⟩⟩
      have hB7z : B7 < wr.heap.size := hB7.out.lt
      clear hok9; go_wp2_with fail
      clear hX0 hX1; have HFS : Aside0 (flkN (rdS st k) s s2 (j + 1) = flkStep (rdS st k) s2 (flkN (rdS st k) s s2 j) x) := ⟨by rw [flkN_succ, ← HXJ.out]⟩
      simp only [flkStep] at HFS
      generalize loS (rdS st k) x = p at *
      generalize hiS (rdS st k) x = q at *
      -- EV flocks
      refine start_ (n := 12) (S := fun W' => W'.cell? ⟨B4, 0, none⟩ = some (.slice A st.length c) ∧ W'.cell? ⟨B4, 1, none⟩ = some (.slice A2 wg.length c2) ∧ W'.cell? ⟨g5, (k + 1) * 2, none⟩ = some (.int .i64 s2.lo) ∧ W'.cell? ⟨g5, (k + 1) * 2 + 1, none⟩ = some (.int .i64 s2.hi)) (ds := [11]) #[false, false, false, false, false, false, false, false, false, false, false, false] (by kernel_rfl) rfl rfl (HS4.out _ (Up.refl wr).drew) (fun hHeld => ?_)
      refine pure_ (i := 1) (N := (some 42)) (v := ?_) (a' := ?_) #[false, true, false, false, false, false, false, false, false, false, false, false] rfl rfl (by kernel_rfl) (fun _ _ _ h => h) (Or.inl ⟨by rfl, ?_⟩) ?_ ?_
      rotate_left
      ·intro w'
       go_simp
       with_reducible rfl
      rotate_left
      ·simp only [Act.put, List.setIfInBounds_toArray, List.set_cons_zero, List.set_cons_succ, i64_w, i32_w]; rfl
      refine pure_ (i := 2) (N := (some 43)) (v := ?_) (a' := ?_) #[false, true, true, false, false, false, false, false, false, false, false, false] rfl rfl (by kernel_rfl) (fun _ _ _ h => h) (Or.inl ⟨by rfl, ?_⟩) ?_ ?_
      rotate_left
      ·intro w'
       go_simp
       with_reducible rfl
      rotate_left
      ·simp only [Act.put, List.setIfInBounds_toArray, List.set_cons_zero, List.set_cons_succ, i64_w, i32_w]; rfl
      refine pure_ (i := 4) (N := (some 45)) (v := ?_) (a' := ?_) #[false, true, true, false, true, false, false, false, false, false, false, false] rfl rfl (by kernel_rfl) (fun _ _ _ h => h) (Or.inl ⟨by rfl, ?_⟩) ?_ ?_
      rotate_left
      ·intro w'
       go_simp
       with_reducible rfl
      rotate_left
      ·simp only [Act.put, List.setIfInBounds_toArray, List.set_cons_zero, List.set_cons_succ, i64_w, i32_w]; rfl
      refine pure_ (i := 5) (N := (some 46)) (v := ?_) (a' := ?_) #[false, true, true, false, true, true, false, false, false, false, false, false] rfl rfl (by kernel_rfl) (fun _ _ _ h => h) (Or.inl ⟨by rfl, ?_⟩) ?_ ?_
      rotate_left
      ·intro w'
       go_simp
       with_reducible rfl
      rotate_left
      ·simp only [Act.put, List.setIfInBounds_toArray, List.set_cons_zero, List.set_cons_succ, i64_w, i32_w]; rfl
      refine pure_ (i := 6) (N := (some 47)) (v := ?_) (a' := ?_) #[false, true, true, false, true, true, true, false, false, false, false, false] rfl rfl (by kernel_rfl) (fun _ _ _ h => h) (Or.inl ⟨by rfl, ?_⟩) ?_ ?_
      rotate_left
      ·intro w'
       go_simp
       with_reducible rfl
      rotate_left
      ·simp only [Act.put, List.setIfInBounds_toArray, List.set_cons_zero, List.set_cons_succ, i64_w, i32_w]; rfl
      refine take_ (i := 0) (N := (some 41)) (v := ?_) (a' := ?_) #[true, true, true, false, true, true, true, false, false, false, false, false] rfl rfl (by kernel_rfl) (fun _ _ _ h => h) (Or.inl ⟨by rfl, ?_⟩) hHeld ?_ ?_
      rotate_left
      ·rintro w' ⟨s0, s1, s2, s3⟩
       go_simp
       with_reducible rfl
      rotate_left
      ·simp only [Act.put, List.setIfInBounds_toArray, List.set_cons_zero, List.set_cons_succ, i64_w, i32_w]; rfl
      refine take_ (i := 7) (N := (some 48)) (v := ?_) (a' := ?_) #[true, true, true, false, true, true, true, true, false, false, false, false] rfl rfl (by kernel_rfl) (fun _ _ _ h => h) (Or.inl ⟨by rfl, ?_⟩) hHeld ?_ ?_
      rotate_left
      ·rintro w' ⟨s0, s1, s2, s3⟩
       go_simp
       with_reducible rfl
      rotate_left
      ·simp only [Act.put, List.setIfInBounds_toArray, List.set_cons_zero, List.set_cons_succ, i64_w, i32_w]; rfl
      refine take_ (i := 8) (N := (some 49)) (v := ?_) (a' := ?_) #[true, true, true, false, true, true, true, true, true, false, false, false] rfl rfl (by kernel_rfl) (fun _ _ _ h => h) (Or.inl ⟨by rfl, ?_⟩) hHeld ?_ ?_
      rotate_left
      ·rintro w' ⟨s0, s1, s2, s3⟩
       go_simp
       with_reducible rfl
      rotate_left
      ·simp only [Act.put, List.setIfInBounds_toArray, List.set_cons_zero, List.set_cons_succ, i64_w, i32_w]; rfl
      refine two_ (i := 3) (j := 10) (Ni := (some 44)) (Nj := (some 9)) #[true, true, true, true, true, true, true, true, true, false, false, false] #[true, true, true, false, true, true, true, true, true, false, true, false] rfl rfl rfl rfl (by kernel_rfl) (by decide) (by decide) (fun K hK => ?_) (fun K hK => ?_)
      ·refine goes_ Tryd.func62 (by kernel_rfl) rfl #[.agg #[.slice A st.length c, .slice A2 wg.length c2], .int .i64 (k : Int), .int .i64 x] (by rfl) rfl rfl (by (try simp only [List.map_toArray, List.map_cons, List.map_nil]); first | done | rfl) ?_
       refine (HLC.out _ ((Up.refl wr).drew)).mono ?_
       rintro e w1 ⟨rfl, hb⟩
       have HV1 : Aside0 (Up wr w1) := ⟨((Up.refl wr).drew).then hb⟩
       clear hb; refine ⟨_, rfl, ?_⟩
       refine hK.out _ _ (HS4.out _ HV1.out) (fun hHeld => ?_)
       clear hK K; refine norm_ (a' := ?_) ?_ ?_
       rotate_left
       ·show Act.put _ (some 44) _ = _
        simp only [Act.put, List.setIfInBounds_toArray, List.set_cons_zero, List.set_cons_succ, i64_w, i32_w]
        rfl
       refine two_ (i := 9) (j := 10) (Ni := (some 50)) (Nj := (some 9)) #[true, true, true, true, true, true, true, true, true, true, false, false] #[true, true, true, true, true, true, true, true, true, false, true, false] rfl rfl rfl rfl (by kernel_rfl) (by decide) (by decide) (fun K hK => ?_) (fun K hK => ?_)
       ·refine goes_ Tryd.func63 (by kernel_rfl) rfl #[.agg #[.int .i64 p, .int .i64 q], .agg #[.int .i64 s2.lo, .int .i64 s2.hi]] (by rfl) rfl rfl (by (try simp only [List.map_toArray, List.map_cons, List.map_nil]); first | done | rfl) ?_
        refine (and_ ⟨p, q⟩ s2 _).mono ?_
        rintro e w2 ⟨rfl, hb⟩
        have HV2 : Aside0 (Up wr w2) := ⟨(HV1.out).then hb⟩
        clear hb; refine ⟨_, rfl, ?_⟩
        refine hK.out _ _ (HS4.out _ HV2.out) (fun hHeld => ?_)
        clear hK K; refine norm_ (a' := ?_) ?_ ?_
        rotate_left
        ·show Act.put _ (some 50) _ = _
         simp only [Act.put, List.setIfInBounds_toArray, List.set_cons_zero, List.set_cons_succ, i64_w, i32_w]
         rfl
        refine one_ (i := 10) (N := (some 9)) #[true, true, true, true, true, true, true, true, true, true, true, false] rfl rfl (by kernel_rfl) (by decide) (fun K hK => ?_)
        refine value_ (v := ?_) (w1 := (w2.alloc (.cells #[.int .i64 0, .int .i64 0] 100))) (by rfl) rfl ?_ ?_
        rotate_left
        ·go_simp
         rfl
        have HV3 : Aside0 (Up wr (w2.alloc (.cells #[.int .i64 0, .int .i64 0] 100))) := ⟨(HV2.out).alloc _⟩
        have HB9 : Aside0 (Bx (w2.alloc (.cells #[.int .i64 0, .int .i64 0] 100)) w2.heap.size #[.int .i64 0, .int .i64 0] 100) := ⟨Bx.new w2 _ _⟩
        have HZ9 : Aside0 (wr.heap.size ≤ w2.heap.size) := ⟨(HV2.out).le⟩
        refine hK.out _ _ (HS4.out _ HV3.out) (fun hHeld => ?_)
        clear hK K; refine norm_ (a' := ?_) ?_ ?_
        rotate_left
        ·show Act.put _ (some 9) _ = _
         simp only [Act.put, List.setIfInBounds_toArray, List.set_cons_zero, List.set_cons_succ, i64_w, i32_w]
         rfl
        refine last_ (i := 11) (N := none) #[true, true, true, true, true, true, true, true, true, true, true, true] rfl rfl (by kernel_rfl) (by decide) (fun K hK => ?_)
        refine skip_ (w1 := ?_) (by rfl) rfl ?_ ?_
        rotate_left
        ·go_simp
         rfl
        refine hK.out _ _ ?_
        clear hK K; have HV : Aside0 (Up wr (w2.alloc (.cells #[.int .i64 (andS ⟨p, q⟩ s2).lo, .int .i64 (andS ⟨p, q⟩ s2).hi] 100))) := ⟨(HV2.out).alloc _⟩
        have HB9 : Aside0 (Bx (w2.alloc (.cells #[.int .i64 (andS ⟨p, q⟩ s2).lo, .int .i64 (andS ⟨p, q⟩ s2).hi] 100)) w2.heap.size #[.int .i64 (andS ⟨p, q⟩ s2).lo, .int .i64 (andS ⟨p, q⟩ s2).hi] 100) := ⟨Bx.new w2 _ _⟩
        have HB7 := Aside0.mk (hB7.out.up HV.out)
        refine done_ (by kernel_rfl) ?_
        have hq7 := HB7.out.cell; have hq9 := HB9.out.cell; have hf7 := HB7.out.frozen
        have hwa : IntKind.i64.wrap (x - (andS ⟨p, q⟩ s2).hi) = x - (andS ⟨p, q⟩ s2).hi := IntWalk.i64_in _ (by simp only [andS]; omega)
        have hwb : IntKind.i64.wrap (x - (andS ⟨p, q⟩ s2).lo) = x - (andS ⟨p, q⟩ s2).lo := IntWalk.i64_in _ (by simp only [andS]; omega)
        have hwx : IntKind.i64.wrap (x + 1) = x + 1 := IntWalk.i64_in _ (by omega)
        go_wp2_with fail
        have HV5 := Aside0.mk ((hW.out.then HV.out).set ⟨B7, 0, none⟩ (.int .i64 (min (flkN (rdS st k) s s2 j).lo (x - (andS ⟨p, q⟩ s2).hi))) HB7e.out)
        have HV6 := Aside0.mk (HV5.out.set ⟨B7, 1, none⟩ (.int .i64 (max (flkN (rdS st k) s s2 j).hi (x - (andS ⟨p, q⟩ s2).lo))) HB7e.out)
        have HB8 := Aside0.mk ((HB7.out.set 0 (.int .i64 (min (flkN (rdS st k) s s2 j).lo (x - (andS ⟨p, q⟩ s2).hi)))).set 1 (.int .i64 (max (flkN (rdS st k) s s2 j).hi (x - (andS ⟨p, q⟩ s2).lo))))
        simp only [Array.setIfInBounds, List.setIfInBounds_toArray, List.set_cons_zero, List.set_cons_succ] at HB8
        go_roundw
        case rel => exact ⟨j + 1, by have := HXJ.out; omega, by rw [HXJ.out]; congr 1; omega, ⟨by rw [HFS.out]; exact HB8.out⟩, HV6⟩
        case measure => simp [intOf]; have := HXJ.out; omega
       ·refine value_ (v := ?_) (w1 := (w1.alloc (.cells #[.int .i64 0, .int .i64 0] 100))) (by rfl) rfl ?_ ?_
        rotate_left
        ·go_simp
         rfl
        have HV3 : Aside0 (Up wr (w1.alloc (.cells #[.int .i64 0, .int .i64 0] 100))) := ⟨(HV1.out).alloc _⟩
        have HB9 : Aside0 (Bx (w1.alloc (.cells #[.int .i64 0, .int .i64 0] 100)) w1.heap.size #[.int .i64 0, .int .i64 0] 100) := ⟨Bx.new w1 _ _⟩
        have HZ9 : Aside0 (wr.heap.size ≤ w1.heap.size) := ⟨(HV1.out).le⟩
        refine hK.out _ _ (HS4.out _ HV3.out) (fun hHeld => ?_)
        clear hK K; refine norm_ (a' := ?_) ?_ ?_
        rotate_left
        ·show Act.put _ (some 9) _ = _
         simp only [Act.put, List.setIfInBounds_toArray, List.set_cons_zero, List.set_cons_succ, i64_w, i32_w]
         rfl
        refine one_ (i := 9) (N := (some 50)) #[true, true, true, true, true, true, true, true, true, true, true, false] rfl rfl (by kernel_rfl) (by decide) (fun K hK => ?_)
        refine goes_ Tryd.func63 (by kernel_rfl) rfl #[.agg #[.int .i64 p, .int .i64 q], .agg #[.int .i64 s2.lo, .int .i64 s2.hi]] (by rfl) rfl rfl (by (try simp only [List.map_toArray, List.map_cons, List.map_nil]); first | done | rfl) ?_
        refine (and_ ⟨p, q⟩ s2 _).mono ?_
        rintro e w2 ⟨rfl, hb⟩
        have HV2 : Aside0 (Up wr w2) := ⟨(HV3.out).then hb⟩
        have HB9 := Aside0.mk (HB9.out.up hb)
        clear hb; refine ⟨_, rfl, ?_⟩
        refine hK.out _ _ (HS4.out _ HV2.out) (fun hHeld => ?_)
        clear hK K; refine norm_ (a' := ?_) ?_ ?_
        rotate_left
        ·show Act.put _ (some 50) _ = _
         simp only [Act.put, List.setIfInBounds_toArray, List.set_cons_zero, List.set_cons_succ, i64_w, i32_w]
         rfl
        refine last_ (i := 11) (N := none) #[true, true, true, true, true, true, true, true, true, true, true, true] rfl rfl (by kernel_rfl) (by decide) (fun K hK => ?_)
        have hqb := HB9.out.cell; have hfb := HB9.out.frozen
        refine skip_ (w1 := ?_) (by rfl) rfl ?_ ?_
        rotate_left
        ·go_simp
         rfl
        refine hK.out _ _ ?_
        clear hK K hqb hfb; have HB9 := Aside0.mk ((HB9.out.set 0 (.int .i64 (andS ⟨p, q⟩ s2).lo)).set 1 (.int .i64 (andS ⟨p, q⟩ s2).hi))
        have HV := Aside0.mk (((HV2.out).set ⟨w1.heap.size, 0, none⟩ (.int .i64 (andS ⟨p, q⟩ s2).lo) HZ9.out).set ⟨w1.heap.size, 1, none⟩ (.int .i64 (andS ⟨p, q⟩ s2).hi) HZ9.out)
        have HB7 := Aside0.mk (((hB7.out.up (HV2.out)).far (show B7 ≠ w1.heap.size by have := HZ9.out; omega) 0 (.int .i64 (andS ⟨p, q⟩ s2).lo)).far (show B7 ≠ w1.heap.size by have := HZ9.out; omega) 1 (.int .i64 (andS ⟨p, q⟩ s2).hi))
        simp only [Array.setIfInBounds, List.setIfInBounds_toArray, List.set_cons_zero, List.set_cons_succ] at HB9
        refine done_ (by kernel_rfl) ?_
        have hq7 := HB7.out.cell; have hq9 := HB9.out.cell; have hf7 := HB7.out.frozen
        have hwa : IntKind.i64.wrap (x - (andS ⟨p, q⟩ s2).hi) = x - (andS ⟨p, q⟩ s2).hi := IntWalk.i64_in _ (by simp only [andS]; omega)
        have hwb : IntKind.i64.wrap (x - (andS ⟨p, q⟩ s2).lo) = x - (andS ⟨p, q⟩ s2).lo := IntWalk.i64_in _ (by simp only [andS]; omega)
        have hwx : IntKind.i64.wrap (x + 1) = x + 1 := IntWalk.i64_in _ (by omega)
        go_wp2_with fail
        have HV5 := Aside0.mk ((hW.out.then HV.out).set ⟨B7, 0, none⟩ (.int .i64 (min (flkN (rdS st k) s s2 j).lo (x - (andS ⟨p, q⟩ s2).hi))) HB7e.out)
        have HV6 := Aside0.mk (HV5.out.set ⟨B7, 1, none⟩ (.int .i64 (max (flkN (rdS st k) s s2 j).hi (x - (andS ⟨p, q⟩ s2).lo))) HB7e.out)
        have HB8 := Aside0.mk ((HB7.out.set 0 (.int .i64 (min (flkN (rdS st k) s s2 j).lo (x - (andS ⟨p, q⟩ s2).hi)))).set 1 (.int .i64 (max (flkN (rdS st k) s s2 j).hi (x - (andS ⟨p, q⟩ s2).lo))))
        simp only [Array.setIfInBounds, List.setIfInBounds_toArray, List.set_cons_zero, List.set_cons_succ] at HB8
        go_roundw
        case rel => exact ⟨j + 1, by have := HXJ.out; omega, by rw [HXJ.out]; congr 1; omega, ⟨by rw [HFS.out]; exact HB8.out⟩, HV6⟩
        case measure => simp [intOf]; have := HXJ.out; omega
      ·refine value_ (v := ?_) (w1 := (wr.drew.alloc (.cells #[.int .i64 0, .int .i64 0] 100))) (by rfl) rfl ?_ ?_
       rotate_left
       ·go_simp
        rfl
       have HV3 : Aside0 (Up wr (wr.drew.alloc (.cells #[.int .i64 0, .int .i64 0] 100))) := ⟨((Up.refl wr).drew).alloc _⟩
       have HB9 : Aside0 (Bx (wr.drew.alloc (.cells #[.int .i64 0, .int .i64 0] 100)) wr.heap.size #[.int .i64 0, .int .i64 0] 100) := ⟨Bx.new wr.drew _ _⟩
       have HZ9 : Aside0 (wr.heap.size ≤ wr.heap.size) := ⟨((Up.refl wr).drew).le⟩
       refine hK.out _ _ (HS4.out _ HV3.out) (fun hHeld => ?_)
       clear hK K; refine norm_ (a' := ?_) ?_ ?_
       rotate_left
       ·show Act.put _ (some 9) _ = _
        simp only [Act.put, List.setIfInBounds_toArray, List.set_cons_zero, List.set_cons_succ, i64_w, i32_w]
        rfl
       refine one_ (i := 3) (N := (some 44)) #[true, true, true, true, true, true, true, true, true, false, true, false] rfl rfl (by kernel_rfl) (by decide) (fun K hK => ?_)
       refine goes_ Tryd.func62 (by kernel_rfl) rfl #[.agg #[.slice A st.length c, .slice A2 wg.length c2], .int .i64 (k : Int), .int .i64 x] (by rfl) rfl rfl (by (try simp only [List.map_toArray, List.map_cons, List.map_nil]); first | done | rfl) ?_
       refine (HLC.out _ (HV3.out)).mono ?_
       rintro e w1 ⟨rfl, hb⟩
       have HV1 : Aside0 (Up wr w1) := ⟨(HV3.out).then hb⟩
       have HB9 := Aside0.mk (HB9.out.up hb)
       clear hb; refine ⟨_, rfl, ?_⟩
       refine hK.out _ _ (HS4.out _ HV1.out) (fun hHeld => ?_)
       clear hK K; refine norm_ (a' := ?_) ?_ ?_
       rotate_left
       ·show Act.put _ (some 44) _ = _
        simp only [Act.put, List.setIfInBounds_toArray, List.set_cons_zero, List.set_cons_succ, i64_w, i32_w]
        rfl
       refine one_ (i := 9) (N := (some 50)) #[true, true, true, true, true, true, true, true, true, true, true, false] rfl rfl (by kernel_rfl) (by decide) (fun K hK => ?_)
       refine goes_ Tryd.func63 (by kernel_rfl) rfl #[.agg #[.int .i64 p, .int .i64 q], .agg #[.int .i64 s2.lo, .int .i64 s2.hi]] (by rfl) rfl rfl (by (try simp only [List.map_toArray, List.map_cons, List.map_nil]); first | done | rfl) ?_
       refine (and_ ⟨p, q⟩ s2 _).mono ?_
       rintro e w2 ⟨rfl, hb⟩
       have HV2 : Aside0 (Up wr w2) := ⟨(HV1.out).then hb⟩
       have HB9 := Aside0.mk (HB9.out.up hb)
       clear hb; refine ⟨_, rfl, ?_⟩
       refine hK.out _ _ (HS4.out _ HV2.out) (fun hHeld => ?_)
       clear hK K; refine norm_ (a' := ?_) ?_ ?_
       rotate_left
       ·show Act.put _ (some 50) _ = _
        simp only [Act.put, List.setIfInBounds_toArray, List.set_cons_zero, List.set_cons_succ, i64_w, i32_w]
        rfl
       refine last_ (i := 11) (N := none) #[true, true, true, true, true, true, true, true, true, true, true, true] rfl rfl (by kernel_rfl) (by decide) (fun K hK => ?_)
       have hqb := HB9.out.cell; have hfb := HB9.out.frozen
       refine skip_ (w1 := ?_) (by rfl) rfl ?_ ?_
       rotate_left
       ·go_simp
        rfl
       refine hK.out _ _ ?_
       clear hK K hqb hfb; have HB9 := Aside0.mk ((HB9.out.set 0 (.int .i64 (andS ⟨p, q⟩ s2).lo)).set 1 (.int .i64 (andS ⟨p, q⟩ s2).hi))
       have HV := Aside0.mk (((HV2.out).set ⟨wr.heap.size, 0, none⟩ (.int .i64 (andS ⟨p, q⟩ s2).lo) HZ9.out).set ⟨wr.heap.size, 1, none⟩ (.int .i64 (andS ⟨p, q⟩ s2).hi) HZ9.out)
       have HB7 := Aside0.mk (((hB7.out.up (HV2.out)).far (show B7 ≠ wr.heap.size by have := HZ9.out; omega) 0 (.int .i64 (andS ⟨p, q⟩ s2).lo)).far (show B7 ≠ wr.heap.size by have := HZ9.out; omega) 1 (.int .i64 (andS ⟨p, q⟩ s2).hi))
       simp only [Array.setIfInBounds, List.setIfInBounds_toArray, List.set_cons_zero, List.set_cons_succ] at HB9
       refine done_ (by kernel_rfl) ?_
       have hq7 := HB7.out.cell; have hq9 := HB9.out.cell; have hf7 := HB7.out.frozen
       have hwa : IntKind.i64.wrap (x - (andS ⟨p, q⟩ s2).hi) = x - (andS ⟨p, q⟩ s2).hi := IntWalk.i64_in _ (by simp only [andS]; omega)
       have hwb : IntKind.i64.wrap (x - (andS ⟨p, q⟩ s2).lo) = x - (andS ⟨p, q⟩ s2).lo := IntWalk.i64_in _ (by simp only [andS]; omega)
       have hwx : IntKind.i64.wrap (x + 1) = x + 1 := IntWalk.i64_in _ (by omega)
       go_wp2_with fail
       have HV5 := Aside0.mk ((hW.out.then HV.out).set ⟨B7, 0, none⟩ (.int .i64 (min (flkN (rdS st k) s s2 j).lo (x - (andS ⟨p, q⟩ s2).hi))) HB7e.out)
       have HV6 := Aside0.mk (HV5.out.set ⟨B7, 1, none⟩ (.int .i64 (max (flkN (rdS st k) s s2 j).hi (x - (andS ⟨p, q⟩ s2).lo))) HB7e.out)
       have HB8 := Aside0.mk ((HB7.out.set 0 (.int .i64 (min (flkN (rdS st k) s s2 j).lo (x - (andS ⟨p, q⟩ s2).hi)))).set 1 (.int .i64 (max (flkN (rdS st k) s s2 j).hi (x - (andS ⟨p, q⟩ s2).lo))))
       simp only [Array.setIfInBounds, List.setIfInBounds_toArray, List.set_cons_zero, List.set_cons_succ] at HB8
       go_roundw
       case rel => exact ⟨j + 1, by have := HXJ.out; omega, by rw [HXJ.out]; congr 1; omega, ⟨by rw [HFS.out]; exact HB8.out⟩, HV6⟩
       case measure => simp [intOf]; have := HXJ.out; omega
      -- END flocks
     ·have hqB := hB7.out.cell
      have HEX : Aside0 (flkN (rdS st k) s s2 j = flk (rdS st k) s s2) := ⟨by rw [flk, show (s.hi + 1 - s.lo).toNat = j by have := HXJ.out; omega]⟩
      rw [HEX.out] at hqB hB7
      generalize hF : flk (rdS st k) s s2 = F at *
      have HRC : Aside0 (0 < 1 → ∃ ad', some (⟨wr.heap.size, 0, none⟩ : Addr) = some ad' ∧ ∀ j u, ([.int .i64 F.lo, .int .i64 F.hi] : List Value)[j]? = some u → (wr.alloc (.cells #[.int .i64 F.lo, .int .i64 F.hi] 41)).cell? (ad'.add j) = some u) := ⟨fun _ => ⟨_, rfl, fun j u hu => by
       match j, hu with
       | 0, hu => simp at hu; subst hu; simp [go_sem]
       | 1, hu => simp at hu; subst hu; simp [go_sem]⟩⟩
      have HTK : Aside0 (cellsS ((List.range (k + 1)).map fun (i : Nat) => flk (rdS st i) (rdS H i) (rdS H ((i + 1 : Nat) : Int))) = cellsS ((List.range k).map fun (i : Nat) => flk (rdS st i) (rdS H i) (rdS H ((i + 1 : Nat) : Int))) ++ [.int .i64 F.lo, .int .i64 F.hi]) := ⟨by rw [List.range_succ, List.map_append, cellsS_append]; simp only [List.map_cons, List.map_nil]; rw [← HS.out, ← HS2.out, hF]; rfl⟩
      have HO2 := Aside0.mk (own_up hO.out hW.out)
      have hwz : w.heap.size ≤ wr.heap.size := Nat.le_trans hU.out.le hW.out.le
      obtain ⟨i0, hi, hz0, hz1, hz2⟩ := info_parts info_span
      clear hF; go_wp2_with (at_builtin; refine append_all w.heap.size rfl _ _ 22 41 (.agg #[.int .i64 0, .int .i64 0]) 2 16 rfl Tryd.underlying22 info_span rfl (by decide) (by decide) _ k _ [.int .i64 F.lo, .int .i64 F.hi] (some ⟨wr.heap.size, 0, none⟩) 1 1 rfl rfl (own_up HO2.out ((Up.refl _).alloc _)) rfl HRC.out ?qc3 ?qc4 ?qc5 ?_)
      case qc3 => exact ⟨rfl, rfl⟩
      case qc4 => first | omega | (simp; omega)
      case qc5 => omega
      intro v3 w3 hown hgrow
      have HU3 := Aside0.mk ((Up.alloc (hU.out.then hW.out) (.cells #[.int .i64 F.lo, .int .i64 F.hi] 41)).grown (own_up HO2.out ((Up.refl _).alloc _)) (Nat.le_refl _) hgrow)
      have HL3 := Aside0.mk (own_grown (own_up (own_up hL5.out hW.out) ((Up.refl _).alloc _)) (own_up HO2.out ((Up.refl _).alloc _)) (by decide) hgrow)
      have HB3 := Aside0.mk (((hB.out.up hW.out).up ((Up.refl _).alloc _)).grown (own_up HO2.out ((Up.refl _).alloc _)) (by decide) hgrow)
      have HO3 := Aside0.mk hown
      clear hown hgrow; go_wp2_with fail
      go_roundw
      case rel => exact ⟨k + 1, by omega, by go_num, ⟨by rw [HTK.out]; exact HO3.out⟩, HL3, HB3, HU3⟩
      case measure => simp [intOf]; omega
   ·obtain rfl : k = st.length := by omega
    go_wp2_with fail
    go_ret2
    have h9 := hO.out
    rw [← HFL.out] at h9
    have hfl : (flocksL st wg).length = st.length := by rw [HFL.out]; simp
    have h10 : wr.ownsRow w.heap.size 41 2 u2 (flocksL st wg).length (cellsS (flocksL st wg)) := by rw [hfl]; exact h9
    exact ⟨_, by simp [HE.out], h10, hU.out⟩
 ·have hd : (ohE st wg != 0) = true := by simp [he]
  have HFL : Aside0 (flocksL st wg = []) := ⟨by rw [flocksL, if_neg he]⟩
  have HOL : Aside0 (ohL st wg = []) := ⟨by rw [ohL, if_neg he]⟩
  clear he; go_enter Tryd.func21, Tryd.ntmps21
  go_wp2_with fail
  generalize (w.alloc (.cells #[.slice A st.length c, .slice A2 wg.length c2] 25)) = W0 at *
  refine hcall.mono ?_
  clear hcall; rintro e w1 ⟨v1, rfl, hown, hb⟩
  have HU1 := Aside0.mk (HU0.out.then hb)
  clear hown hb; go_wp2_with fail
  go_ret2
  exact ⟨.slice none 0 0, by simp, by rw [HFL.out]; exact ⟨rfl, .inl ⟨rfl, rfl⟩⟩, HU1.out.then upA⟩
end Go.Proofs.YtemingmeidmjkaaDoor.Q
namespace Go.Proofs.YtemingmeidmjkaaDoor.Q
open Go.RowKit Go.Shelf Go.Proofs.YtemingmeidmjkaaDoorW.PrintWords Go.Proofs.YtemingmeidmjkaaDoorW.PrintLast
set_option linter.unusedVariables false
set_option linter.unusedSimpArgs false
def bnK (s : Sp) : Prop := (-1000 ≤ s.lo ∧ s.lo ≤ 1000) ∧ (-1000 ≤ s.hi ∧ s.hi ≤ 1000)
theorem seenS_bn (wg : List Wg) (h : wgOk wg) (p : Int) : bnK (seenS wg p) := by
 have key : ∀ (l : List Wg) (s : Sp), (∀ x ∈ l, (0 ≤ x.r ∧ x.r ≤ 400) ∧ (0 ≤ x.o ∧ x.o ≤ 20)) → bnK s → bnK (l.foldl (seenStep p) s) := by
  intro l
  induction l with
  | nil => intro s _ h; exact h
  | cons x l ih =>
   intro s hl h
   rw [List.foldl_cons]
   refine ih _ (fun y hy => hl y (by simp [hy])) ?_
   have h1 := hl x (by simp)
   unfold seenStep
   split
   ·unfold bnK at *
    simp only [andS]
    omega
   ·exact h
 exact key wg _ h ⟨by simp, by simp⟩
theorem onS_bn {st s : Sp} (h : stB st) (hs : okS s) (hb : bnK s) : bnK (onS st s) := by
 unfold onS
 split
 ·exact hb
 ·rename_i hn
  have hs' : 0 ≤ s.lo ∧ s.hi ≤ 400 := by rcases hs with hs | hs; exact absurd hs hn; exact hs
  have h1 := loS_nn h (w := s.lo) hs'.1
  have h2 := hiS_le h (w := s.hi) (by omega)
  have h3 := loS_hiS h (w := s.lo) hs'.1
  have h4 := hiS_le h (w := s.lo) hs'.1
  have h5 := loS_nn h (w := s.hi) (by omega)
  have h6 := loS_hiS h (w := s.hi) (by omega)
  unfold bnK
  simp only
  omega
theorem andS_bn {s t : Sp} (hs : bnK s) (ht : bnK t) : bnK (andS s t) := by
 unfold bnK at *
 simp only [andS]
 omega
theorem comeAt_bn {st : List Sp} {wg : List Wg} (h : RdOk st wg) : ∀ i : Nat, i ≤ st.length → bnK (comeAt st wg i)
 | 0, _ => seenS_bn wg h.wgs 0
 | i + 1, hi => andS_bn (onS_bn (h.at i (by omega) (by omega)) (comeAt_ok h i (by omega)) (comeAt_bn h i (by omega))) (seenS_bn wg h.wgs _)
def thA (st : List Sp) (wg : List Wg) (s : Nat) : Nat → Sp
 | 0 => comeAt st wg 0
 | j + 1 => if j < s then comeAt st wg (j + 1) else if j = s then andS ⟨0, (onS (rdS st j) (comeAt st wg j)).hi - 1⟩ (seenS wg ((j + 1 : Nat) : Int)) else andS (onS (rdS st j) (thA st wg s j)) (seenS wg ((j + 1 : Nat) : Int))
theorem thA_le (st : List Sp) (wg : List Wg) (s : Nat) : ∀ j, j ≤ s → thA st wg s j = comeAt st wg j
 | 0, _ => rfl
 | j + 1, h => by rw [thA, if_pos (by omega)]
theorem thA_at (st : List Sp) (wg : List Wg) (s : Nat) : thA st wg s (s + 1) = andS ⟨0, (onS (rdS st s) (comeAt st wg s)).hi - 1⟩ (seenS wg ((s + 1 : Nat) : Int)) := by
 rw [thA, if_neg (by omega), if_pos rfl]
theorem thA_gt (st : List Sp) (wg : List Wg) (s j : Nat) (h : s < j) : thA st wg s (j + 1) = andS (onS (rdS st j) (thA st wg s j)) (seenS wg ((j + 1 : Nat) : Int)) := by
 rw [thA, if_neg (by omega), if_neg (by omega)]
theorem thA_ok {st : List Sp} {wg : List Wg} (h : RdOk st wg) (s : Nat) (hs : s < st.length) : ∀ j : Nat, j ≤ st.length → okS (thA st wg s j)
 | 0, hj => comeAt_ok h 0 (by omega)
 | j + 1, hj => by
  rw [thA]
  split
  ·exact comeAt_ok h _ hj
  ·split
   ·refine andS_ok ?_ (seenS_ok wg _).1
    have h1 := onS_ok (h.at j (by omega) (by omega)) (comeAt_ok h j (by omega))
    have h2 := onS_bn (h.at j (by omega) (by omega)) (comeAt_ok h j (by omega)) (comeAt_bn h j (by omega))
    have h3 : (onS (rdS st j) (comeAt st wg j)).hi ≤ 400 := by
     unfold onS
     split
     ·rename_i hn
      have : (comeAt st wg j).hi ≤ 400 := by
       cases j with
       | zero => exact (seenS_ok wg 0).2
       | succ j => rw [comeAt]; have := (seenS_ok wg ((j + 1 : Nat) : Int)).2; simp only [andS]; omega
      exact this
     ·rename_i hn
      have hs' := comeAt_ok h j (by omega)
      have hs2 : 0 ≤ (comeAt st wg j).lo ∧ (comeAt st wg j).hi ≤ 400 := by rcases hs' with hs' | hs'; exact absurd hs' hn; exact hs'
      have := hiS_le (h.at j (by omega) (by omega)) (w := (comeAt st wg j).hi) (by omega)
      simp only
      omega
    exact .inr ⟨by simp, by simp only; omega⟩
   ·exact andS_ok (onS_ok (h.at j (by omega) (by omega)) (thA_ok h s hs j (by omega))) (seenS_ok wg _).1
def thM (st : List Sp) (wg : List Wg) (s i : Nat) : List Sp := (List.range (st.length + 1)).map fun j => if j ≤ i then thA st wg s j else comeAt st wg j
theorem thM_len (st : List Sp) (wg : List Wg) (s i : Nat) : (thM st wg s i).length = st.length + 1 := by simp [thM]
theorem thM_rd (st : List Sp) (wg : List Wg) (s i j : Nat) (h : j ≤ st.length) : rdS (thM st wg s i) (j : Int) = if j ≤ i then thA st wg s j else comeAt st wg j := by
 rw [rdS_nat _ _ (by rw [thM_len]; omega)]
 simp [thM]
theorem comeL_rd (st : List Sp) (wg : List Wg) (j : Nat) (h : j ≤ st.length) : rdS (comeL st wg) (j : Int) = comeAt st wg j := by
 rw [rdS_nat _ _ (by rw [comeL_len]; omega)]
 simp [comeL]
theorem thM_zero (st : List Sp) (wg : List Wg) (s : Nat) : thM st wg s s = comeL st wg := by
 unfold thM comeL
 refine List.map_congr_left fun j _ => ?_
 split
 ·exact thA_le _ _ _ _ (by assumption)
 ·rfl
theorem thM_succ (st : List Sp) (wg : List Wg) (s i : Nat) : thM st wg s (i + 1) = (thM st wg s i).set (i + 1) (thA st wg s (i + 1)) := by
 apply List.ext_getElem?
 intro j
 rw [List.getElem?_set]
 unfold thM
 simp only [List.getElem?_map, List.length_map, List.length_range]
 by_cases e : i + 1 = j
 ·subst e
  by_cases hlt : i + 1 < st.length + 1
  ·rw [if_pos rfl, if_pos hlt, List.getElem?_range hlt]
   simp
  ·rw [if_pos rfl, if_neg hlt, List.getElem?_eq_none (by simpa using hlt)]
   rfl
 ·rw [if_neg e]
  by_cases hlt : j < st.length + 1
  ·rw [List.getElem?_range hlt]
   simp only [Option.map_some]
   congr 1
   by_cases h1 : j ≤ i
   ·rw [if_pos h1, if_pos (by omega)]
   ·rw [if_neg h1, if_neg (by omega)]
  ·rw [List.getElem?_eq_none (by simpa using hlt)]
   rfl
def thL2 (st : List Sp) (wg : List Wg) (s : Nat) : List Sp := thM st wg s st.length
theorem thL2_len (st : List Sp) (wg : List Wg) (s : Nat) : (thL2 st wg s).length = st.length + 1 := thM_len _ _ _ _
theorem thL2_ok {st : List Sp} {wg : List Wg} (h : RdOk st wg) (s : Nat) (hs : s < st.length) : ∀ x ∈ thL2 st wg s, okS x := by
 intro x hx
 simp only [thL2, thM, List.mem_map, List.mem_range] at hx
 obtain ⟨j, hj, rfl⟩ := hx
 rw [if_pos (by omega)]
 exact thA_ok h s hs j (by omega)
def thL3 (st : List Sp) (wg : List Wg) (s : Nat) : List Sp := gst st (thL2 st wg s) (st.length - s)
theorem thL3_len (st : List Sp) (wg : List Wg) (s : Nat) : (thL3 st wg s).length = st.length + 1 := by rw [thL3, gst_len, thL2_len]
theorem gst_ok {st L : List Sp} (h : ∀ x ∈ L, okS x) (k : Nat) : ∀ x ∈ gst st L k, okS x := by
 intro x hx
 rw [gst, List.mem_append] at hx
 rcases hx with hx | hx
 ·exact h x (List.mem_of_mem_take hx)
 ·exact goL_ok _ _ (fun y hy => h y (List.mem_of_mem_drop hy)) x hx
theorem thL3_ok {st : List Sp} {wg : List Wg} (h : RdOk st wg) (s : Nat) (hs : s < st.length) : ∀ x ∈ thL3 st wg s, okS x := gst_ok (thL2_ok h s hs) _
def thX (t x y : Sp) : Sp := trimLo t ⟨y.lo + 1, 0⟩ 402 x
def thL4 (st : List Sp) (wg : List Wg) (s : Nat) : List Sp := (thL3 st wg s).set s (thX (rdS st s) (rdS (thL3 st wg s) s) (rdS (thL3 st wg s) ((s + 1 : Nat) : Int)))
theorem thL4_len (st : List Sp) (wg : List Wg) (s : Nat) : (thL4 st wg s).length = st.length + 1 := by rw [thL4, List.length_set, thL3_len]
theorem rd_ok {L : List Sp} (h : ∀ x ∈ L, okS x) (i : Nat) : okS (rdS L i) := by
 by_cases hi : i < L.length
 ·rw [rdS_nat _ _ hi]
  exact h _ (List.getElem_mem hi)
 ·unfold rdS
  rw [Int.toNat_natCast, List.getD_eq_getElem?_getD, List.getElem?_eq_none (by omega)]
  exact .inr ⟨by simp [z_Sp], by simp [z_Sp]⟩
theorem thL4_ok {st : List Sp} {wg : List Wg} (h : RdOk st wg) (s : Nat) (hs : s < st.length) : ∀ x ∈ thL4 st wg s, okS x := by
 intro x hx
 rcases List.mem_or_eq_of_mem_set hx with hx | rfl
 ·exact thL3_ok h s hs x hx
 ·exact trimLo_ok _ _ _ _ (rd_ok (thL3_ok h s hs) s)
def thG (st L : List Sp) (s k : Nat) : List Sp := gst (st.take s) (L.take (s + 1)) k ++ L.drop (s + 1)
theorem thG_len (st L : List Sp) (s k : Nat) : (thG st L s k).length = L.length := by
 simp [thG, gst_len]
 omega
theorem thG_one (st L : List Sp) (s : Nat) (hs : s < st.length) (hl : L.length = st.length + 1) : thG st L s 1 = L := by
 unfold thG
 rw [gst_one _ _ (by simp; omega), List.take_append_drop]
theorem thG_succ (st L : List Sp) (s p : Nat) (hs : s < st.length) (hl : L.length = st.length + 1) (hp : p < s) :
  thG st L s (s - p + 1) = (thG st L s (s - p)).set p (backS (rdS st p) (rdS (thG st L s (s - p)) p) (rdS (thG st L s (s - p)) ((p + 1 : Nat) : Int))) ∧ rdS (thG st L s (s - p)) p = rdS L p := by
 have e1 : (st.take s).length = s := by simp; omega
 have e2 : (L.take (s + 1)).length = s + 1 := by simp; omega
 obtain ⟨h1, h2⟩ := gst_succ (st.take s) (L.take (s + 1)) (by omega) p (by omega)
 rw [e1] at h1 h2
 have hg : (gst (st.take s) (L.take (s + 1)) (s - p)).length = s + 1 := by rw [gst_len, e2]
 have r : ∀ j : Nat, j < s + 1 → rdS (thG st L s (s - p)) j = rdS (gst (st.take s) (L.take (s + 1)) (s - p)) j := by
  intro j hj
  unfold rdS thG
  rw [Int.toNat_natCast, List.getD_eq_getElem?_getD, List.getD_eq_getElem?_getD, List.getElem?_append_left (by omega)]
 have rt : ∀ (l : List Sp) (n j : Nat), j < n → rdS (l.take n) j = rdS l j := by
  intro l n j hj
  unfold rdS
  rw [Int.toNat_natCast, List.getD_eq_getElem?_getD, List.getD_eq_getElem?_getD, List.getElem?_take, if_pos hj]
 rw [r p (by omega), r (p + 1) (by omega), h2, rt L (s + 1) p (by omega)]
 refine ⟨?_, rfl⟩
 rw [rt L (s + 1) p (by omega)] at h2
 rw [h2, rt st s p (by omega)] at h1
 unfold thG
 rw [h1, List.set_append_left _ _ (by omega)]
def thL5 (st : List Sp) (wg : List Wg) (s : Nat) : List Sp := thG st (thL4 st wg s) s (s + 1)
theorem thL5_len (st : List Sp) (wg : List Wg) (s : Nat) : (thL5 st wg s).length = st.length + 1 := by rw [thL5, thG_len, thL4_len]
theorem thL5_ok {st : List Sp} {wg : List Wg} (h : RdOk st wg) (s : Nat) (hs : s < st.length) : ∀ x ∈ thL5 st wg s, okS x := by
 intro x hx
 rw [thL5, thG, List.mem_append] at hx
 rcases hx with hx | hx
 ·exact gst_ok (fun y hy => thL4_ok h s hs y (List.mem_of_mem_take hy)) _ x hx
 ·exact thL4_ok h s hs x (List.mem_of_mem_drop hx)
def thStep (t y : Sp) (a w : Int) : Int := min a (max 1 (loS t w - min y.hi (hiS t w - 1)))
def thN (t x y : Sp) (n : Nat) : Int := (List.range n).foldl (fun a (j : Nat) => thStep t y a (x.lo + (j : Int))) 400
theorem thN_succ (t x y : Sp) (n : Nat) : thN t x y (n + 1) = thStep t y (thN t x y n) (x.lo + (n : Int)) := by
 simp only [thN, List.range_succ, List.foldl_append, List.foldl_cons, List.foldl_nil]
def thAmt (st : List Sp) (wg : List Wg) (s : Nat) : Sp :=
 let x := rdS (thL5 st wg s) s
 let y := rdS (thL5 st wg s) ((s + 1 : Nat) : Int)
 ⟨thN (rdS st s) x y (x.hi + 1 - x.lo).toNat, hiS (rdS st s) x.hi - y.lo⟩
def thOk (st : List Sp) (wg : List Wg) (s : Nat) : Bool := !(thL3 st wg s).any noneB && !(thL5 st wg s).any noneB
def thL (st : List Sp) (wg : List Wg) (s : Nat) : List Sp := if thOk st wg s then thL5 st wg s else []
def thR (st : List Sp) (wg : List Wg) (s : Nat) : Sp := if thOk st wg s then thAmt st wg s else ⟨0, 0⟩
theorem any_full {L : List Sp} (h : ∀ x ∈ L, okS x) (hn : L.any noneB = false) : ∀ x ∈ L, fullS x := by
 intro x hx
 have h1 := List.any_eq_false.1 hn x hx
 have h2 := h x hx
 have h3 : ¬ (x.lo > x.hi) := by simpa [noneB] using h1
 unfold okS at h2
 unfold fullS
 omega
theorem rd_full {L : List Sp} (h : ∀ x ∈ L, fullS x) (i : Nat) (hi : i < L.length) : fullS (rdS L i) := by
 rw [rdS_nat _ _ hi]
 exact h _ (List.getElem_mem hi)
structure ThI (w : World) (g cap : Nat) (rc : Array Value) (s : Int) (a : Sp) (L : List Sp) (W : World) : Prop where
 up : Up w W
 b2 : Bx W w.heap.size rc 95
 b3 : Bx W (w.heap.size + 1) #[.int .i64 s] 3
 b5 : Bx W (w.heap.size + 1 + 1) #[.int .i64 a.lo, .int .i64 a.hi] 100
 row : Spc W g 100 cap L
 gb : w.heap.size + 3 ≤ g
theorem ThI.then {w : World} {g cap : Nat} {rc : Array Value} {s : Int} {a : Sp} {L : List Sp} {W W' : World} (h : ThI w g cap rc s a L W) (hu : Up W W') : ThI w g cap rc s a L W' :=
 ⟨h.up.then hu, h.b2.up hu, h.b3.up hu, h.b5.up hu, h.row.up hu, h.gb⟩
theorem ThI.put {w : World} {g cap : Nat} {rc : Array Value} {s : Int} {a : Sp} {L : List Sp} {W : World} (h : ThI w g cap rc s a L W) (i : Nat) (hi : i < L.length) (z : Sp) :
  ThI w g cap rc s a (L.set i z) ((W.setCell ⟨g, i * 2, none⟩ (.int .i64 z.lo)).setCell ⟨g, i * 2 + 1, none⟩ (.int .i64 z.hi)) := by
 have hg := h.gb
 have hr := h.row.set i hi z.lo z.hi
 rw [show 2 * i = i * 2 by omega] at hr
 exact ⟨(h.up.set _ _ (by simp; omega)).set _ _ (by simp; omega), (h.b2.far (by omega) _ _).far (by omega) _ _, (h.b3.far (by omega) _ _).far (by omega) _ _, (h.b5.far (by omega) _ _).far (by omega) _ _, hr, h.gb⟩
theorem ThI.cell {w : World} {g cap : Nat} {rc : Array Value} {s : Int} {a : Sp} {L : List Sp} {W : World} (h : ThI w g cap rc s a L W) (i : Nat) (hi : i < L.length) :
  W.cell? ⟨g, i * 2, none⟩ = some (.int .i64 (rdS L i).lo) ∧ W.cell? ⟨g, i * 2 + 1, none⟩ = some (.int .i64 (rdS L i).hi) := by
 have := h.row.sps.cell i hi
 rw [show 2 * i = i * 2 by omega] at this
 exact this
theorem ThI.frozen {w : World} {g cap : Nat} {rc : Array Value} {s : Int} {a : Sp} {L : List Sp} {W : World} (h : ThI w g cap rc s a L W) (o : Nat) : W.frozen? ⟨g, o, none⟩ = false := h.row.sps.frozen o
theorem ThI.lt {w : World} {g cap : Nat} {rc : Array Value} {s : Int} {a : Sp} {L : List Sp} {W : World} (h : ThI w g cap rc s a L W) : g < W.heap.size := h.row.sps.lt
theorem ThI.far {w : World} {g cap : Nat} {rc : Array Value} {s : Int} {a : Sp} {L : List Sp} {W : World} (h : ThI w g cap rc s a L W) {B : Nat} (hB : w.heap.size + 3 ≤ B) (hne : g ≠ B) (o : Nat) (u : Value) : ThI w g cap rc s a L (W.setCell ⟨B, o, none⟩ u) :=
 ⟨h.up.set _ _ (by simp; omega), h.b2.far (by omega) _ _, h.b3.far (by omega) _ _, h.b5.far (by omega) _ _, h.row.far hne _ _, h.gb⟩
theorem ThI.own {w : World} {g cap : Nat} {rc : Array Value} {s : Int} {a : Sp} {L : List Sp} {A B : World} {row : Option Nat} (h : ThI w g cap rc s a L A) (hg : A.grownBy B row) (hr : ∀ r, row = some r → w.heap.size ≤ r ∧ ∃ o : Obj, A.heap[r]? = some o ∧ o.isCells = false) : ThI w g cap rc s a L B := by
 have hr' : ∀ r, row = some r → ∃ o : Obj, A.heap[r]? = some o ∧ o.isCells = false := fun r e => (hr r e).2
 refine ⟨?_, h.b2.own hg hr', h.b3.own hg hr', h.b5.own hg hr', h.row.own hg hr', h.gb⟩
 exact ⟨hg.os.trans h.up.os, hg.tape.trans h.up.tape, hg.output.trans h.up.output, Nat.le_trans h.up.size hg.size, fun k hk => (hg.block k (Nat.lt_of_lt_of_le hk h.up.size) (fun e => by have := (hr k e.symm).1; omega)).trans (h.up.block k hk)⟩
theorem ThI.ne {w : World} {g cap : Nat} {rc : Array Value} {s : Int} {a : Sp} {L : List Sp} {W : World} (h : ThI w g cap rc s a L W) {B : Nat} {C : Array Value} {T : TypeId} (hb : Bx W B C T) (hT : T ≠ 100) : B ≠ g := by
 rintro rfl
 obtain ⟨cur, T', z, h1, h2⟩ := spc_typed h.row (lo := fun T => T = 100) rfl
 unfold Bx at hb
 rw [hb] at h1
 cases h1
 exact hT h2
structure ThR (w : World) (g cap : Nat) (rc : Array Value) (s B8 M K n : Nat) (st L : List Sp) (pre : List Nat) (W : World) : Prop where
 i : ThI w g cap rc (s : Int) ⟨0, 0⟩ (gst st L (min pre.length (n - s))) W
 b8 : Bx W B8 #[.slice (some ⟨g, (s + 1) * 2, none⟩) M K] 96
theorem ThR.stays {w : World} {g cap : Nat} {rc : Array Value} {s B8 M K n B : Nat} {st L : List Sp} (hB : w.heap.size ≤ B) : Stays noOw B (ThR w g cap rc s B8 M K n st L) := by
 intro p W W' row h hg hr
 have hr' : ∀ r, row = some r → w.heap.size ≤ r ∧ ∃ o : Obj, W.heap[r]? = some o ∧ o.isCells = false := by
  intro r e
  obtain ⟨h0, o, h1, h2⟩ := hr r e
  refine ⟨by omega, o, h1, ?_⟩
  rcases h2 with h2 | ⟨_, _, _, _, h3⟩
  ·exact h2
  ·exact h3.elim
 exact ⟨h.i.own hg hr', h.b8.own hg fun r e => (hr' r e).2⟩
structure ThJ (w : World) (g cap : Nat) (rc : Array Value) (s B8 M K D : Nat) (a : Sp) (L : List Sp) (W : World) : Prop where
 i : ThI w g cap rc (s : Int) a L W
 b8 : Bx W B8 #[.slice (some ⟨g, (s + 1) * 2, none⟩) M K] 96
 d : W.heap[D]? = some (.deferred (some []))
 db : w.heap.size ≤ D
theorem ThJ.then {w : World} {g cap : Nat} {rc : Array Value} {s B8 M K D : Nat} {a : Sp} {L : List Sp} {W W' : World} (h : ThJ w g cap rc s B8 M K D a L W) (hu : Up W W') : ThJ w g cap rc s B8 M K D a L W' :=
 ⟨h.i.then hu, h.b8.up hu, (hu.block D (Array.getElem?_eq_some_iff.1 h.d).1).trans h.d, h.db⟩
theorem ThJ.put {w : World} {g cap : Nat} {rc : Array Value} {s B8 M K D : Nat} {a : Sp} {L : List Sp} {W : World} (h : ThJ w g cap rc s B8 M K D a L W) (j : Nat) (hj : j < L.length) (z : Sp) :
  ThJ w g cap rc s B8 M K D a (L.set j z) ((W.setCell ⟨g, j * 2, none⟩ (.int .i64 z.lo)).setCell ⟨g, j * 2 + 1, none⟩ (.int .i64 z.hi)) := by
 have hne := h.i.ne h.b8 (by decide)
 have hd : D ≠ g := by
  rintro rfl
  obtain ⟨cur, T', z, h1, h2⟩ := spc_typed h.i.row (lo := fun T => T = 100) rfl
  rw [h.d] at h1
  cases h1
 exact ⟨h.i.put j hj z, (h.b8.far hne _ _).far hne _ _, (Below.heap_setCell _ ⟨g, j * 2 + 1, none⟩ _ D hd).trans ((Below.heap_setCell W ⟨g, j * 2, none⟩ _ D hd).trans h.d), h.db⟩
theorem Spc.setLo {w : World} {g T cap : Nat} {xs : List Sp} (h : Spc w g T cap xs) (i : Nat) (hi : i < xs.length) (b : Int) : Spc (w.setCell ⟨g, 2 * i, none⟩ (.int .i64 b)) g T cap (xs.set i ⟨b, (rdS xs i).hi⟩) := by
 obtain ⟨h0, cur, h1, hs, h2⟩ := h
 have hb2 := (Array.getElem?_eq_some_iff.1 (h2 i hi).1).1
 refine ⟨by rw [List.length_set]; exact h0, cur.setIfInBounds (2 * i) (.int .i64 b), ?_, by simp [hs], fun j hj => ?_⟩
 ·unfold World.setCell
  dsimp only
  rw [Array.getElem?_modify, if_pos rfl, h1]
  rfl
 ·rw [List.length_set] at hj
  rw [rdS_set _ _ _ _ hi]
  have h3 := h2 j hj
  by_cases e : j = i
  ·subst e
   simp only [if_pos trivial, Array.getElem?_setIfInBounds]
   rw [if_pos hb2, if_neg (by omega)]
   exact ⟨rfl, h3.2⟩
  ·simp only [if_neg e, Array.getElem?_setIfInBounds]
   rw [if_neg (by omega), if_neg (by omega)]
   exact h3
theorem ThJ.putLo {w : World} {g cap : Nat} {rc : Array Value} {s B8 M K D : Nat} {a : Sp} {L : List Sp} {W : World} (h : ThJ w g cap rc s B8 M K D a L W) (j : Nat) (hj : j < L.length) (x : Int) :
  ThJ w g cap rc s B8 M K D a (L.set j ⟨x, (rdS L j).hi⟩) (W.setCell ⟨g, j * 2, none⟩ (.int .i64 x)) := by
 have hne := h.i.ne h.b8 (by decide)
 have hd : D ≠ g := by
  rintro rfl
  obtain ⟨cur, T', z, h1, h2⟩ := spc_typed h.i.row (lo := fun T => T = 100) rfl
  rw [h.d] at h1
  cases h1
 have hg := h.i.gb
 have hr := Spc.setLo h.i.row j hj x
 rw [show 2 * j = j * 2 by omega] at hr
 exact ⟨⟨h.i.up.set _ _ (by simp; omega), h.i.b2.far (by omega) _ _, h.i.b3.far (by omega) _ _, h.i.b5.far (by omega) _ _, hr, hg⟩, h.b8.far hne _ _, (Below.heap_setCell W ⟨g, j * 2, none⟩ _ D hd).trans h.d, h.db⟩
theorem ThJ.amt {w : World} {g cap : Nat} {rc : Array Value} {s B8 M K D : Nat} {a : Sp} {L : List Sp} {W : World} (h : ThJ w g cap rc s B8 M K D a L W) (b : Sp) :
  ThJ w g cap rc s B8 M K D b L ((W.setCell ⟨w.heap.size + 1 + 1, 0, none⟩ (.int .i64 b.lo)).setCell ⟨w.heap.size + 1 + 1, 1, none⟩ (.int .i64 b.hi)) := by
 have hg := h.i.gb
 have h8 : B8 ≠ w.heap.size + 1 + 1 := by
  rintro rfl
  have h1 := h.b8; have h2 := h.i.b5
  unfold Bx at h1 h2
  rw [h1] at h2
  injection h2 with h2
  injection h2 with _ h2
  exact absurd h2 (by decide)
 have hd : D ≠ w.heap.size + 1 + 1 := by
  rintro rfl
  have h2 := h.i.b5
  unfold Bx at h2
  rw [h.d] at h2
  cases h2
 have h5 := (h.i.b5.set 0 (.int .i64 b.lo)).set 1 (.int .i64 b.hi)
 simp only [Array.setIfInBounds, List.setIfInBounds_toArray, List.set_cons_zero, List.set_cons_succ] at h5
 exact ⟨⟨(h.i.up.set _ _ (by simp; omega)).set _ _ (by simp; omega), (h.i.b2.far (by omega) _ _).far (by omega) _ _, (h.i.b3.far (by omega) _ _).far (by omega) _ _, h5, (h.i.row.far (by omega) _ _).far (by omega) _ _, hg⟩,
  (h.b8.far h8 _ _).far h8 _ _, (Below.heap_setCell _ ⟨w.heap.size + 1 + 1, 1, none⟩ _ D hd).trans ((Below.heap_setCell W ⟨w.heap.size + 1 + 1, 0, none⟩ _ D hd).trans h.d), h.db⟩
theorem ThJ.amtLo {w : World} {g cap : Nat} {rc : Array Value} {s B8 M K D : Nat} {a : Sp} {L : List Sp} {W : World} (h : ThJ w g cap rc s B8 M K D a L W) (x : Int) :
  ThJ w g cap rc s B8 M K D ⟨x, a.hi⟩ L (W.setCell ⟨w.heap.size + 1 + 1, 0, none⟩ (.int .i64 x)) := by
 have hg := h.i.gb
 have h8 : B8 ≠ w.heap.size + 1 + 1 := by
  rintro rfl
  have h1 := h.b8; have h2 := h.i.b5
  unfold Bx at h1 h2
  rw [h1] at h2
  injection h2 with h2
  injection h2 with _ h2
  exact absurd h2 (by decide)
 have hd : D ≠ w.heap.size + 1 + 1 := by
  rintro rfl
  have h2 := h.i.b5
  unfold Bx at h2
  rw [h.d] at h2
  cases h2
 have h5 := h.i.b5.set 0 (.int .i64 x)
 simp only [Array.setIfInBounds, List.setIfInBounds_toArray, List.set_cons_zero, List.set_cons_succ] at h5
 exact ⟨⟨h.i.up.set _ _ (by simp; omega), h.i.b2.far (by omega) _ _, h.i.b3.far (by omega) _ _, h5, h.i.row.far (by omega) _ _, hg⟩,
  h.b8.far h8 _ _, (Below.heap_setCell W ⟨w.heap.size + 1 + 1, 0, none⟩ _ D hd).trans h.d, h.db⟩
theorem ThJ.fin {w : World} {g cap : Nat} {rc : Array Value} {s B8 M K D : Nat} {a : Sp} {L : List Sp} {W : World} (h : ThJ w g cap rc s B8 M K D a L W) : ThI w g cap rc (s : Int) a L (W.putObj D (.deferred none)) :=
 h.i.own (grownBy_putObj' W D (.deferred none)) (fun r e => by cases e; exact ⟨h.db, _, h.d, rfl⟩)
theorem ThJ.C {w : World} {g cap : Nat} {rc : Array Value} {s B8 M K D : Nat} {a : Sp} {L : List Sp} {W : World} (h : ThJ w g cap rc s B8 M K D a L W) (hL : L.length ≤ 100000) : Kd.C kSp W (some ⟨g, 0, none⟩) L.length L :=
 C_ofSps h.i.row.sps (by omega) _ rfl
theorem ThI.capL {w : World} {g cap : Nat} {rc : Array Value} {s : Int} {a : Sp} {L : List Sp} {W : World} (h : ThI w g cap rc s a L W) : L.length ≤ cap := h.row.1.1
def loOf (W : World) (a : Addr) : Int := match W.cell? a with | some (.int _ x) => x | _ => 0
theorem thX_none {t x y : Sp} {n : Nat} (h : x.lo > x.hi) : trimLo t ⟨y.lo + 1, 0⟩ n x = x := by
 cases n with
 | zero => rfl
 | succ n => rw [trimLo, if_pos h]
theorem thX_stop {t x y : Sp} {n : Nat} (h : ¬ (x.lo > x.hi)) (h2 : ¬ (hiS t x.lo - 1 < y.lo)) : trimLo t ⟨y.lo + 1, 0⟩ n x = x := by
 cases n with
 | zero => rfl
 | succ n => rw [trimLo, if_neg h, if_neg (by simp only; omega)]
theorem thX_go {t x y : Sp} {n : Nat} (h : ¬ (x.lo > x.hi)) (h2 : hiS t x.lo - 1 < y.lo) : trimLo t ⟨y.lo + 1, 0⟩ (n + 1) x = trimLo t ⟨y.lo + 1, 0⟩ n ⟨x.lo + 1, x.hi⟩ := by
 rw [trimLo, if_neg h, if_pos (by simp only; omega)]
theorem set_rd {L : List Sp} {i : Nat} (h : i < L.length) : L.set i (rdS L i) = L := by
 rw [rdS_nat _ _ h]
 exact List.set_getElem_self h
theorem rd_set {L : List Sp} {i j : Nat} (x : Sp) (h : i < L.length) : rdS (L.set i x) (j : Nat) = if j = i then x else rdS L (j : Nat) := rdS_set L i j x h
end Go.Proofs.YtemingmeidmjkaaDoor.Q
