/- The walks of this program's functions. No condition. -/
import Derived.Test.YtcnlbbmokphjnaaM0
import Derived.RangeFuncBox
import Derived.BigQuiet
import Derived.Test.YtcnlbbmokphjnaaWEqStruct
set_option linter.unusedVariables false
set_option linter.unusedSimpArgs false
namespace Go.Proofs.Ytcnlbbmokphjnaa
open Go.RowKit Go.Shelf Go.Proofs.YtcnlbbmokphjnaaW.PrintWords
set_option linter.unusedVariables false
set_option linter.unusedSimpArgs false
attribute [local go_sem] Oper.semAt_some
theorem tides_stopsM (m : Mill) (g : Sp → Int) (fo : FuncId) (A : Option Addr) (c : Nat) (l : List Sp) (A2 : Option Addr) (c2 : Nat) (plan : List Int) (hfi : Fine m g l plan)
    (hE : ∀ (args : Array Value) (w : World), (callFunc fo args).run Try.prog w = .ok (.enter fo args) w)
    (hg : ∀ a b W, Calls Try.prog fo #[.agg #[.int .i64 a, .int .i64 b]] W fun e W' => e = .returned (.int .i64 (g ⟨a, b⟩)) ∧ Up W W')
    (b : Nat) (w : World) (hr : Kd.C kSp w A l.length l) (hc : l.length ≤ c) (hr2 : Kd.C (Kd.int .i64) w A2 plan.length plan) (hc2 : plan.length ≤ c2) (hb : w.heap.size ≤ b)
    (W : World) (hW : Up w W) (h0 : W.cell? ⟨b + 2, 0, none⟩ = some (.func (.func fo) #[] #[])) (hv : W.cell? ⟨b, 0, none⟩ = some (.int .i64 m.H) ∧ W.cell? ⟨b, 1, none⟩ = some (.int .i64 m.T) ∧ W.cell? ⟨b, 2, none⟩ = some (.int .i64 m.bl) ∧ W.cell? ⟨b, 3, none⟩ = some (.int .i64 m.bh) ∧ W.cell? ⟨b, 4, none⟩ = some (.int .i64 m.ho) ∧ W.cell? ⟨b, 5, none⟩ = some (.int .i64 m.nl) ∧ W.cell? ⟨b, 6, none⟩ = some (.int .i64 m.nh) ∧ W.cell? ⟨b, 7, none⟩ = some (.slice A l.length c)) (hp : W.cell? ⟨b + 1, 0, none⟩ = some (.slice A2 plan.length c2)) (hbW : b + 2 < W.heap.size) :
    SeqStopsK Fence.wide 5 Try.prog 94 #[.pointer (some ⟨b + 2, 0, none⟩), .pointer (some ⟨b, 0, none⟩), .pointer (some ⟨b + 1, 0, none⟩)] (fun t : { t : Tide // t ∈ tidesL m g l (g ⟨m.nl, m.nh⟩) plan 0 } => encT t.1) (Sv (tidesP w.heap.size b))
      (fun ys => ys.map (·.1) = tidesL m g l (g ⟨m.nl, m.nh⟩) plan 0) (fun pre => True) plan.length W := fun lp J Jx W' hW' hJ hJx hY hj => by
  refine (tides1_inP m g fo A c l A2 c2 plan hfi hE hg lp b w hr hc hr2 hc2 hb (fun pre W => ∃ q, q.map (·.1) = pre ∧ J q W) (fun pre W => ∃ q, q.map (·.1) = pre ∧ Jx q W) W' (hW.then hW') ?_ ?_ (Up.cell hW' h0)
    ⟨Up.cell hW' hv.1, Up.cell hW' hv.2.1, Up.cell hW' hv.2.2.1, Up.cell hW' hv.2.2.2.1, Up.cell hW' hv.2.2.2.2.1, Up.cell hW' hv.2.2.2.2.2.1, Up.cell hW' hv.2.2.2.2.2.2.1, Up.cell hW' hv.2.2.2.2.2.2.2⟩ (Up.cell hW' hp) (Nat.lt_of_lt_of_le hbW hW'.size) ⟨[], rfl, hj⟩).mono ?_
  · rintro s X Y row ⟨q, h1, h2⟩ hg2 hr2
    exact ⟨q, h1, hJ q X Y row h2 hg2 hr2⟩
  · rintro pre x W1 ⟨q, rfl, h2⟩ hlen hpre
    have hx : x ∈ tidesL m g l (g ⟨m.nl, m.nh⟩) plan 0 := hpre.subset (by simp)
    obtain ⟨fn, tmps, assign, body, hy, hR⟩ := hY q ⟨x, hx⟩ W1 h2 (by simpa using hlen)
    refine ⟨fn, tmps, assign, body, hy, hR.mono ?_⟩
    rintro e W3 (⟨rfl, h3, h4⟩ | ⟨rfl, h3⟩)
    · exact .inl ⟨rfl, ⟨q ++ [⟨x, hx⟩], by simp, h3⟩, h4⟩
    · exact .inr ⟨rfl, q ++ [⟨x, hx⟩], by simp, h3⟩
  · rintro e W3 ⟨hv3, h⟩
    refine ⟨hv3, h.imp ?_ ?_⟩
    · rintro ⟨ys, rfl, q, h3, h4⟩
      exact ⟨q, h3, h4⟩
    · rintro ⟨pre, _, q, _, h4⟩
      exact ⟨q, trivial, h4⟩
theorem Bx.own {A B : World} {row : Option Nat} {b : Nat} {C : Array Value} {T : Nat} (h : Bx A b C T) (hg : A.grownBy B row) (hr : ∀ r, row = some r → ∃ o : Obj, A.heap[r]? = some o ∧ o.isCells = false) : Bx B b C T := by
  refine (hg.block b h.lt (fun e => ?_)).trans h
  obtain ⟨o, h1, h2⟩ := hr b e.symm
  rw [show A.heap[b]? = _ from h] at h1
  cases h1
  cases h2
theorem Sv.grown {p : Nat → Prop} {W W' : World} {row : Option Nat} (hg : W.grownBy W' row) (hlt : ∀ k, p k → k < W.heap.size) (hne : ∀ k, p k → some k ≠ row) : Sv p W W' :=
  ⟨hg.os, hg.tape, hg.output, hg.size, fun k hk => hg.block k (hlt k hk) (hne k hk)⟩
def lowT (t : Tide) : Sp := ⟨t.left, 0⟩
theorem tidesL_get (m : Mill) (g : Sp → Int) (l : List Sp) : ∀ (p : List Int) (water : Int) (h i : Nat) (t : Tide), (tidesL m g l water p h)[i]? = some t → t.hour = h + i
  | [], _, _, _, _, e => by simp [tidesL] at e
  | k :: p, water, h, i, t, e => by
    simp only [tidesL] at e
    cases i with
    | zero => simp at e; subst e; rfl
    | succ i =>
      rw [List.getElem?_cons_succ] at e
      split at e
      · simp at e
      · have := tidesL_get m g l p _ (h + 1) i t e
        omega
theorem tidesL_full (m : Mill) (g : Sp → Int) (l : List Sp) : ∀ (p : List Int) (water : Int) (h : Nat), (∀ t ∈ tidesL m g l water p h, ¬ t.left < 0) → (tidesL m g l water p h).length = p.length
  | [], _, _, _ => rfl
  | k :: p, water, h, hall => by
    simp only [tidesL] at hall ⊢
    have h0 := hall _ (List.mem_cons_self ..)
    simp only at h0
    rw [if_neg h0] at hall ⊢
    rw [List.length_cons, List.length_cons, tidesL_full m g l p _ (h + 1) (fun t ht => hall t (List.mem_cons_of_mem _ ht))]
theorem dryS_none (m : Mill) (g : Sp → Int) (l : List Sp) (p : List Int) (h : dryS m g l p = -1) : ∀ t ∈ tidesL m g l (g ⟨m.nl, m.nh⟩) p 0, ¬ t.left < 0 := by
  intro t ht hneg
  unfold dryS dryF at h
  split at h
  · omega
  · rename_i hn
    have := List.find?_eq_none.1 hn t ht
    simp at this
    omega
def lvl (m : Mill) (g : Sp → Int) (l : List Sp) (plan : List Int) (h : Nat) : Int := ((tidesL m g l (g ⟨m.nl, m.nh⟩) plan 0).map (·.left)).getD h 0
def levM (m : Mill) (l : List Sp) (plan : List Int) (hs : List Nat) : List Sp := (List.range plan.length).map (fun h => ⟨lvl m Sp.lo l plan h, if h ∈ hs then lvl m Sp.hi l plan h else 0⟩)
def levelsL (m : Mill) (l : List Sp) (plan : List Int) : List Sp := (List.range plan.length).map (fun h => ⟨lvl m Sp.lo l plan h, lvl m Sp.hi l plan h⟩)
theorem levM_length (m : Mill) (l : List Sp) (plan : List Int) (hs : List Nat) : (levM m l plan hs).length = plan.length := by simp [levM]
theorem levM_rd (m : Mill) (l : List Sp) (plan : List Int) (hs : List Nat) (i : Nat) (h : i < plan.length) : rdS (levM m l plan hs) (i : Nat) = ⟨lvl m Sp.lo l plan i, if i ∈ hs then lvl m Sp.hi l plan i else 0⟩ := by
  rw [rdS_nat _ _ (by rw [levM_length]; exact h)]
  simp [levM]
theorem levM_start (m : Mill) (l : List Sp) (plan : List Int) (ys : List Tide) (hy : ys = tidesL m Sp.lo l (Sp.lo ⟨m.nl, m.nh⟩) plan 0) (hl : ys.length = plan.length) : ys.map lowT = levM m l plan [] := by
  apply List.ext_getElem
  · simp [levM, hl]
  · intro i h1 h2
    have h3 : i < ys.length := by simpa using h1
    simp [levM, lowT, lvl, ← hy, h3]
theorem mem_tides (m : Mill) (g : Sp → Int) (l : List Sp) (plan : List Int) (t : Tide) (ht : t ∈ tidesL m g l (g ⟨m.nl, m.nh⟩) plan 0) : t.hour < plan.length ∧ lvl m g l plan t.hour = t.left := by
  obtain ⟨i, hi⟩ := List.getElem?_of_mem ht
  have h1 := tidesL_get m g l plan _ 0 i t hi
  have h2 := tidesL_hours m g l plan _ 0 t ht
  rw [Nat.zero_add] at h1
  refine ⟨by omega, ?_⟩
  rw [h1]
  simp [lvl, List.getD_eq_getElem?_getD, hi]
theorem levM_set (m : Mill) (l : List Sp) (plan : List Int) (hs : List Nat) (i : Nat) (v : Int) (h : i < plan.length) (hv : lvl m Sp.hi l plan i = v) : (levM m l plan hs).set i ⟨lvl m Sp.lo l plan i, v⟩ = levM m l plan (hs ++ [i]) := by
  apply List.ext_getElem
  · simp [levM]
  · intro j h1 h2
    simp only [List.length_set, levM_length] at h1
    by_cases e : i = j
    · subst e
      simp [levM, hv]
    · simp [levM, e, Ne.symm e]
theorem levM_all (m : Mill) (l : List Sp) (plan : List Int) (hs : List Nat) (h : ∀ i, i < plan.length → i ∈ hs) : levM m l plan hs = levelsL m l plan := by
  apply List.ext_getElem
  · simp [levM, levelsL]
  · intro j h1 h2
    simp only [levM_length] at h1
    simp [levM, levelsL, h j h1]
theorem more_water (m : Mill) (l : List Sp) (hl : ∀ j, (rdS l (j : Nat)).lo ≤ (rdS l (j : Nat)).hi) : ∀ (p : List Int) (wl wh : Int) (h : Nat), wl ≤ wh → (∀ t ∈ tidesL m Sp.lo l wl p h, ¬ t.left < 0) → ∀ t ∈ tidesL m Sp.hi l wh p h, ¬ t.left < 0
  | [], _, _, _, _, _ => by simp [tidesL]
  | k :: p, wl, wh, h, hw, hall => by
    have hlh := hl h
    simp only [tidesL] at hall ⊢
    have h0 := hall _ (List.mem_cons_self ..)
    have hle : leftA m Sp.lo l wl h k ≤ leftA m Sp.hi l wh h k := by
      simp only [leftA, fullA]
      omega
    simp only at h0
    rw [if_neg h0] at hall
    have h1 : ¬ leftA m Sp.hi l wh h k < 0 := by omega
    rw [if_neg h1]
    intro t ht
    rcases List.mem_cons.1 ht with rfl | ht
    · exact h1
    · exact more_water m l hl p _ _ (h + 1) hle (fun t ht => hall t (List.mem_cons_of_mem _ ht)) t ht
theorem Sps.setHi {w g T xs} (h : Sps w g T xs) (i : Nat) (hi : i < xs.length) (b : Int) : Sps (w.setCell ⟨g, 2 * i + 1, none⟩ (.int .i64 b)) g T (xs.set i ⟨(rdS xs i).lo, b⟩) := by
  obtain ⟨cur, h1, h2⟩ := h
  have hb2 := (Array.getElem?_eq_some_iff.1 (h2 i hi).2).1
  refine ⟨cur.setIfInBounds (2 * i + 1) (.int .i64 b), ?_, fun j hj => ?_⟩
  · unfold World.setCell
    dsimp only
    rw [Array.getElem?_modify, if_pos rfl, h1]
    rfl
  · rw [List.length_set] at hj
    rw [rdS_set _ _ _ _ hi]
    have h3 := h2 j hj
    by_cases e : j = i
    · subst e
      simp only [if_pos trivial, Array.getElem?_setIfInBounds]
      rw [if_neg (by omega), if_pos hb2]
      exact ⟨h3.1, rfl⟩
    · simp only [if_neg e, Array.getElem?_setIfInBounds]
      rw [if_neg (by omega), if_neg (by omega)]
      exact h3
theorem Sps.own {A B : World} {row : Option Nat} {g T : Nat} {xs : List Sp} (h : Sps A g T xs) (hg : A.grownBy B row) (hr : ∀ r, row = some r → ∃ o : Obj, A.heap[r]? = some o ∧ o.isCells = false) : Sps B g T xs := by
  obtain ⟨cur, h1, h2⟩ := h
  exact ⟨cur, Bx.own h1 hg hr, h2⟩
def Spc (w : World) (g T cap : Nat) (xs : List Sp) : Prop := (xs.length ≤ cap ∧ cap ≤ maxLen) ∧ ∃ cur, w.heap[g]? = some (.cells cur T (0, 0)) ∧ cur.size = cap * 2 ∧ ∀ i, i < xs.length → cur[2 * i]? = some (.int .i64 (rdS xs i).lo) ∧ cur[2 * i + 1]? = some (.int .i64 (rdS xs i).hi)
theorem Spc.sps {w g T cap xs} (h : Spc w g T cap xs) : Sps w g T xs := by
  obtain ⟨_, cur, h1, _, h2⟩ := h
  exact ⟨cur, h1, h2⟩
theorem Spc.up {w w' g T cap xs} (h : Spc w g T cap xs) (hu : Up w w') : Spc w' g T cap xs := by
  have hl := h.sps.lt
  obtain ⟨h0, cur, h1, h2⟩ := h
  exact ⟨h0, cur, (hu.block g hl).trans h1, h2⟩
theorem Spc.far {w g T cap xs} (h : Spc w g T cap xs) {B : Nat} (hne : g ≠ B) (o : Nat) (u : Value) : Spc (w.setCell ⟨B, o, none⟩ u) g T cap xs := by
  obtain ⟨h0, cur, h1, h2⟩ := h
  exact ⟨h0, cur, (Below.heap_setCell w ⟨B, o, none⟩ u g hne).trans h1, h2⟩
theorem Spc.own {A B : World} {row : Option Nat} {g T cap : Nat} {xs : List Sp} (h : Spc A g T cap xs) (hg : A.grownBy B row) (hr : ∀ r, row = some r → ∃ o : Obj, A.heap[r]? = some o ∧ o.isCells = false) : Spc B g T cap xs := by
  obtain ⟨h0, cur, h1, h2⟩ := h
  exact ⟨h0, cur, Bx.own h1 hg hr, h2⟩
theorem Spc.setHi {w g T cap xs} (h : Spc w g T cap xs) (i : Nat) (hi : i < xs.length) (b : Int) : Spc (w.setCell ⟨g, 2 * i + 1, none⟩ (.int .i64 b)) g T cap (xs.set i ⟨(rdS xs i).lo, b⟩) := by
  obtain ⟨h0, cur, h1, hs, h2⟩ := h
  have h5 : (w.setCell ⟨g, 2 * i + 1, none⟩ (.int .i64 b)).heap[g]? = some (.cells (cur.setIfInBounds (2 * i + 1) (.int .i64 b)) T (0, 0)) := by
    unfold World.setCell
    dsimp only
    rw [Array.getElem?_modify, if_pos rfl, h1]
    rfl
  obtain ⟨cur', h3, h4⟩ := (show Sps w g T xs from ⟨cur, h1, h2⟩).setHi i hi b
  rw [h5] at h3
  cases h3
  exact ⟨by rw [List.length_set]; exact h0, _, h5, by simp [hs], h4⟩
theorem Spc.ofOwn {w : World} {base T : Nat} {v : Value} {xs : List Sp} (h : w.ownsRow base T 2 v xs.length (cellsS xs)) (h0 : 0 < xs.length) : ∃ g cap, v = .slice (some ⟨g, 0, none⟩) xs.length cap ∧ base ≤ g ∧ xs.length ≤ cap ∧ Spc w g T cap xs := by
  rcases h.2 with ⟨_, hn⟩ | ⟨g, cap, cur, rfl, hb, hg, hcap, hml, hsz, htk⟩
  · omega
  · have hget : ∀ k, k < xs.length * 2 → cur[k]? = (cellsS xs)[k]? := by
      intro k hk
      rw [← htk, List.getElem?_take, if_pos hk, Array.getElem?_toList]
    refine ⟨g, cap, rfl, hb, hcap, ⟨hcap, hml⟩, cur, hg, hsz, fun i hi => ⟨?_, ?_⟩⟩
    · rw [hget _ (by omega), cellsS_lo xs i hi]
    · rw [hget _ (by omega), cellsS_hi xs i hi]
theorem Spc.toOwn {w : World} {base g T cap : Nat} {xs : List Sp} (h : Spc w g T cap xs) (hb : base ≤ g) : w.ownsRow base T 2 (.slice (some ⟨g, 0, none⟩) xs.length cap) xs.length (cellsS xs) := by
  obtain ⟨⟨h1, h2⟩, cur, h3, h4, h5⟩ := h
  refine ⟨cellsS_length xs, .inr ⟨g, cap, cur, rfl, hb, h3, h1, h2, h4, ?_⟩⟩
  apply List.ext_getElem?
  intro j
  rw [List.getElem?_take]
  split
  · rw [Array.getElem?_toList]
    have hlt : j / 2 < xs.length := by omega
    rcases Nat.mod_two_eq_zero_or_one j with e | e
    · rw [show j = 2 * (j / 2) by omega, (h5 (j / 2) hlt).1, cellsS_lo xs (j / 2) hlt]
    · rw [show j = 2 * (j / 2) + 1 by omega, (h5 (j / 2) hlt).2, cellsS_hi xs (j / 2) hlt]
  · rw [List.getElem?_eq_none]
    rw [cellsS_length]
    omega
abbrev TD (m : Mill) (g : Sp → Int) (l : List Sp) (plan : List Int) : Type := { t : Tide // t ∈ tidesL m g l (g ⟨m.nl, m.nh⟩) plan 0 }
def hoursOf {m g l plan} (pre : List (TD m g l plan)) : List Nat := pre.map fun t => t.1.hour
theorem hoursOf_snoc {m g l plan} (pre : List (TD m g l plan)) (x : TD m g l plan) : hoursOf pre ++ [x.1.hour] = hoursOf (pre ++ [x]) := by simp [hoursOf]
theorem hoursOf_all {m g l plan} (zs : List (TD m g l plan)) (h : zs.map (·.1) = tidesL m g l (g ⟨m.nl, m.nh⟩) plan 0) (hl : (tidesL m g l (g ⟨m.nl, m.nh⟩) plan 0).length = plan.length) : ∀ i, i < plan.length → i ∈ hoursOf zs := by
  intro i hi
  have h1 : (zs.map (·.1))[i]? = some ((tidesL m g l (g ⟨m.nl, m.nh⟩) plan 0)[i]'(by omega)) := by rw [h, List.getElem?_eq_getElem]
  rw [List.getElem?_map] at h1
  obtain ⟨t, ht, he⟩ := Option.map_eq_some_iff.1 h1
  have h2 := tidesL_get m g l plan _ 0 i _ (List.getElem?_eq_getElem (l := tidesL m g l (g ⟨m.nl, m.nh⟩) plan 0) (i := i) (by omega))
  refine List.mem_map.2 ⟨t, List.mem_of_getElem? ht, ?_⟩
  rw [he, h2]
  omega
def lowC {m g l plan} (pre : List (TD m g l plan)) : List Value := cellsS (pre.map fun t => lowT t.1)
set_option maxRecDepth 100000 in
set_option maxHeartbeats 4000000 in
theorem levelsG (m : Mill) (A : Option Addr) (c : Nat) (l : List Sp) (A2 : Option Addr) (c2 : Nat) (plan : List Int) (h0 : openE m l plan l.length = 0) (h1 : rightB m l plan = true)
    (w : World) (hr : Kd.C kSp w A l.length l) (hc : l.length ≤ c) (hr2 : Kd.C (Kd.int .i64) w A2 plan.length plan) (hc2 : plan.length ≤ c2) :
    Calls Try.prog 20 #[.agg #[.int .i64 m.H, .int .i64 m.T, .int .i64 m.bl, .int .i64 m.bh, .int .i64 m.ho, .int .i64 m.nl, .int .i64 m.nh], .slice A l.length c, .slice A2 plan.length c2] w fun e w' => ∃ v, e = .returned (.tuple #[v, .int .i64 0]) ∧ w'.ownsRow w.heap.size 23 2 v (levelsL m l plan).length (cellsS (levelsL m l plan)) ∧ Up w w' := by
  refine (callsIn_wide (n := 6)).1 ?_
  refine callsIn_of_wp_marks Try.func20 rfl trivial ?_ rfl
  simp only [Try.ntmps20, List.size_toArray, List.length_cons, List.length_nil, Nat.reduceAdd, Nat.reduceSub, Array.replicate_succ, Array.replicate_zero, List.push_toArray, List.append_toArray, List.nil_append, List.cons_append]
  have HR := Aside0.mk hr
  have HR2 := Aside0.mk hr2
  have hv := open_of m l plan _ h0
  have hlo := fine_lo hv.1 hv.2
  have hhi := fine_hi hv.1 hv.2
  have H0 := Aside0.mk h0
  have h00 : (openE m l plan l.length != 0) = false := by simp [h0]
  have HV := Aside0.mk hv
  clear hr hr2 h0 hv
  gi_wp2_with fail
  refine ⟨trivial, (callsIn_wide.2 (openPlan m A c l A2 c2 plan _ _ (C_up HR.out upA) hc (C_up HR2.out upA) hc2)).mono ?_⟩
  rintro e w1 ⟨rfl, hb⟩
  have HB1 := Aside0.mk hb
  obtain ⟨hcA, hfA⟩ := hb.old
  have hz := hb.le
  (try simp at hz)
  have hz0 : w.heap.size < w1.heap.size := by omega
  have hz1 : w.heap.size + 1 < w1.heap.size := by omega
  clear hb
  gi_wp2_with fail
  refine ⟨trivial, (callsIn_wide.2 (isRight_ m A c l A2 c2 plan hlo _ (C_up HR.out upA) hc (C_up HR2.out upA) hc2)).mono ?_⟩
  rintro e w2 ⟨rfl, hb2⟩
  have HB2 := Aside0.mk hb2
  obtain ⟨hcB, hfB⟩ := hb2.old
  have hz2 := hb2.le
  (try simp at hz2)
  clear hb2
  gi_wp2_with fail
  refine ⟨trivial, (callsIn_wide.2 (tides_ m A l.length c A2 plan.length c2 63 _)).mono ?_⟩
  rintro e w3 ⟨rfl, rfl⟩
  gi_wp2_with fail
  have hbx0 : Boxed w2 (w.heap.size + 1) 26 (.slice none 0 0) := by
    have h := (Bx.new (w.alloc (.cells #[.int .i64 m.H, .int .i64 m.T, .int .i64 m.bl, .int .i64 m.bh, .int .i64 m.ho, .int .i64 m.nl, .int .i64 m.nh] 25)) #[.slice none 0 0] 26).up HB1.out
    simp only [World.size_alloc] at h
    exact (h.up ((Up.refl w1).alloc _)).up HB2.out
  have hbv0 : Bx w2 w1.heap.size (valA m (.slice A l.length c)) 98 := (Bx.new w1 _ _).up HB2.out
  have hw0 : Up w w2 := upA
  have HBX := Aside0.mk hbx0
  have HBV := Aside0.mk hbv0
  have HW0 := Aside0.mk hw0
  obtain ⟨i0, hi0, hk0, hk1, hk2⟩ := info_parts info_span
  clear hbx0 hbv0 hw0 hcA hfA hcB hfB
  refine wpIn_rangeFunc_ownH (F := Fence.wide) rfl (by decide) (gf := 94) (lb := #[.pointer (some ⟨w2.heap.size + 2, 0, none⟩), .pointer (some ⟨w2.heap.size, 0, none⟩), .pointer (some ⟨w2.heap.size + 1, 0, none⟩)]) rfl trivial (enters_of Try.func94 (by kernel_rfl) rfl)
    (tides_stopsM m Sp.lo 63 A c l A2 c2 plan hlo (by intro a w; kernel_rfl) (fun a b W => low_ a b W) w2.heap.size w HR.out hc HR2.out hc2 (by omega) _ ?up ?c1 ?c2 ?c3 ?c4) Sv.trans
    (fun W q o o' hq _ _ _ => Sv.put W q o' (by simp at hq; simp only [tidesP]; omega)) (Below.refl _ _) (fun _ => rfl)
    (fun pre W => (∃ v, Boxed W (w.heap.size + 1) 26 v ∧ W.ownsRow (w2.heap.size + 3) 23 2 v pre.length (lowC pre) ∧ True) ∧ Bx W w1.heap.size (valA m (.slice A l.length c)) 98 ∧ Below w.heap.size w W ∧ w2.heap.size + 3 ≤ W.heap.size)
    (fun q pre W => False)
    (OwnFrom.and (Own.from (holdsRow_own (w2.heap.size + 3) (w.heap.size + 1) 26 23 2 (fun pre : List (TD m Sp.lo l plan) => pre.length) (fun pre => lowC pre) (fun _ _ => True)) _) (fun s X Y row hs hg hr => ⟨hs.1.own hg (fun r e => (hr r e).2), hs.2.1.grown hg hs.2.1.size (fun k e => by have := (hr k e).1; simp at this; omega), by have := hg.size; omega⟩))
    (fun q s A B row hs _ _ => hs.elim)
    ⟨⟨.slice none 0 0, ?c5, own_nil _ _ _ _, trivial⟩, ?c6, ?up2, ?c8⟩
    (fun x a' W => ∃ Bq, w2.heap.size + 3 ≤ Bq ∧ W.cell? ⟨Bq, 0, none⟩ = some (.int .i64 x.1.full) ∧ W.cell? ⟨Bq, 1, none⟩ = some (.int .i64 x.1.left) ∧ a' = { tmps := #[.agg #[.int .i64 m.H, .int .i64 m.T, .int .i64 m.bl, .int .i64 m.bh, .int .i64 m.ho, .int .i64 m.nl, .int .i64 m.nh], .slice A l.length c, .slice A2 plan.length c2, .pointer (some ⟨w.heap.size, 0, none⟩), undef, undef, .pointer (some ⟨w.heap.size + 1, 0, none⟩), .int .i64 (openE m l plan l.length), .pointer (some ⟨w1.heap.size, 0, none⟩), undef, .pointer (some ⟨Bq, 0, none⟩), undef, undef, (.tuple #[.agg #[.int .i64 m.H, .int .i64 m.T, .int .i64 m.bl, .int .i64 m.bh, .int .i64 m.ho, .int .i64 m.nl, .int .i64 m.nh, .slice A l.length c], .int .i64 (openE m l plan l.length)]), .agg #[.int .i64 m.H, .int .i64 m.T, .int .i64 m.bl, .int .i64 m.bh, .int .i64 m.ho, .int .i64 m.nl, .int .i64 m.nh], .slice A l.length c, .slice A2 plan.length c2, .slice A l.length c, .int .i64 (l.length : Int), (.tuple #[.agg #[.int .i64 m.H, .int .i64 m.T, .int .i64 m.bl, .int .i64 m.bh, .int .i64 m.ho, .int .i64 m.nl, .int .i64 m.nh, .slice A l.length c], .int .i64 (openE m l plan l.length)]), .agg #[.int .i64 m.H, .int .i64 m.T, .int .i64 m.bl, .int .i64 m.bh, .int .i64 m.ho, .int .i64 m.nl, .int .i64 m.nh, .slice A l.length c], .int .i64 (openE m l plan l.length), .bool false, .int .i64 (openE m l plan l.length), .bool false, undef, .bool false, .agg #[.int .i64 m.H, .int .i64 m.T, .int .i64 m.bl, .int .i64 m.bh, .int .i64 m.ho, .int .i64 m.nl, .int .i64 m.nh, .slice A l.length c], .slice A2 plan.length c2, .bool true, .bool false, .agg #[.int .i64 m.H, .int .i64 m.T, .int .i64 m.bl, .int .i64 m.bh, .int .i64 m.ho, .int .i64 m.nl, .int .i64 m.nh, .slice A l.length c], .slice A2 plan.length c2, .func (.func 94) #[] #[.pointer (some ⟨w2.heap.size + 2, 0, none⟩), .pointer (some ⟨w2.heap.size, 0, none⟩), .pointer (some ⟨w2.heap.size + 1, 0, none⟩)], .int .i64 (x.1.hour : Int), .agg #[.int .i64 x.1.full, .int .i64 x.1.left], undef, undef, undef, undef, undef, undef, undef, undef, undef, undef, undef, undef, undef, undef, undef, undef, undef, undef], defers := [] })
    (fun x a' => Own.from (fun s A B row hs hg hr => by obtain ⟨Bq, h1, h2, h3, h4⟩ := hs; exact ⟨Bq, h1, cell_kept h2 hg hr, cell_kept h3 hg hr, h4⟩) _)
    ?assign ?body ?done ?stop
  case up => exact upA
  case up2 =>
    show Up _ _
    exact upA
  case c1 => simp [go_sem]
  case c2 => simp [go_sem]
  case c3 => simp [go_sem]
  case c4 => simp
  case c5 => exact ((HBX.out.alloc _).alloc _).alloc _
  case c6 => exact HBV.out.up upA
  case c8 => simp
  case assign =>
    rintro q pre x W K ⟨⟨v, h1, h2, h3⟩, hB, hBl, hz3⟩ hK
    dsimp only [encT]
    gi_wp2_with fail
    refine hK _ _ ((KeepsOthers.alloc _ _).from _) (Sv.alloc (Sv.refl (tidesP w.heap.size w2.heap.size) W) _ ?z1) ⟨⟨v, h1.alloc _, own_up h2 ((Up.refl _).alloc _), trivial⟩, hB.up ((Up.refl _).alloc _), hBl.alloc hBl.size _, ?z2⟩ ⟨W.heap.size, hz3, ?z3, ?z4, rfl⟩
    case z1 => simp only [tidesP]; omega
    case z2 => simp; omega
    case z3 => simp
    case z4 => simp
  case body =>
    rintro q pre x a' W hq _ ⟨⟨v, h1, h2, h3⟩, hB, hBl, hz3⟩ ⟨Bq, hx1, hx2, hx3, rfl⟩ hN
    have hbc := h1.cell
    have hbf := h1.frozen
    have hu := Try.underlying23
    have hbl := h1.lt
    have H1 := Aside0.mk h1
    have H2 := Aside0.mk h2
    have HBB := Aside0.mk hB
    have HBL := Aside0.mk hBl
    clear h1 h2 h3 hB hBl
    dsimp only
    gi_wp2_with (gi_at_builtin; refine wpListIn_append_own _ rfl _ _ 26 rfl (w2.heap.size + 3) 23 i0 _ 2 16 Try.underlying26 hi0 hk0 hk1 hk2 rfl (by decide) v pre.length (lowC pre) rfl (own_up H2.out ((Up.refl W).alloc _)) ⟨W.heap.size, 0, none⟩ 1 1 [.int .i64 x.1.left, .int .i64 0] rfl rfl ?qc2 ?qc3 ?qc4 ?qc5 ?qc6 ?_)
    case qc3 => exact ⟨rfl, rfl⟩
    case qc4 => unfold maxLen; have := hlo.len; have := HV.out.1.len; omega
    case qc5 => have := hlo.len; have := HV.out.1.len; omega
    case qc6 => omega
    intro v' w3 hown hgrow _
    obtain ⟨g, cap, rfl⟩ := ownsRow_succ hown
    obtain ⟨hA1, hA2, hA3, hA4, hA5⟩ := Boxed.appended (n₀ := w.heap.size + 1) H1.out (by decide) (own_mono H2.out (by omega)) (by omega) (Nat.le_refl _) (own_mono hown (by omega)) hgrow
    have hrow3 := hown.kept (grownBy_setCell' w3 (w.heap.size + 1) (.slice (some ⟨g, 0, none⟩) (pre.length + 1) cap)) (.inr (hA1.not_row (by decide) hown).symm)
    have hlc : lowC (pre ++ [x]) = lowC pre ++ [.int .i64 x.1.left, .int .i64 0] := by
      simp only [lowC, List.map_append, cellsS_append, List.map_cons, List.map_nil, lowT]
      rfl
    rw [← hlc] at hrow3
    have hbx3 := ((HBB.out.up ((Up.refl W).alloc (.cells #[.int .i64 x.1.left, .int .i64 0] 23))).app (own_up H2.out ((Up.refl W).alloc _)) hgrow (by decide)).far (B' := w.heap.size + 1) (by omega) 0 (.slice (some ⟨g, 0, none⟩) (pre.length + 1) cap)
    have hsv : Sv (tidesP w.heap.size w2.heap.size) W (w3.setCell ⟨w.heap.size + 1, 0, none⟩ (.slice (some ⟨g, 0, none⟩) (pre.length + 1) cap)) := by
      refine Sv.set ((Sv.alloc (Sv.refl _ W) _ ?_).trans (Sv.grown hgrow ?_ ?_)) _ _ ?_
      · intro k hk; simp only [tidesP] at hk; omega
      · intro k hk; simp only [tidesP] at hk; simp; omega
      · intro k hk e
        have := own_base H2.out k e.symm
        simp only [tidesP] at hk
        omega
      · simp only [tidesP]; omega
    have hc1 := hA1.cell
    have hc2 := hA1.frozen
    have hsz3 := hA2.lt
    have HSV := Aside0.mk hsv
    have HR3 := Aside0.mk hrow3
    have HX3 := Aside0.mk hbx3
    have HA2 := Aside0.mk hA2
    have HA4 := Aside0.mk hA4
    have HA5 := Aside0.mk hA5
    have hszz : w2.heap.size + 3 ≤ (w3.setCell ⟨w.heap.size + 1, 0, none⟩ (.slice (some ⟨g, 0, none⟩) (pre.length + 1) cap)).heap.size := Nat.le_trans hz3 hA5.size
    have HSZ := Aside0.mk hszz
    clear hown hgrow hsv hrow3 hbx3 hA2 hA3 hA4 hA5 hA1 hlc hszz
    gi_wp2_with fail
    exact ⟨HA4.out.from _, HSV.out, ⟨_, HA2.out, by rw [List.length_append]; exact HR3.out⟩, HX3.out, HBL.out.trans (HA5.out.mono (by omega)), HSZ.out⟩
  case stop =>
    rintro D q pre W hD hpre hI
    exact hI.elim
  case done =>
    rintro D ys W hD hys ⟨⟨v, h1, h2, h3⟩, hB, hBl, hz3⟩ hK
    have hbc := hB.cell
    simp only [valA] at hbc
    have H1 := Aside0.mk h1
    have H2 := Aside0.mk h2
    have HBB := Aside0.mk hB
    have HBL := Aside0.mk hBl
    have HYS := Aside0.mk hys
    clear h1 h2 h3 hB hBl hys
    gi_wp2_with fail
    refine ⟨trivial, (callsIn_wide.2 (tides_ m A l.length c A2 plan.length c2 64 _)).mono ?_⟩
    rintro e w3 ⟨rfl, rfl⟩
    gi_wp2_with fail
    have hdl := dryS_none m Sp.lo l plan (by simpa [rightB] using h1)
    have hfull := tidesL_full m Sp.lo l plan _ 0 hdl
    have hpos : 0 < plan.length := by have := (planB_iff _ _ _ _).1 HV.out.2; have := HV.out.1.len; omega
    have hys2 : ys.length = plan.length := by have := congrArg List.length HYS.out; simp only [List.length_map] at this; rw [this]; exact hfull
    have hlc : lowC ys = cellsS (levM m l plan []) := by
      have h := levM_start m l plan (ys.map (·.1)) HYS.out (by rw [List.length_map]; exact hys2)
      rw [← h, lowC, List.map_map]
      rfl
    have hrow := H2.out
    rw [hlc, hys2, ← levM_length m l plan []] at hrow
    obtain ⟨g, cap, rfl, hg, hcap, hS⟩ := Spc.ofOwn hrow (by rw [levM_length]; exact hpos)
    rw [levM_length] at hcap H1
    have hgl := hS.sps.lt
    have HS := Aside0.mk hS
    have hDl : D < W.heap.size := (Array.getElem?_eq_some_iff.1 hK).1
    clear hrow hS hbc hlc
    refine wpIn_rangeFunc_ownH (F := Fence.wide) rfl (by decide) (gf := 94) (lb := #[.pointer (some ⟨W.heap.size + 2, 0, none⟩), .pointer (some ⟨W.heap.size, 0, none⟩), .pointer (some ⟨W.heap.size + 1, 0, none⟩)]) rfl trivial (enters_of Try.func94 (by kernel_rfl) rfl)
      (tides_stopsM m Sp.hi 64 A c l A2 c2 plan hhi (by intro a w; kernel_rfl) (fun a b W => high_ a b W) W.heap.size w HR.out hc HR2.out hc2 (by omega) _ ?up ?c1 ?c2 ?c3 ?c4) Sv.trans
      (fun X q o o' hq _ _ _ => Sv.put X q o' (by simp at hq; simp only [tidesP]; omega)) (Below.refl _ _) (fun _ => rfl)
      (fun pre : List (TD m Sp.hi l plan) => fun W' : World => (Boxed W' (w.heap.size + 1) 26 (.slice (some ⟨g, 0, none⟩) plan.length cap) ∧ Spc W' g 23 cap (levM m l plan (hoursOf pre))) ∧ Below w.heap.size w W' ∧ W.heap.size + 3 ≤ W'.heap.size ∧ W'.heap[D]? = some (.deferred (some [])))
      (fun q pre W => False)
      (OwnFrom.and (Own.from (fun s X Y row hs hg hr => ⟨Bx.own hs.1 hg hr, hs.2.own hg hr⟩) _) (fun s X Y row hs hg hr => ⟨hs.1.grown hg hs.1.size (fun k e => by have := (hr k e).1; simp at this; omega), by have := hg.size; omega, (hg.block D (Array.getElem?_eq_some_iff.1 hs.2.2).1 (fun e => by have := (hr D e.symm).1; simp at this; omega)).trans hs.2.2⟩))
      (fun q s A B row hs _ _ => hs.elim)
      ⟨⟨?c5, ?c6⟩, ?up2, ?c8, ?c9⟩
      (fun x a' W' => ∃ Bq, W.heap.size + 3 ≤ Bq ∧ W'.cell? ⟨Bq, 0, none⟩ = some (.int .i64 x.1.full) ∧ W'.cell? ⟨Bq, 1, none⟩ = some (.int .i64 x.1.left) ∧ a' = { tmps := #[.agg #[.int .i64 m.H, .int .i64 m.T, .int .i64 m.bl, .int .i64 m.bh, .int .i64 m.ho, .int .i64 m.nl, .int .i64 m.nh], .slice A l.length c, .slice A2 plan.length c2, .pointer (some ⟨w.heap.size, 0, none⟩), undef, undef, .pointer (some ⟨w.heap.size + 1, 0, none⟩), .int .i64 (openE m l plan l.length), .pointer (some ⟨w1.heap.size, 0, none⟩), undef, undef, .int .i64 (x.1.hour : Int), .pointer (some ⟨Bq, 0, none⟩), (.tuple #[.agg #[.int .i64 m.H, .int .i64 m.T, .int .i64 m.bl, .int .i64 m.bh, .int .i64 m.ho, .int .i64 m.nl, .int .i64 m.nh, .slice A l.length c], .int .i64 (openE m l plan l.length)]), .agg #[.int .i64 m.H, .int .i64 m.T, .int .i64 m.bl, .int .i64 m.bh, .int .i64 m.ho, .int .i64 m.nl, .int .i64 m.nh], .slice A l.length c, .slice A2 plan.length c2, .slice A l.length c, .int .i64 (l.length : Int), (.tuple #[.agg #[.int .i64 m.H, .int .i64 m.T, .int .i64 m.bl, .int .i64 m.bh, .int .i64 m.ho, .int .i64 m.nl, .int .i64 m.nh, .slice A l.length c], .int .i64 (openE m l plan l.length)]), .agg #[.int .i64 m.H, .int .i64 m.T, .int .i64 m.bl, .int .i64 m.bh, .int .i64 m.ho, .int .i64 m.nl, .int .i64 m.nh, .slice A l.length c], .int .i64 (openE m l plan l.length), .bool false, .int .i64 (openE m l plan l.length), .bool false, undef, .bool false, .agg #[.int .i64 m.H, .int .i64 m.T, .int .i64 m.bl, .int .i64 m.bh, .int .i64 m.ho, .int .i64 m.nl, .int .i64 m.nh, .slice A l.length c], .slice A2 plan.length c2, .bool true, .bool false, .agg #[.int .i64 m.H, .int .i64 m.T, .int .i64 m.bl, .int .i64 m.bh, .int .i64 m.ho, .int .i64 m.nl, .int .i64 m.nh, .slice A l.length c], .slice A2 plan.length c2, .func (.func 94) #[] #[.pointer (some ⟨w2.heap.size + 2, 0, none⟩), .pointer (some ⟨w2.heap.size, 0, none⟩), .pointer (some ⟨w2.heap.size + 1, 0, none⟩)], undef, undef, undef, undef, undef, undef, undef, undef, .agg #[.int .i64 m.H, .int .i64 m.T, .int .i64 m.bl, .int .i64 m.bh, .int .i64 m.ho, .int .i64 m.nl, .int .i64 m.nh, .slice A l.length c], .slice A2 plan.length c2, (.func (.func 94) #[] #[.pointer (some ⟨W.heap.size + 2, 0, none⟩), .pointer (some ⟨W.heap.size, 0, none⟩), .pointer (some ⟨W.heap.size + 1, 0, none⟩)]), .int .i64 (x.1.hour : Int), .agg #[.int .i64 x.1.full, .int .i64 x.1.left], undef, undef, undef, undef, undef, undef, undef], defers := [] })
      (fun x a' => Own.from (fun s A B row hs hg hr => by obtain ⟨Bq, h1, h2, h3, h4⟩ := hs; exact ⟨Bq, h1, cell_kept h2 hg hr, cell_kept h3 hg hr, h4⟩) _)
      ?assign ?body ?done ?stop
    case up => exact ((HBL.out.alloc HBL.out.size _).alloc (by simp; have := HBL.out.size; omega) _).alloc (by simp; have := HBL.out.size; omega) _
    case up2 => exact ((HBL.out.alloc HBL.out.size _).alloc (by simp; have := HBL.out.size; omega) _).alloc (by simp; have := HBL.out.size; omega) _
    case c1 => simp [go_sem]
    case c2 => simp [go_sem]
    case c3 => simp [go_sem]
    case c4 => simp
    case c5 => exact ((H1.out.alloc _).alloc _).alloc _
    case c6 => exact HS.out.up upA
    case c8 => simp
    case c9 =>
      have hU : Up W (((W.alloc (.cells #[.int .i64 m.H, .int .i64 m.T, .int .i64 m.bl, .int .i64 m.bh, .int .i64 m.ho, .int .i64 m.nl, .int .i64 m.nh, .slice A l.length c] 98)).alloc (.cells #[.slice A2 plan.length c2] 27)).alloc (.cells #[.func (.func 64) #[] #[]] 135)) := upA
      exact (hU.block D hDl).trans hK
    case assign =>
      rintro q pre x X K ⟨⟨h1, h2⟩, hB, hz5, hD5⟩ hK5
      dsimp only [encT]
      gi_wp2_with fail
      refine hK5 _ _ ((KeepsOthers.alloc _ _).from _) (Sv.alloc (Sv.refl (tidesP w.heap.size W.heap.size) X) _ ?z1) ⟨⟨h1.alloc _, h2.up ((Up.refl _).alloc _)⟩, hB.alloc hB.size _, ?z2, ?z5⟩ ⟨X.heap.size, hz5, ?z3, ?z4, rfl⟩
      case z1 => simp only [tidesP]; omega
      case z2 => simp; omega
      case z3 => simp
      case z4 => simp
      case z5 => exact (((Up.refl X).alloc _).block D (by omega)).trans hD5
    case body =>
      rintro q pre x a' X hq _ ⟨⟨h1, h2⟩, hB, hz5, hD5⟩ ⟨Bq, hx1, hx2, hx3, rfl⟩ hN
      obtain ⟨hm1, hm2⟩ := mem_tides m Sp.hi l plan x.1 x.2
      have hbc := h1.cell
      have hcl := h2.sps.cell x.1.hour (by rw [levM_length]; exact hm1)
      rw [Nat.mul_comm 2] at hcl
      have hcl2 := hcl.2
      have hcf := h2.sps.frozen
      have hi0 : (0 : Int) ≤ (x.1.hour : Int) := by omega
      have hi1 : (x.1.hour : Int) < (plan.length : Int) := by omega
      have hgD : g ≠ D := by
        intro e
        obtain ⟨_, cur, hc1, _⟩ := h2
        rw [e, hD5] at hc1
        cases hc1
      have hbn : w.heap.size + 1 ≠ g := by omega
      have hSn := h2.setHi x.1.hour (by rw [levM_length]; exact hm1) x.1.left
      rw [levM_rd _ _ _ _ _ hm1, Nat.mul_comm 2] at hSn
      simp only at hSn
      rw [levM_set m l plan _ _ _ hm1 hm2] at hSn
      rw [hoursOf_snoc] at hSn
      have HSN := Aside0.mk hSn
      have hb1 : Boxed (X.setCell ⟨g, x.1.hour * 2 + 1, none⟩ (.int .i64 x.1.left)) (w.heap.size + 1) 26 (.slice (some ⟨g, 0, none⟩) plan.length cap) := Bx.far (show Bx X _ #[_] _ from h1) hbn _ _
      have HB1' := Aside0.mk hb1
      have HBB5 := Aside0.mk hB
      have hD6 : (X.setCell ⟨g, x.1.hour * 2 + 1, none⟩ (.int .i64 x.1.left)).heap[D]? = some (.deferred (some [])) := (Below.heap_setCell X ⟨g, x.1.hour * 2 + 1, none⟩ (.int .i64 x.1.left) D (fun e => hgD e.symm)).trans hD5
      have HD6 := Aside0.mk hD6
      clear hcl hSn hb1 hB hD6 h1 h2
      dsimp only
      gi_wp2_with fail
      exact ⟨(KeepsOthers.setCell _ _ _).from _, Sv.set (Sv.refl _ X) _ _ (by simp only [tidesP]; omega), ⟨HB1'.out, HSN.out⟩, HBB5.out.setCell (p := ⟨g, x.1.hour * 2 + 1, none⟩) (by show _ ≤ g; omega) _, by simpa using hz5, HD6.out⟩
    case stop =>
      rintro D q pre W hD hpre hI
      exact hI.elim
    case done =>
      rintro D2 zs X hD2 hzs ⟨⟨h1, h2⟩, hB, hz5, hD5⟩ hK5
      have hbc := h1.cell
      have hbf := h1.frozen
      have hl8 : ∀ j, (rdS l (j : Nat)).lo ≤ (rdS l (j : Nat)).hi := by
        intro j
        by_cases hj : j < l.length
        · have := HV.out.1.flow (rdS l j) (by rw [rdS_nat l j hj]; exact List.getElem_mem _); omega
        · simp [rdS, List.getD_eq_getElem?_getD, List.getElem?_eq_none (Nat.le_of_not_lt hj), z_Sp]
      have hf2 := tidesL_full m Sp.hi l plan _ 0 (more_water m l hl8 plan _ (Sp.hi ⟨m.nl, m.nh⟩) 0 HV.out.1.now.2.1 hdl)
      have hall := levM_all m l plan (hoursOf zs) (hoursOf_all zs hzs hf2)
      rw [hall] at h2
      have hn1 : w.heap.size + 1 ≠ g := by omega
      have hDD : D ≠ D2 := by simp at hD2; omega
      have hD2L : D2 ≠ w.heap.size + 1 := by simp at hD2; have := h1.lt; omega
      have hDL : D ≠ w.heap.size + 1 := by simp at hD; omega
      have k1 : (X.setCell ⟨w.heap.size + 1, 0, none⟩ (.slice (some ⟨g, 0, none⟩) plan.length cap)).heap[D2]? = some (.deferred (some [])) := (Below.heap_setCell X ⟨w.heap.size + 1, 0, none⟩ _ D2 hD2L).trans hK5
      have k2 : (X.setCell ⟨w.heap.size + 1, 0, none⟩ (.slice (some ⟨g, 0, none⟩) plan.length cap)).heap[D]? = some (.deferred (some [])) := (Below.heap_setCell X ⟨w.heap.size + 1, 0, none⟩ _ D hDL).trans hD5
      have k3 : ((X.setCell ⟨w.heap.size + 1, 0, none⟩ (.slice (some ⟨g, 0, none⟩) plan.length cap)).putObj D2 (.deferred none)).heap[D]? = some (.deferred (some [])) := (World.putObj_heap_other hDD).trans k2
      have b1 : Boxed (X.setCell ⟨w.heap.size + 1, 0, none⟩ (.slice (some ⟨g, 0, none⟩) plan.length cap)) (w.heap.size + 1) 26 (.slice (some ⟨g, 0, none⟩) plan.length cap) := h1.set _
      have s1 := h2.far (fun e => hn1 e.symm) 0 (.slice (some ⟨g, 0, none⟩) plan.length cap)
      have g1 := grownBy_putObj' (X.setCell ⟨w.heap.size + 1, 0, none⟩ (.slice (some ⟨g, 0, none⟩) plan.length cap)) D2 (.deferred none)
      have g2 := grownBy_putObj' ((X.setCell ⟨w.heap.size + 1, 0, none⟩ (.slice (some ⟨g, 0, none⟩) plan.length cap)).putObj D2 (.deferred none)) D (.deferred none)
      have b2 := Bx.own (Bx.own b1 g1 (fun r e => by cases e; exact ⟨_, k1, rfl⟩)) g2 (fun r e => by cases e; exact ⟨_, k3, rfl⟩)
      have s2 := (s1.own g1 (fun r e => by cases e; exact ⟨_, k1, rfl⟩)).own g2 (fun r e => by cases e; exact ⟨_, k3, rfl⟩)
      have hU : Below w.heap.size w (((X.setCell ⟨w.heap.size + 1, 0, none⟩ (.slice (some ⟨g, 0, none⟩) plan.length cap)).putObj D2 (.deferred none)).putObj D (.deferred none)) :=
        ((hB.setCell (p := ⟨w.heap.size + 1, 0, none⟩) (by simp) _).trans (belowK_b (w := w) (Nat.le_refl _) _ D2 _ _ (by simp at hD2; omega) k1 rfl rfl)).trans (belowK_b (w := w) (Nat.le_refl _) _ D _ _ (by simp at hD; omega) k3 rfl rfl)
      have hbe := Bx.cell b2
      have K1 := Aside0.mk k1
      have K3 := Aside0.mk k3
      have S2 := Aside0.mk s2
      have HU := Aside0.mk hU
      clear k1 k2 k3 b1 s1 g1 g2 b2 s2 hU h2 hB hz5 hall hf2 hl8
      gi_wp2_with fail
      refine ⟨by simp, .inl ⟨_, _, rfl, run_takeDeferred (b := D2) K1.out, ?_⟩⟩
      refine ⟨by simp, .inl ⟨_, _, rfl, run_takeDeferred (b := D) K3.out, ?_⟩⟩
      refine ⟨.tuple #[.slice (some ⟨g, 0, none⟩) plan.length cap, .int .i64 0], ?_, _, rfl, ?_, HU.out⟩
      rotate_left
      · have := S2.out.toOwn (base := w.heap.size) (by omega)
        rw [show (levelsL m l plan).length = plan.length by rw [levelsL, List.length_map, List.length_range]] at this ⊢
        exact this
      simp [results, Try.f20, go_sem, hbe]
def levelsE (m : Mill) (l : List Sp) (plan : List Int) : Int := if openE m l plan l.length = 0 then (if rightB m l plan then 0 else 9) else openE m l plan l.length
def levelsS (m : Mill) (l : List Sp) (plan : List Int) : List Sp := if levelsE m l plan = 0 then levelsL m l plan else []
set_option maxRecDepth 100000 in
set_option maxHeartbeats 1000000 in
theorem levels_ (m : Mill) (A : Option Addr) (c : Nat) (l : List Sp) (A2 : Option Addr) (c2 : Nat) (plan : List Int)
    (w : World) (hr : Kd.C kSp w A l.length l) (hc : l.length ≤ c) (hr2 : Kd.C (Kd.int .i64) w A2 plan.length plan) (hc2 : plan.length ≤ c2) :
    Calls Try.prog 20 #[.agg #[.int .i64 m.H, .int .i64 m.T, .int .i64 m.bl, .int .i64 m.bh, .int .i64 m.ho, .int .i64 m.nl, .int .i64 m.nh], .slice A l.length c, .slice A2 plan.length c2] w fun e w' => ∃ v, e = .returned (.tuple #[v, .int .i64 (levelsE m l plan)]) ∧ w'.ownsRow w.heap.size 23 2 v (levelsS m l plan).length (cellsS (levelsS m l plan)) ∧ Up w w' := by
  by_cases h0 : openE m l plan l.length = 0
  · cases h1 : rightB m l plan
    · have hE : levelsE m l plan = 9 := by simp [levelsE, h0, h1]
      have hv := open_of m l plan _ h0
      have hlo := fine_lo hv.1 hv.2
      have HR := Aside0.mk hr
      have HR2 := Aside0.mk hr2
      have h00 : (openE m l plan l.length != 0) = false := by simp [h0]
      have HE := Aside0.mk hE
      clear hr hr2 h0 hv hE
      go_enter Try.func20, Try.ntmps20
      go_wp2_with fail
      (with_reducible refine (openPlan m A c l A2 c2 plan _ _ (C_up HR.out upA) hc (C_up HR2.out upA) hc2).mono ?_)
      rintro e w1 ⟨rfl, hb⟩
      have hbA := Aside0.mk hb
      obtain ⟨hcA, hfA⟩ := hb.old
      have hz := hb.le
      (try simp at hz)
      (try have hz0 : w.heap.size < w1.heap.size := by omega)
      (try have hzb : w.heap.size + 1 < w1.heap.size := by omega)
      (try have hzc : w.heap.size + 2 < w1.heap.size := by omega)
      clear hb
      go_wp2_with (go_at_call 65; (with_reducible refine (isRight_ m A c l A2 c2 plan hlo _ (C_up HR.out upA) hc (C_up HR2.out upA) hc2).mono ?_); rintro e w' ⟨rfl, hb⟩; have hbA := Aside0.mk hb; obtain ⟨hcA, hfA⟩ := hb.old; have hz := hb.le; (try simp at hz); (try have hz0 : w.heap.size < w'.heap.size := by omega); (try have hzb : w.heap.size + 1 < w'.heap.size := by omega); (try have hzc : w.heap.size + 2 < w'.heap.size := by omega); clear hb)
      have hb := (((Bx.new (w.alloc (.cells #[.int .i64 m.H, .int .i64 m.T, .int .i64 m.bl, .int .i64 m.bh, .int .i64 m.ho, .int .i64 m.nl, .int .i64 m.nh] 25)) #[.slice none 0 0] 26).up (w' := w') upA).setI 0 (.slice none 0 0)).cell
      simp only [World.size_alloc] at hb
      refine bodyPost_ret (v := .tuple #[.slice none 0 0, .int .i64 9]) ?_ rfl ⟨.slice none 0 0, ?_, ?_, ?_⟩
      · simp [results, Try.results20, go_sem, hb]
      · simp [HE.out]
      · simp only [levelsS, HE.out]
        exact own_nil _ _ _ _
      · exact upA
    · have hE : levelsE m l plan = 0 := by simp [levelsE, h0, h1]
      refine (levelsG m A c l A2 c2 plan h0 h1 w hr hc hr2 hc2).mono ?_
      rintro e w' ⟨v, rfl, h2, h4⟩
      have hs : levelsS m l plan = levelsL m l plan := by simp [levelsS, hE]
      exact ⟨v, by rw [hE], by rw [hs]; exact h2, h4⟩
  · have hE : levelsE m l plan = openE m l plan l.length := by simp [levelsE, h0]
    have HR := Aside0.mk hr
    have HR2 := Aside0.mk hr2
    have h00 : (openE m l plan l.length != 0) = true := by simp [h0]
    have HE := Aside0.mk hE
    have H0 := Aside0.mk h0
    clear hr hr2 h0 hE
    go_enter Try.func20, Try.ntmps20
    go_wp2_with fail
    (with_reducible refine (openPlan m A c l A2 c2 plan _ _ (C_up HR.out upA) hc (C_up HR2.out upA) hc2).mono ?_)
    rintro e w1 ⟨rfl, hb⟩
    have hbA := Aside0.mk hb
    obtain ⟨hcA, hfA⟩ := hb.old
    have hz := hb.le
    (try simp at hz)
    (try have hz0 : w.heap.size < w1.heap.size := by omega)
    (try have hzb : w.heap.size + 1 < w1.heap.size := by omega)
    (try have hzc : w.heap.size + 2 < w1.heap.size := by omega)
    clear hb
    go_wp2_with fail
    have hb := ((((Bx.new (w.alloc (.cells #[.int .i64 m.H, .int .i64 m.T, .int .i64 m.bl, .int .i64 m.bh, .int .i64 m.ho, .int .i64 m.nl, .int .i64 m.nh] 25)) #[.slice none 0 0] 26).up (w' := w1) upA).setI 0 (.slice none 0 0)).up ((Up.refl _).alloc (.cells #[.int .i64 m.H, .int .i64 m.T, .int .i64 m.bl, .int .i64 m.bh, .int .i64 m.ho, .int .i64 m.nl, .int .i64 m.nh, .slice A l.length c] 98))).cell
    simp only [World.size_alloc] at hb
    refine bodyPost_ret (v := .tuple #[.slice none 0 0, .int .i64 (openE m l plan l.length)]) ?_ rfl ⟨.slice none 0 0, ?_, ?_, ?_⟩
    · simp [results, Try.results20, go_sem, hb]
    · simp [HE.out]
    · simp only [levelsS, HE.out, if_neg H0.out]
      exact own_nil _ _ _ _
    · exact upA
end Go.Proofs.Ytcnlbbmokphjnaa
namespace Go.Proofs.Ytcnlbbmokphjnaa
open Go.RowKit Go.Shelf Go.Proofs.YtcnlbbmokphjnaaW.PrintWords
set_option linter.unusedVariables false
set_option linter.unusedSimpArgs false
theorem take_ext (a b : List Int) (k : Nat) (ha : k < a.length) (hb : k < b.length) : (a.take (k + 1) = b.take (k + 1)) ↔ (a.take k = b.take k ∧ rd a k = rd b k) := by
  rw [List.take_succ_eq_append_getElem ha, List.take_succ_eq_append_getElem hb]
  constructor
  · intro h
    have h1 := List.append_inj h (by simp; omega)
    exact ⟨h1.1, by simpa [rd, ha, hb] using h1.2⟩
  · rintro ⟨h1, h2⟩
    have h3 : a[k] = b[k] := by simpa [rd, ha, hb] using h2
    rw [h1, h3]
set_option maxRecDepth 100000 in
theorem rLike (A : Option Addr) (c : Nat) (a : List Int) (A2 : Option Addr) (c2 : Nat) (b : List Int) (w : World) (hr : Kd.C (Kd.int .i64) w A a.length a) (hc : a.length ≤ c) (hr2 : Kd.C (Kd.int .i64) w A2 b.length b) (hc2 : b.length ≤ c2) :
    Calls Try.prog 23 #[.slice A a.length c, .slice A2 b.length c2] w fun e w' => e = .returned (.bool (decide (a = b))) ∧ Up w w' := by
  have HR := Aside0.mk hr
  have HR2 := Aside0.mk hr2
  have hml := CF_len hr
  have hml2 := CF_len hr2
  clear hr hr2
  by_cases hlen : a.length = b.length
  · have hne : ((a.length : Int) != (b.length : Int)) = false := by simp [hlen]
    go_enter Try.func23, Try.ntmps23
    go_wp2
    go_loopw [5] (fun i wr => ∃ k : Nat, k ≤ a.length ∧ i = .int .i64 k ∧ Aside0 (a.take k = b.take k) ∧ Aside0 (Up w wr)) (fun i _ => a.length - (intOf i).toNat)
    case atStart => exact ⟨0, Nat.zero_le _, rfl, ⟨by simp⟩, ⟨upA⟩⟩
    case round =>
      obtain ⟨k, hk, rfl, he, hu⟩ := hrel
      by_cases hlt : k < a.length
      · obtain ⟨ad, e, hx⟩ := Kd.at_int (C_up HR.out hu.out) k (by omega) (by omega)
        obtain ⟨ad2, e2, hx2⟩ := Kd.at_int (C_up HR2.out hu.out) k (by omega) (by omega)
        cases e
        cases e2
        simp only [Int.toNat_natCast] at hx hx2
        have hi0 : (0 : Int) ≤ (k : Int) := by omega
        have hi1 : (k : Int) < (a.length : Int) := by omega
        have hi2 : (k : Int) < (b.length : Int) := by omega
        have hte := take_ext a b k hlt (by omega)
        by_cases hq : rd a k = rd b k
        · have hq1 : (rd a k != rd b k) = false := by simp [hq]
          have HT := Aside0.mk (hte.2 ⟨he.out, hq⟩)
          clear hte hq
          go_wp2_with fail
          go_quiet (fail)
          go_wp2_with fail
          go_roundw
          case rel => exact ⟨k + 1, by omega, by go_num, HT, ⟨hu.out.then upA⟩⟩
          case measure => simp [intOf]; omega
        · have hq1 : (rd a k != rd b k) = true := by simp [hq]
          have hab : ¬ a = b := fun e => hq (by rw [e])
          have HT := Aside0.mk hab
          clear hte hq hab
          go_wp2_with fail
          go_quiet (fail)
          go_wp2_with fail
          go_ret
          exact ⟨ret_bool (by simp [HT.out]), hu.out.then upA⟩
      · have hab : a = b := by
          have := he.out
          rwa [List.take_of_length_le (by omega), List.take_of_length_le (by omega)] at this
        have HT := Aside0.mk hab
        clear hab
        go_wp2_with fail
        go_ret
        exact ⟨ret_bool (by simp [HT.out]), hu.out⟩
  · have hne : ((a.length : Int) != (b.length : Int)) = true := by simp; omega
    have hab : ¬ a = b := fun e => hlen (by rw [e])
    have HT := Aside0.mk hab
    clear hab
    go_enter Try.func23, Try.ntmps23
    go_wp2
    go_ret
    exact ⟨ret_bool (by simp [HT.out]), upA⟩
end Go.Proofs.Ytcnlbbmokphjnaa
namespace Go.Proofs.Ytcnlbbmokphjnaa
open Go.RowKit Go.Shelf Go.Proofs.YtcnlbbmokphjnaaW.PrintWords
set_option linter.unusedVariables false
set_option linter.unusedSimpArgs false
theorem ownF_slice {w : World} {base e size n : Nat} {v : Value} {xs : List Value} (h : w.ownsRow base e size v n xs) : ∃ A c, v = .slice A n c ∧ n ≤ c ∧ (0 < n → ∃ g cur, A = some ⟨g, 0, none⟩ ∧ w.heap[g]? = some (.cells cur e (0, 0)) ∧ ∀ j, j < n * size → cur[j]? = xs[j]?) := by
  rcases h.2 with ⟨rfl, rfl⟩ | ⟨g, cap, cur, rfl, hb, hg, hcap, _, hsz, htk⟩
  · exact ⟨none, 0, rfl, Nat.le_refl _, fun h => absurd h (Nat.lt_irrefl _)⟩
  · exact ⟨_, cap, rfl, hcap, fun _ => ⟨g, cur, rfl, hg, fun j hj => by rw [← htk, List.getElem?_take, if_pos hj, Array.getElem?_toList]⟩⟩
theorem own_C_int {w : World} {base e : Nat} {v : Value} {xs : List Int} (h : w.ownsRow base e 1 v xs.length (nums .i64 xs)) (hm : xs.length ≤ 9223372036854775807) : ∃ A c, v = .slice A xs.length c ∧ xs.length ≤ c ∧ Kd.C (Kd.int .i64) w A xs.length xs := by
  obtain ⟨A, c, hv, hc, hg⟩ := ownF_slice h
  refine ⟨A, c, hv, hc, Kd.C_of_reads (d := (0 : Int)) (h1 := fun _ => rfl) ⟨rfl, hm, fun hp => ?_⟩⟩
  obtain ⟨g, cur, hA, hg, hcur⟩ := hg hp
  refine ⟨_, hA, fun j hj => ?_⟩
  have h1 := hcur j (by omega)
  rw [add_plain]
  simp [World.cell?, hg, h1, nums, hj]
theorem own_C_Sp {w : World} {base e : Nat} {v : Value} {xs : List Sp} (h : w.ownsRow base e 2 v xs.length (cellsS xs)) (hm : xs.length ≤ 9223372036854775807) : ∃ A c, v = .slice A xs.length c ∧ xs.length ≤ c ∧ Kd.C kSp w A xs.length xs := by
  obtain ⟨A, c, hv, hc, hg⟩ := ownF_slice h
  by_cases hp : 0 < xs.length
  · obtain ⟨g, cur, hA, hg2, hcur⟩ := hg hp
    refine ⟨A, c, hv, hc, ?_⟩
    subst hA
    refine C_ofSps (T := e) ⟨cur, hg2, fun i hi => ⟨?_, ?_⟩⟩ hm _ rfl
    · rw [hcur _ (by omega), cellsS_lo xs i hi]
    · rw [hcur _ (by omega), cellsS_hi xs i hi]
  · have h0 : xs = [] := List.eq_nil_of_length_eq_zero (by omega)
    subst h0
    exact ⟨A, c, hv, hc, rfl, hm, fun h => absurd h hp⟩
theorem append_all {P : Program} {ops : Array Oper} {rest : List Oper} {o : Oper} {a : Act} {Q : Exit → Act → World → Prop} {W : World} (base : Nat) (hgd : o.guard = none) (s x : Operand) (t e : TypeId) (z : Value) (size bytes : Nat)
    (ho : o.op = .call { callee := .builtin .append, args := #[s, x], argTypes := #[t, t] })
    (ht : P.underlying t = some (.slice e)) (hinfo : (P.info? e).map (fun i => (i.zero, i.size, i.bytes)) = some (some z, size, bytes)) (hz : z.cells.size = size) (hs0 : 0 < size) (hb0 : 0 < bytes)
    (v : Value) (n : Nat) (xs news : List Value) (A : Option Addr) (m c : Nat) (hs : a.eval s = v) (hx : a.eval x = .slice A m c)
    (HO : W.ownsRow base e size v n xs) (hl : news.length = m * size) (HR : 0 < m → ∃ ad, A = some ad ∧ ∀ j u, news[j]? = some u → W.cell? (ad.add j) = some u) (h1 : ∀ u ∈ news, u.oneCell' = true) (hbase : base ≤ W.heap.size) (hbig : (n + m) * bytes ≤ 140737488355328)
    (h : ∀ v1 w1, w1.ownsRow base e size v1 (n + m) (xs ++ news) → W.grownBy w1 v.ownBlock → wpList P ops Q rest (a.put o.dst v1) w1) :
    wpList P ops Q (o :: rest) a W := by
  obtain ⟨i0, hi, hzz⟩ := Option.map_eq_some_iff.1 hinfo
  simp only [Prod.mk.injEq] at hzz
  obtain ⟨hz0, hz1, hz2⟩ := hzz
  have hlen : n + m ≤ 140737488355328 := Nat.le_trans (Nat.le_mul_of_pos_right _ hb0) hbig
  have hrun : ∃ v1 w1, (Builtin.append_ #[t, t] o.type #[v, .slice A m c]).run P W = .ok v1 w1 ∧ w1.ownsRow base e size v1 (n + m) (xs ++ news) ∧ W.grownBy w1 v.ownBlock := by
    rcases A with _ | ad
    · have h0 : m = 0 := by
        rcases Nat.eq_zero_or_pos m with h0 | h0
        · exact h0
        · obtain ⟨ad, h, _⟩ := HR h0
          cases h
      subst h0
      obtain rfl : news = [] := List.eq_nil_of_length_eq_zero (by omega)
      refine ⟨v, W, ?_, by simpa using HO, World.grownBy.refl W _⟩
      rcases HO.2 with ⟨rfl, hn⟩ | ⟨g, cap, cur, rfl, _, _, hnc, _⟩
      · simp [Builtin.append_, run_underlying ht, sizeOf, typeInfo, hi, Builtin.lenOf, Builtin.firstCells]
      · simp [Builtin.append_, run_underlying ht, sizeOf, typeInfo, hi, Builtin.lenOf, Builtin.firstCells, hnc, storeCells]
    · have hcells : ∀ j u, news[j]? = some u → W.cell? (ad.add j) = some u := by
        intro j u hu
        have hj : j < news.length := (List.getElem?_eq_some_iff.1 hu).1
        have hm : 0 < m := by
          rcases Nat.eq_zero_or_pos m with h0 | h0
          · subst h0; simp at hl; subst hl; simp at hj
          · exact h0
        obtain ⟨ad', h', hc⟩ := HR hm
        injection h' with h'
        subst h'
        exact hc j u hu
      obtain ⟨v1, w1, hr, h2, h3, _, h5⟩ := run_append_own_at (P := P) W base t o.type e i0 z size bytes ht hi hz0 hz1 hz2 hz hs0 v n xs HO ad m c news hl hcells h1 (by simp only [maxLen]; omega) hbig hbase
      exact ⟨v1, w1, hr, h2, h3⟩
  obtain ⟨v1, w1, hr, h2, h3⟩ := hrun
  refine wpList_plain hgd fun K hK => ?_
  unfold Oper.wp execOp
  simp only [ho, resolve, invoke, builtin, Sem.run_bind, Sem.run_pure, Result.andThen_ok, List.map_toArray, List.map_cons, List.map_nil, hs, hx, hr]
  exact hK _ _ (h v1 w1 h2 h3)
set_option maxRecDepth 100000 in
theorem rInts (A : Option Addr) (c : Nat) (l : List Int) (w : World) (hr : Kd.C (Kd.int .i64) w A l.length l) (hl : l.length ≤ 1000) :
    Calls Try.prog 17 #[.slice A l.length c] w fun e w' => ∃ A' c', e = .returned (.slice A' l.length c') ∧ l.length ≤ c' ∧ Kd.C (Kd.int .i64) w' A' l.length l ∧ Up w w' := by
  have hr2 := Kd.reads_of_C (enc := Value.int .i64) (d := (0 : Int)) (h1 := fun _ => rfl) hr
  have HC : Aside0 (0 < l.length → ∃ ad, A = some ad ∧ ∀ j u, (nums .i64 l)[j]? = some u → (w.alloc (.cells #[] 3)).cell? (ad.add j) = some u) := ⟨fun h0 => by
    obtain ⟨ad, hA, hc⟩ := hr2.2.2 h0
    refine ⟨ad, hA, fun j u hu => (Up.alloc (Up.refl w) _).cell ?_⟩
    have hj : j < l.length := by
      have := (List.getElem?_eq_some_iff.1 hu).1
      simpa [nums] using this
    rw [hc j hj, ← hu]
    simp [nums, List.getD_eq_getElem?_getD, hj]⟩
  clear hr hr2
  go_enter Try.func17, Try.ntmps17
  go_wp2_with (at_builtin; refine append_all w.heap.size rfl _ _ 27 3 (.int .i64 0) 1 8 rfl Try.underlying27 info_int rfl (by decide) (by decide) _ 0 [] (nums .i64 l) A l.length c rfl rfl (World.ownsRow_made w #[] 0 (Nat.le_refl _) (Nat.zero_le _) rfl) (by simp [nums]) HC.out ?qc3 ?qc4 ?qc5 ?_)
  case qc3 => intro u hu; simp only [nums, List.mem_map] at hu; obtain ⟨q, _, rfl⟩ := hu; rfl
  case qc4 => simp
  case qc5 => omega
  intro v1 w1 hown hgrow
  obtain ⟨A', c', rfl, hc', hC⟩ := own_C_int hown (by omega)
  have HU : Aside0 (Up w w1) := ⟨((Below.refl _ w).alloc (Nat.le_refl _) _).grown hgrow (by simp) (by intro k hk; simp [Value.ownBlock] at hk; omega)⟩
  have HCC := Aside0.mk hC
  clear hown hgrow hC
  go_wp2
  go_ret
  exact ⟨A', c', rfl, hc', HCC.out, HU.out⟩
theorem cellsS_one : ∀ (l : List Sp), ∀ u ∈ cellsS l, u.oneCell' = true
  | [], u, h => by cases h
  | s :: l, u, h => by
    simp only [cellsS, List.mem_cons] at h
    rcases h with rfl | rfl | h
    · rfl
    · rfl
    · exact cellsS_one l u h
set_option maxRecDepth 100000 in
theorem rCopy (A : Option Addr) (c : Nat) (l : List Sp) (w : World) (hr : Kd.C kSp w A l.length l) (hl : l.length ≤ 1000) :
    Calls Try.prog 16 #[.slice A l.length c] w fun e w' => ∃ A' c', e = .returned (.slice A' l.length c') ∧ l.length ≤ c' ∧ Kd.C kSp w' A' l.length l ∧ Up w w' := by
  have HC : Aside0 (0 < l.length → ∃ ad, A = some ad ∧ ∀ j u, (cellsS l)[j]? = some u → (w.alloc (.cells #[] 23)).cell? (ad.add j) = some u) := ⟨fun h0 => by
    obtain ⟨ad, hA, hc⟩ := cells_ofC hr h0
    exact ⟨ad, hA, fun j u hu => (Up.alloc (Up.refl w) _).cell (hc j u hu)⟩⟩
  clear hr
  go_enter Try.func16, Try.ntmps16
  go_wp2_with (at_builtin; refine append_all w.heap.size rfl _ _ 26 23 _ 2 16 rfl Try.underlying26 info_span rfl (by decide) (by decide) _ 0 [] (cellsS l) A l.length c rfl rfl (World.ownsRow_made w #[] 0 (Nat.le_refl _) (Nat.zero_le _) rfl) (cellsS_length l) HC.out ?qc3 ?qc4 ?qc5 ?_)
  case qc3 => exact cellsS_one l
  case qc4 => simp
  case qc5 => omega
  intro v1 w1 hown hgrow
  obtain ⟨A', c', rfl, hc', hC⟩ := own_C_Sp hown (by omega)
  have HU : Aside0 (Up w w1) := ⟨((Below.refl _ w).alloc (Nat.le_refl _) _).grown hgrow (by simp) (by intro k hk; simp [Value.ownBlock] at hk; omega)⟩
  have HCC := Aside0.mk hC
  clear hown hgrow hC
  go_wp2
  go_ret
  exact ⟨A', c', rfl, hc', HCC.out, HU.out⟩
theorem take_extS (a b : List Sp) (k : Nat) (ha : k < a.length) (hb : k < b.length) : (a.take (k + 1) = b.take (k + 1)) ↔ (a.take k = b.take k ∧ rdS a k = rdS b k) := by
  rw [List.take_succ_eq_append_getElem ha, List.take_succ_eq_append_getElem hb]
  constructor
  · intro h
    have h1 := List.append_inj h (by simp; omega)
    exact ⟨h1.1, by simpa [rdS, ha, hb] using h1.2⟩
  · rintro ⟨h1, h2⟩
    have h3 : a[k] = b[k] := by simpa [rdS, ha, hb] using h2
    rw [h1, h3]
end Go.Proofs.Ytcnlbbmokphjnaa
namespace Go.Proofs.Ytcnlbbmokphjnaa
open Go.RowKit Go.Shelf Go.Proofs.YtcnlbbmokphjnaaW.PrintWords
set_option linter.unusedVariables false
set_option linter.unusedSimpArgs false
theorem eq_span (d : Nat) (w : World) (a b x y : Int) : (Op.equalIn (d + 2) 23 (.agg #[.int .i64 a, .int .i64 b]) (.agg #[.int .i64 x, .int .i64 y])).run Try.prog w = .ok (a == x && b == y) w := by
  refine eqA_of Try.underlying23 (by kernel_rfl) ?_
  refine eqf_cons (by rfl) (by go_simp; rfl) (by go_simp; rfl) (by go_simp) ?_
  exact eqf_last (by rfl) (by go_simp; rfl) (by go_simp; rfl) (by go_simp)
theorem neq_span (w : World) (a b x y : Int) : (binOp .neq 23 (.agg #[.int .i64 a, .int .i64 b]) (.agg #[.int .i64 x, .int .i64 y])).run Try.prog w = .ok (.bool (!(a == x && b == y))) w := by
  have h : (Op.equal 23 (.agg #[.int .i64 a, .int .i64 b]) (.agg #[.int .i64 x, .int .i64 y])).run Try.prog w = .ok (a == x && b == y) w := eq_span 9998 w a b x y
  simp [binOp, go_sem, h]
set_option maxRecDepth 100000 in
theorem rSame (A : Option Addr) (c : Nat) (a : List Sp) (A2 : Option Addr) (c2 : Nat) (b : List Sp) (w : World) (hr : Kd.C kSp w A a.length a) (hc : a.length ≤ c) (hr2 : Kd.C kSp w A2 b.length b) (hc2 : b.length ≤ c2) :
    Calls Try.prog 22 #[.slice A a.length c, .slice A2 b.length c2] w fun e w' => e = .returned (.bool (decide (a = b))) ∧ Up w w' := by
  have HR := Aside0.mk hr
  have HR2 := Aside0.mk hr2
  have hml := CF_len hr
  have hml2 := CF_len hr2
  have hu := Try.underlying23
  have hnq := neq_span
  clear hr hr2
  by_cases hlen : a.length = b.length
  · have hne : ((a.length : Int) != (b.length : Int)) = false := by simp [hlen]
    go_enter Try.func22, Try.ntmps22
    go_wp2
    go_loopw [5] (fun i wr => ∃ k : Nat, k ≤ a.length ∧ i = .int .i64 k ∧ Aside0 (a.take k = b.take k) ∧ Aside0 (Up w wr)) (fun i _ => a.length - (intOf i).toNat)
    case atStart => exact ⟨0, Nat.zero_le _, rfl, ⟨by simp⟩, ⟨upA⟩⟩
    case round =>
      obtain ⟨k, hk, rfl, he, hup⟩ := hrel
      by_cases hlt : k < a.length
      · obtain ⟨ad, e, hx, hy⟩ := at_Sp (C_up HR.out hup.out) k (by omega) (by omega)
        obtain ⟨ad2, e2, hx2, hy2⟩ := at_Sp (C_up HR2.out hup.out) k (by omega) (by omega)
        cases e
        cases e2
        simp only [Int.toNat_natCast] at hx hx2 hy hy2
        have hi0 : (0 : Int) ≤ (k : Int) := by omega
        have hi1 : (k : Int) < (a.length : Int) := by omega
        have hi2 : (k : Int) < (b.length : Int) := by omega
        have hte := take_extS a b k hlt (by omega)
        have hcmp : rdS a k = rdS b k ↔ ((rdS a k).lo = (rdS b k).lo ∧ (rdS a k).hi = (rdS b k).hi) := by
          constructor
          · intro h; rw [h]; exact ⟨rfl, rfl⟩
          · intro h
            have h1 : rdS a k = ⟨(rdS a k).lo, (rdS a k).hi⟩ := rfl
            have h2 : rdS b k = ⟨(rdS b k).lo, (rdS b k).hi⟩ := rfl
            rw [h1, h2, h.1, h.2]
        by_cases hq : rdS a k = rdS b k
        · have HT := Aside0.mk (hte.2 ⟨he.out, hq⟩)
          have hq1 := (hcmp.1 hq).1
          have hq2 := (hcmp.1 hq).2
          clear hte hq hcmp
          go_wp2_with fail
          go_quiet (fail)
          go_wp2_with fail
          go_roundw
          case rel => exact ⟨k + 1, by omega, by go_num, HT, ⟨hup.out.then upA⟩⟩
          case measure => simp [intOf]; omega
        · have hq1 : (!((rdS a k).lo == (rdS b k).lo && (rdS a k).hi == (rdS b k).hi)) = true := by
            cases h : ((rdS a k).lo == (rdS b k).lo && (rdS a k).hi == (rdS b k).hi)
            · rfl
            · exact absurd (hcmp.2 (by simpa using h)) hq
          have hab : ¬ a = b := fun e => hq (by rw [e])
          have HT := Aside0.mk hab
          clear hte hq hab hcmp
          go_wp2_with fail
          go_quiet (fail)
          go_wp2_with fail
          all_goals
            first
            | (exfalso; simp_all; done)
            | (go_ret
               exact ⟨ret_bool (by simp [HT.out]), hup.out.then upA⟩)
      · have hab : a = b := by
          have := he.out
          rwa [List.take_of_length_le (by omega), List.take_of_length_le (by omega)] at this
        have HT := Aside0.mk hab
        clear hab
        go_wp2_with fail
        go_ret
        exact ⟨ret_bool (by simp [HT.out]), hup.out⟩
  · have hne : ((a.length : Int) != (b.length : Int)) = true := by simp; omega
    have hab : ¬ a = b := fun e => hlen (by rw [e])
    have HT := Aside0.mk hab
    clear hab
    go_enter Try.func22, Try.ntmps22
    go_wp2
    go_ret
    exact ⟨ret_bool (by simp [HT.out]), upA⟩
end Go.Proofs.Ytcnlbbmokphjnaa
namespace Go.Proofs.Ytcnlbbmokphjnaa
open Go.RowKit Go.Shelf Go.Proofs.YtcnlbbmokphjnaaW.PrintWords
set_option linter.unusedVariables false
set_option linter.unusedSimpArgs false
def exM : Mill := ⟨3, 10, 30, 40, 50, 20, 25⟩
def exL : List Sp := [⟨10, 20⟩, ⟨0, 5⟩, ⟨15, 30⟩]
theorem ex_goes : goesI exM exL [2, 2, 1] = 1 ∧ goesB exM exL [2, 2, 1] = false ∧ goesE exM exL [2, 2, 1] = 0 := by decide +kernel
theorem ex_levels : levelsE exM exL [1, 1, 1] = 0 ∧ levelsS exM exL [1, 1, 1] = [⟨20, 35⟩, ⟨10, 30⟩, ⟨15, 40⟩] := by decide +kernel
theorem ex_blows : blowsE exM [1, 1, 1] = 0 ∧ blowsS exM [1, 1, 1] = ⟨90, 120⟩ := by decide +kernel
theorem ex_most : checkE exM exL = 0 ∧ mostS exM exL = [0, 1, 3] := by decide +kernel
theorem ex_lasts : lastsE exM exL 2 0 = 0 ∧ lastsI exM Sp.lo exL 2 0 = 1 ∧ lastsI exM Sp.hi exL 2 0 = 3 := by decide +kernel
theorem ex_window : windowE exM exL 2 2 = 0 ∧ windowI exM exL 2 2 = 1 := by decide +kernel
theorem ex_done : doneE exM exL 4 = 0 ∧ doneI exM exL 4 = 3 := by decide +kernel
theorem ex_upstream : upsE exM exL [1, 1, 1] = 0 ∧ upsI exM exL [1, 1, 1] = 7 := by decide +kernel
theorem ex_stopped : stoppedE exM exL [2, 2] = 0 ∧ stoppedS exM exL [2, 2] = [⟨10, 19⟩, ⟨0, 5⟩] := by decide +kernel
theorem ex_rain : rainE exM exL [2, 2, 1] = 0 ∧ rainH exM exL [2, 2, 1] = 0 ∧ rainM exM exL [2, 2, 1] = 10 := by decide +kernel
theorem span_ (a b : Int) (w : World) : Calls Try.prog 30 #[.int .i64 a, .int .i64 b] w fun e w' => e = .returned (.agg #[.int .i64 a, .int .i64 b]) ∧ Up w w' := by
  go_enter Try.func30, Try.ntmps30
  go_wp2_with fail
  refine bodyPost_ret (v := .agg #[.int .i64 a, .int .i64 b]) ?_ rfl ⟨rfl, upA⟩
  simp [results, Try.results30, go_sem]
theorem mill_ (w : World) : Calls Try.prog 55 #[] w fun e w' => e = .returned (.agg #[.int .i64 exM.H, .int .i64 exM.T, .int .i64 exM.bl, .int .i64 exM.bh, .int .i64 exM.ho, .int .i64 exM.nl, .int .i64 exM.nh]) ∧ Up w w' := by
  go_enter Try.func55, Try.ntmps55
  go_wp2_with (go_at_call 30; (with_reducible refine (span_ _ _ _).mono ?_); rintro e w' ⟨rfl, hb⟩; have hbA := Aside0.mk hb; obtain ⟨hcA, hfA⟩ := hb.old; have hz := hb.le; (try simp at hz); (try have hz0 : w.heap.size < w'.heap.size := by omega); (try have hzb : w.heap.size + 1 < w'.heap.size := by omega); (try have hzc : w.heap.size + 2 < w'.heap.size := by omega); clear hb)
  have hb := ((((((((Bx.new w #[.int .i64 0, .int .i64 0, .int .i64 0, .int .i64 0, .int .i64 0, .int .i64 0, .int .i64 0] 25).up (w' := w') upA).setI 0 (.int .i64 3)).setI 1 (.int .i64 10)).setI 2 (.int .i64 30)).setI 3 (.int .i64 40)).setI 4 (.int .i64 50)).setI 5 (.int .i64 20)).setI 6 (.int .i64 25)
  have hbc := hb.cell
  refine bodyPost_ret (v := .agg #[.int .i64 3, .int .i64 10, .int .i64 30, .int .i64 40, .int .i64 50, .int .i64 20, .int .i64 25]) ?_ rfl ⟨rfl, upA⟩
  simp [results, Try.results55, go_sem, hbc]
theorem C_newS (w : World) (T : TypeId) (xs : List Sp) (cs : Array Value) (n : Nat) (hcs : cs = (cellsS xs).toArray) (hn : n = xs.length) (hm : xs.length ≤ 9223372036854775807) : Kd.C kSp (w.alloc (.cells cs T)) (some ⟨w.heap.size, 0, none⟩) n xs := by
  subst hcs
  refine C_ofSps (T := T) ⟨(cellsS xs).toArray, World.alloc_heap_new w _, fun i hi => ⟨?_, ?_⟩⟩ hm n hn
  · rw [List.getElem?_toArray, cellsS_lo xs i hi]
  · rw [List.getElem?_toArray, cellsS_hi xs i hi]
theorem flows_ (w : World) : Calls Try.prog 56 #[] w fun e w' => ∃ A, e = .returned (.slice A 3 3) ∧ Kd.C kSp w' A 3 exL ∧ Up w w' := by
  go_enter Try.func56, Try.ntmps56
  go_wp2_with (go_at_call 30; (with_reducible refine (span_ _ _ _).mono ?_); rintro e w' ⟨rfl, hb⟩; have hbA := Aside0.mk hb; obtain ⟨hcA, hfA⟩ := hb.old; have hz := hb.le; (try simp at hz); (try have hz0 : w.heap.size < w'.heap.size := by omega); (try have hzb : w.heap.size + 1 < w'.heap.size := by omega); (try have hzc : w.heap.size + 2 < w'.heap.size := by omega); clear hb)
  go_ret
  exact ⟨_, rfl, C_newS w' 23 exL _ 3 rfl rfl (by decide), upA⟩
end Go.Proofs.Ytcnlbbmokphjnaa
namespace Go.Proofs.Ytcnlbbmokphjnaa
open Go.RowKit Go.Shelf Go.Proofs.YtcnlbbmokphjnaaW.PrintWords
set_option linter.unusedVariables false
set_option linter.unusedSimpArgs false
theorem kGoes (A : Option Addr) (w : World) (b : Nat) (hb : b = w.heap.size) (hC : Kd.C kSp w A 3 exL) :
    Calls Try.prog 19 #[.agg #[.int .i64 3, .int .i64 10, .int .i64 30, .int .i64 40, .int .i64 50, .int .i64 20, .int .i64 25], .slice A 3 3, .slice (some ⟨b, 0, none⟩) 3 3] (w.alloc (.cells #[.int .i64 2, .int .i64 2, .int .i64 1] 3)) fun e w' => e = .returned (.tuple #[.int .i64 1, .bool false, .int .i64 0]) ∧ Up w w' := by
  subst hb
  refine (goesF_ exM A 3 exL (some ⟨w.heap.size, 0, none⟩) 3 [2, 2, 1] _ (C_up hC upA) (by decide) (C_new w 3 [2, 2, 1] _ 3 rfl rfl (by decide)) (by decide)).mono ?_
  rintro e w' ⟨rfl, h⟩
  rw [ex_goes.1, ex_goes.2.1, ex_goes.2.2]
  exact ⟨rfl, ((Up.refl w).alloc _).then h⟩
theorem kLevels (A : Option Addr) (w : World) (b : Nat) (hb : b = w.heap.size) (hC : Kd.C kSp w A 3 exL) :
    Calls Try.prog 20 #[.agg #[.int .i64 3, .int .i64 10, .int .i64 30, .int .i64 40, .int .i64 50, .int .i64 20, .int .i64 25], .slice A 3 3, .slice (some ⟨b, 0, none⟩) 3 3] (w.alloc (.cells #[.int .i64 1, .int .i64 1, .int .i64 1] 3)) fun e w' => ∃ A' c', e = .returned (.tuple #[.slice A' 3 c', .int .i64 0]) ∧ 3 ≤ c' ∧ Kd.C kSp w' A' 3 [⟨20, 35⟩, ⟨10, 30⟩, ⟨15, 40⟩] ∧ Up w w' := by
  subst hb
  refine (levels_ exM A 3 exL (some ⟨w.heap.size, 0, none⟩) 3 [1, 1, 1] _ (C_up hC upA) (by decide) (C_new w 3 [1, 1, 1] _ 3 rfl rfl (by decide)) (by decide)).mono ?_
  rintro e w' ⟨v, rfl, h1, h⟩
  rw [ex_levels.2] at h1
  obtain ⟨A', c', rfl, h3, h4⟩ := own_C_Sp h1 (by decide)
  rw [ex_levels.1]
  exact ⟨A', c', rfl, h3, h4, ((Up.refl w).alloc _).then h⟩
theorem kBlows (w : World) (b : Nat) (hb : b = w.heap.size) :
    Calls Try.prog 27 #[.agg #[.int .i64 3, .int .i64 10, .int .i64 30, .int .i64 40, .int .i64 50, .int .i64 20, .int .i64 25], .slice (some ⟨b, 0, none⟩) 3 3] (w.alloc (.cells #[.int .i64 1, .int .i64 1, .int .i64 1] 3)) fun e w' => e = .returned (.tuple #[.agg #[.int .i64 90, .int .i64 120], .int .i64 0]) ∧ Up w w' := by
  subst hb
  refine (blowsF_ exM (some ⟨w.heap.size, 0, none⟩) 3 [1, 1, 1] _ (C_new w 3 [1, 1, 1] _ 3 rfl rfl (by decide)) (by decide)).mono ?_
  rintro e w' ⟨rfl, h⟩
  rw [ex_blows.1, ex_blows.2]
  exact ⟨rfl, ((Up.refl w).alloc _).then h⟩
theorem kMost (A : Option Addr) (w : World) (hC : Kd.C kSp w A 3 exL) :
    Calls Try.prog 31 #[.agg #[.int .i64 3, .int .i64 10, .int .i64 30, .int .i64 40, .int .i64 50, .int .i64 20, .int .i64 25], .slice A 3 3] w fun e w' => ∃ A' c', e = .returned (.tuple #[.slice A' 3 c', .int .i64 0]) ∧ 3 ≤ c' ∧ Kd.C (Kd.int .i64) w' A' 3 [0, 1, 3] ∧ Up w w' := by
  refine (mostF_ exM A 3 exL w hC (by decide)).mono ?_
  rintro e w' ⟨v, rfl, h1, h2⟩
  rw [ex_most.2] at h1
  obtain ⟨A', c', rfl, h3, h4⟩ := own_C_int h1 (by decide)
  rw [ex_most.1]
  exact ⟨A', c', rfl, h3, h4, h2⟩
theorem kLasts (A : Option Addr) (w : World) (hC : Kd.C kSp w A 3 exL) :
    Calls Try.prog 36 #[.agg #[.int .i64 3, .int .i64 10, .int .i64 30, .int .i64 40, .int .i64 50, .int .i64 20, .int .i64 25], .slice A 3 3, .int .i64 2, .int .i64 0] w fun e w' => e = .returned (.tuple #[.int .i64 1, .int .i64 3, .int .i64 0]) ∧ Up w w' := by
  refine (lastsF_ exM A 3 exL 2 0 w hC (by decide)).mono ?_
  rintro e w' ⟨rfl, h⟩
  rw [ex_lasts.1, ex_lasts.2.1, ex_lasts.2.2]
  exact ⟨rfl, h⟩
theorem kWindow (A : Option Addr) (w : World) (hC : Kd.C kSp w A 3 exL) :
    Calls Try.prog 38 #[.agg #[.int .i64 3, .int .i64 10, .int .i64 30, .int .i64 40, .int .i64 50, .int .i64 20, .int .i64 25], .slice A 3 3, .int .i64 2, .int .i64 2] w fun e w' => e = .returned (.tuple #[.int .i64 1, .int .i64 0]) ∧ Up w w' := by
  refine (windowF_ exM A 3 exL 2 2 w hC (by decide)).mono ?_
  rintro e w' ⟨rfl, h⟩
  rw [ex_window.1, ex_window.2]
  exact ⟨rfl, h⟩
theorem kDone (A : Option Addr) (w : World) (hC : Kd.C kSp w A 3 exL) :
    Calls Try.prog 32 #[.agg #[.int .i64 3, .int .i64 10, .int .i64 30, .int .i64 40, .int .i64 50, .int .i64 20, .int .i64 25], .slice A 3 3, .int .i64 4] w fun e w' => e = .returned (.tuple #[.int .i64 3, .int .i64 0]) ∧ Up w w' := by
  refine (doneF_ exM A 3 exL 4 w hC (by decide)).mono ?_
  rintro e w' ⟨rfl, h⟩
  rw [ex_done.1, ex_done.2]
  exact ⟨rfl, h⟩
theorem kUpstream (A : Option Addr) (w : World) (b : Nat) (hb : b = w.heap.size) (hC : Kd.C kSp w A 3 exL) :
    Calls Try.prog 40 #[.agg #[.int .i64 3, .int .i64 10, .int .i64 30, .int .i64 40, .int .i64 50, .int .i64 20, .int .i64 25], .slice A 3 3, .slice (some ⟨b, 0, none⟩) 3 3] (w.alloc (.cells #[.int .i64 1, .int .i64 1, .int .i64 1] 3)) fun e w' => e = .returned (.tuple #[.int .i64 7, .int .i64 0]) ∧ Up w w' := by
  subst hb
  refine (upstream_ exM A 3 exL (some ⟨w.heap.size, 0, none⟩) 3 [1, 1, 1] _ (C_up hC upA) (by decide) (C_new w 3 [1, 1, 1] _ 3 rfl rfl (by decide)) (by decide)).mono ?_
  rintro e w' ⟨rfl, h⟩
  rw [ex_upstream.1, ex_upstream.2]
  exact ⟨rfl, ((Up.refl w).alloc _).then h⟩
theorem kStopped (A : Option Addr) (w : World) (b : Nat) (hb : b = w.heap.size) (hC : Kd.C kSp w A 3 exL) :
    Calls Try.prog 45 #[.agg #[.int .i64 3, .int .i64 10, .int .i64 30, .int .i64 40, .int .i64 50, .int .i64 20, .int .i64 25], .slice A 3 3, .slice (some ⟨b, 0, none⟩) 2 2] (w.alloc (.cells #[.int .i64 2, .int .i64 2] 3)) fun e w' => ∃ A' c', e = .returned (.tuple #[.slice A' 2 c', .int .i64 0]) ∧ 2 ≤ c' ∧ Kd.C kSp w' A' 2 [⟨10, 19⟩, ⟨0, 5⟩] ∧ Up w w' := by
  subst hb
  refine (stoppedF_ exM A 3 exL (some ⟨w.heap.size, 0, none⟩) 2 [2, 2] _ (C_up hC upA) (by decide) (C_new w 3 [2, 2] _ 2 rfl rfl (by decide)) (by decide)).mono ?_
  rintro e w' ⟨v, rfl, h1, h⟩
  rw [ex_stopped.2] at h1
  obtain ⟨A', c', rfl, h3, h4⟩ := own_C_Sp h1 (by decide)
  rw [ex_stopped.1]
  exact ⟨A', c', rfl, h3, h4, ((Up.refl w).alloc _).then h⟩
theorem kRain (A : Option Addr) (w : World) (b : Nat) (hb : b = w.heap.size) (hC : Kd.C kSp w A 3 exL) :
    Calls Try.prog 41 #[.agg #[.int .i64 3, .int .i64 10, .int .i64 30, .int .i64 40, .int .i64 50, .int .i64 20, .int .i64 25], .slice A 3 3, .slice (some ⟨b, 0, none⟩) 3 3] (w.alloc (.cells #[.int .i64 2, .int .i64 2, .int .i64 1] 3)) fun e w' => e = .returned (.tuple #[.int .i64 0, .int .i64 10, .int .i64 0]) ∧ Up w w' := by
  subst hb
  refine (rain_ exM A 3 exL (some ⟨w.heap.size, 0, none⟩) 3 [2, 2, 1] _ (C_up hC upA) (by decide) (C_new w 3 [2, 2, 1] _ 3 rfl rfl (by decide)) (by decide)).mono ?_
  rintro e w' ⟨rfl, h⟩
  rw [ex_rain.1, ex_rain.2.1, ex_rain.2.2]
  exact ⟨rfl, ((Up.refl w).alloc _).then h⟩
end Go.Proofs.Ytcnlbbmokphjnaa
namespace Go.Proofs.Ytcnlbbmokphjnaa
open Go.RowKit Go.Shelf Go.Proofs.YtcnlbbmokphjnaaW.PrintWords
set_option linter.unusedVariables false
set_option linter.unusedSimpArgs false
theorem millL (w : World) : Calls Try.prog 55 #[] w fun e w' => e = .returned (.agg #[.int .i64 3, .int .i64 10, .int .i64 30, .int .i64 40, .int .i64 50, .int .i64 20, .int .i64 25]) ∧ Up w w' := mill_ w
theorem kSame (A : Option Addr) (c : Nat) (A2 : Option Addr) (c2 n : Nat) (xs : List Sp) (hn : xs.length = n) (w : World) (hr : Kd.C kSp w A n xs) (hc : n ≤ c) (hr2 : Kd.C kSp w A2 n xs) (hc2 : n ≤ c2) :
    Calls Try.prog 22 #[.slice A n c, .slice A2 n c2] w fun e w' => e = .returned (.bool true) ∧ Up w w' := by
  subst hn
  have h := rSame A c xs A2 c2 xs w hr hc hr2 hc2
  simpa using h
theorem kLike (A : Option Addr) (c : Nat) (A2 : Option Addr) (c2 n : Nat) (xs : List Int) (hn : xs.length = n) (w : World) (hr : Kd.C (Kd.int .i64) w A n xs) (hc : n ≤ c) (hr2 : Kd.C (Kd.int .i64) w A2 n xs) (hc2 : n ≤ c2) :
    Calls Try.prog 23 #[.slice A n c, .slice A2 n c2] w fun e w' => e = .returned (.bool true) ∧ Up w w' := by
  subst hn
  have h := rLike A c xs A2 c2 xs w hr hc hr2 hc2
  simpa using h
theorem kSameL (A : Option Addr) (c b : Nat) (w : World) (hb : b = w.heap.size) (hr : Kd.C kSp w A 3 [⟨20, 35⟩, ⟨10, 30⟩, ⟨15, 40⟩]) (hc : 3 ≤ c) :
    Calls Try.prog 22 #[.slice A 3 c, .slice (some ⟨b, 0, none⟩) 3 3] (w.alloc (.cells #[.int .i64 20, .int .i64 35, .int .i64 10, .int .i64 30, .int .i64 15, .int .i64 40] 23)) fun e w' => e = .returned (.bool true) ∧ Up (w.alloc (.cells #[.int .i64 20, .int .i64 35, .int .i64 10, .int .i64 30, .int .i64 15, .int .i64 40] 23)) w' := by
  subst hb
  exact kSame A c _ 3 3 [⟨20, 35⟩, ⟨10, 30⟩, ⟨15, 40⟩] rfl _ (C_up hr ((Up.refl w).alloc _)) hc (C_newS w 23 [⟨20, 35⟩, ⟨10, 30⟩, ⟨15, 40⟩] _ 3 rfl rfl (by decide)) (by decide)
theorem kSameS (A : Option Addr) (c b : Nat) (w : World) (hb : b = w.heap.size) (hr : Kd.C kSp w A 2 [⟨10, 19⟩, ⟨0, 5⟩]) (hc : 2 ≤ c) :
    Calls Try.prog 22 #[.slice A 2 c, .slice (some ⟨b, 0, none⟩) 2 2] (w.alloc (.cells #[.int .i64 10, .int .i64 19, .int .i64 0, .int .i64 5] 23)) fun e w' => e = .returned (.bool true) ∧ Up (w.alloc (.cells #[.int .i64 10, .int .i64 19, .int .i64 0, .int .i64 5] 23)) w' := by
  subst hb
  exact kSame A c _ 2 2 [⟨10, 19⟩, ⟨0, 5⟩] rfl _ (C_up hr ((Up.refl w).alloc _)) hc (C_newS w 23 [⟨10, 19⟩, ⟨0, 5⟩] _ 2 rfl rfl (by decide)) (by decide)
theorem kLikeM (A : Option Addr) (c b : Nat) (w : World) (hb : b = w.heap.size) (hr : Kd.C (Kd.int .i64) w A 3 [0, 1, 3]) (hc : 3 ≤ c) :
    Calls Try.prog 23 #[.slice A 3 c, .slice (some ⟨b, 0, none⟩) 3 3] (w.alloc (.cells #[.int .i64 0, .int .i64 1, .int .i64 3] 3)) fun e w' => e = .returned (.bool true) ∧ Up (w.alloc (.cells #[.int .i64 0, .int .i64 1, .int .i64 3] 3)) w' := by
  subst hb
  exact kLike A c _ 3 3 [0, 1, 3] rfl _ (C_up hr ((Up.refl w).alloc _)) hc (C_new w 3 [0, 1, 3] _ 3 rfl rfl (by decide)) (by decide)
set_option maxRecDepth 100000 in
set_option maxHeartbeats 4000000 in
theorem known_ (w : World) : Calls Try.prog 15 #[] w fun e w' => e = .returned (.bool true) ∧ Up w w' := by
  go_enter Try.func15, Try.ntmps15
  go_wp2_with (first | (go_at_call 55; (with_reducible refine (millL _).mono ?_); rintro e w' ⟨rfl, hb⟩; have hbA := Aside0.mk hb; have hz := hb.le; (try simp at hz); clear hb) | (go_at_call 56; (with_reducible refine (flows_ _).mono ?_); rintro e w' ⟨AF, rfl, hCF, hb⟩; have HC := Aside0.mk hCF; have hbA := Aside0.mk hb; obtain ⟨hcA, hfA⟩ := hb.old; have hz := hb.le; (try simp at hz); clear hCF hb) | (go_at_call 19; (with_reducible refine (kGoes _ _ _ (by simp) HC.out).mono ?_); rintro e w' ⟨rfl, hb⟩; have hbA := Aside0.mk hb; have hz := hb.le; (try simp at hz); clear hb) | (go_at_call 20; (with_reducible refine (kLevels _ _ _ (by simp) HC.out).mono ?_); rintro e w' ⟨AL, cL, rfl, hcL, hCL, hb⟩; have HCL := Aside0.mk hCL; have hbA := Aside0.mk hb; have hz := hb.le; (try simp at hz); clear hb hCL) | (go_at_call 27; (with_reducible refine (kBlows _ _ (by simp)).mono ?_); rintro e wB ⟨rfl, hb⟩; have hbA := Aside0.mk hb; have hz := hb.le; (try simp at hz); clear hb) | fail)
  have HB6 : Aside0 (Bx w' wB.heap.size #[.int .i64 90, .int .i64 120] 23) := ⟨(Bx.new wB _ _).up upA⟩
  have HLU : Aside0 (Kd.C kSp w' AL 3 [⟨20, 35⟩, ⟨10, 30⟩, ⟨15, 40⟩]) := ⟨C_up HCL.out upA⟩
  have HUW : Aside0 (Up w w') := ⟨upA⟩
  rename World => W5
  (with_reducible refine (kMost _ _ HC.out).mono ?_)
  rintro e w' ⟨AM, cM, rfl, hcM, hCM, hb⟩
  have HCM := Aside0.mk hCM
  have hz : W5.heap.size ≤ w'.heap.size := hb.le
  have hbA := Aside0.mk hb
  clear hCM hb
  go_wp2_with (first | (go_at_call 55; (with_reducible refine (millL _).mono ?_); rintro e w' ⟨rfl, hb⟩; have hbA := Aside0.mk hb; have hz := hb.le; (try simp at hz); clear hb) | (go_at_call 56; (with_reducible refine (flows_ _).mono ?_); rintro e w' ⟨AF, rfl, hCF, hb⟩; have HC := Aside0.mk hCF; have hbA := Aside0.mk hb; obtain ⟨hcA, hfA⟩ := hb.old; have hz := hb.le; (try simp at hz); clear hCF hb) | (go_at_call 36; (with_reducible refine (kLasts _ _ HC.out).mono ?_); rintro e w' ⟨rfl, hb⟩; have hbA := Aside0.mk hb; have hz := hb.le; (try simp at hz); clear hb) | (go_at_call 38; (with_reducible refine (kWindow _ _ HC.out).mono ?_); rintro e w' ⟨rfl, hb⟩; have hbA := Aside0.mk hb; have hz := hb.le; (try simp at hz); clear hb) | (go_at_call 32; (with_reducible refine (kDone _ _ HC.out).mono ?_); rintro e w' ⟨rfl, hb⟩; have hbA := Aside0.mk hb; have hz := hb.le; (try simp at hz); clear hb) | (go_at_call 40; (with_reducible refine (kUpstream _ _ _ (by simp) HC.out).mono ?_); rintro e w' ⟨rfl, hb⟩; have hbA := Aside0.mk hb; have hz := hb.le; (try simp at hz); clear hb) | (go_at_call 45; (with_reducible refine (kStopped _ _ _ (by simp) HC.out).mono ?_); rintro e w' ⟨AS, cS, rfl, hcS, hCS, hb⟩; have HCS := Aside0.mk hCS; have hbA := Aside0.mk hb; have hz := hb.le; (try simp at hz); clear hb hCS) | (go_at_call 41; (with_reducible refine (kRain _ _ _ (by simp) HC.out).mono ?_); rintro e w' ⟨rfl, hb⟩; have hbA := Aside0.mk hb; have hz := hb.le; (try simp at hz); clear hb) | fail)
  have hB6 := HB6.out.up (w' := w') upA
  have hv0 : w'.cell? ⟨wB.heap.size, 0, none⟩ = some (.int .i64 90) := hB6.cell 0
  have hv1 : w'.cell? ⟨wB.heap.size, 1, none⟩ = some (.int .i64 120) := hB6.cell 1
  have HL9 : Aside0 (Kd.C kSp w' AL 3 [⟨20, 35⟩, ⟨10, 30⟩, ⟨15, 40⟩]) := ⟨C_up HLU.out upA⟩
  have HM9 : Aside0 (Kd.C (Kd.int .i64) w' AM 3 [0, 1, 3]) := ⟨C_up HCM.out upA⟩
  have HS9 : Aside0 (Kd.C kSp w' AS 2 [⟨10, 19⟩, ⟨0, 5⟩]) := ⟨C_up HCS.out upA⟩
  have HW9 : Aside0 (Up w w') := ⟨HUW.out.then upA⟩
  have heq : ∀ (w : World) (a b x y : Int), (binOp .eql 23 (.agg #[.int .i64 a, .int .i64 b]) (.agg #[.int .i64 x, .int .i64 y])).run Try.prog w = .ok (.bool (a == x && b == y)) w := by
    intro w a b x y
    have h : (Op.equal 23 (.agg #[.int .i64 a, .int .i64 b]) (.agg #[.int .i64 x, .int .i64 y])).run Try.prog w = .ok (a == x && b == y) w := eq_span 9998 w a b x y
    simp [binOp, go_sem, h]
  rename World => W9
  have hzB : wB.heap.size < W9.heap.size := hB6.lt
  clear hB6
  go_region_held3 (fun W => W.cell? ⟨wB.heap.size, 0, none⟩ = some (.int .i64 90) ∧ W.cell? ⟨wB.heap.size, 1, none⟩ = some (.int .i64 120)) (first | go_keep | (go_split_ands; (repeat' (with_reducible apply And.intro)) <;> (first | assumption | ((refine (hcA _ _ (by (try simp); omega)).trans ?_); (first | assumption | (simp; assumption)))))) (first
    | (go_at_call 30; (with_reducible refine (span_ _ _ _).mono ?_); rintro e w' ⟨rfl, hb⟩; have hbA := Aside0.mk hb; obtain ⟨hcA, hfA⟩ := hb.old; have hz := hb.le; (try simp at hz); clear hb)
    | (go_at_call 22; (with_reducible refine (kSameL AL cL _ _ (by simp) (C_up HL9.out upA) hcL).mono ?_); rintro e w' ⟨rfl, hb⟩; have hbA := Aside0.mk hb; obtain ⟨hcA, hfA⟩ := hb.old; have hz := hb.le; (try simp at hz); clear hb)
    | (go_at_call 23; (with_reducible refine (kLikeM AM cM _ _ (by simp) (C_up HM9.out upA) hcM).mono ?_); rintro e w' ⟨rfl, hb⟩; have hbA := Aside0.mk hb; obtain ⟨hcA, hfA⟩ := hb.old; have hz := hb.le; (try simp at hz); clear hb)
    | (go_at_call 22; (with_reducible refine (kSameS AS cS _ _ (by simp) (C_up HS9.out upA) hcS).mono ?_); rintro e w' ⟨rfl, hb⟩; have hbA := Aside0.mk hb; obtain ⟨hcA, hfA⟩ := hb.old; have hz := hb.le; (try simp at hz); clear hb)
    | fail)
  all_goals
    go_wp2_with fail
    go_ret
    exact ⟨rfl, HW9.out.then upA⟩
end Go.Proofs.Ytcnlbbmokphjnaa
