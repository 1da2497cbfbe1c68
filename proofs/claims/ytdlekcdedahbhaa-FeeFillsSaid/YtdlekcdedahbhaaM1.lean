/- The walks of this program's functions. No condition. -/
import Derived.Test.YtdlekcdedahbhaaM0
import Derived.Test.YtdlekcdedahbhaaWZeros
import Derived.Sort.CutIn
import Derived.OrdersIn
import Derived.StillTailTactics
import Derived.Laws.MakeOwn
import Derived.Stop.RegionWithIn
import Derived.Test.YtdlekcdedahbhaaProg
import Derived.Below
import Derived.Deep.Draws
import Derived.Deep.AppendLies
import Derived.Maps.AppendAt
import Derived.OwnWalk
import Derived.Laws.BytesArg
import Derived.Laws.OwnMore
import Derived.Deep.OwnRows
import Derived.Tactics
import Derived.Lib.ConvBytes
import Derived.Laws.Slices
import Derived.WalkKit
import Derived.KernelRfl
import Derived.RowKit3
import Derived.Deep.LoopGhost
import Derived.Deep.QuietTactic
import Derived.BigQuiet
import Derived.WideLaws
import Derived.Deep.DeepCutAuto
import Derived.Deep.CutBlock
import Derived.Deep.RegionHeld3
import Derived.Laws.Rows
import Derived.Lib.AppendStr
import Derived.ArgAppend
import Derived.Laws.IdiomCopy
import Derived.OrdersHeld
import Derived.Laws.BitsLemmas
import Derived.RowKit
import Derived.Test.YtdlekcdedahbhaaWWords
import Derived.Test.YtdlekcdedahbhaaWLast
import Derived.Test.YtdlekcdedahbhaaWApart
import Derived.Test.YtdlekcdedahbhaaWN
import Derived.Test.YtdlekcdedahbhaaWRepsOne
import Derived.Test.YtdlekcdedahbhaaWInv
import Derived.Test.YtdlekcdedahbhaaWMore
set_option linter.unusedVariables false
set_option linter.unusedSimpArgs false
namespace Go.Proofs.Ytdlekcdedahbhaa
open Go.RowKit Go.Shelf Go.Proofs.YtdlekcdedahbhaaW.PrintWords
set_option linter.unusedVariables false
set_option linter.unusedSimpArgs false
theorem zeros_one (m : Nat) : ∀ u ∈ (Builtin.zeroCells (Value.int .i64 0).cells m).toList, u.oneCell' = true := by
  intro u hu
  have h9 : (Value.int .i64 0).cells = #[Value.int .i64 0] := rfl
  simp [Builtin.zeroCells, h9] at hu
  obtain ⟨j, _, rfl⟩ := hu
  rw [Nat.mod_one]
  rfl
theorem append_at {P : Program} {ops : Array Oper} {rest : List Oper} {o : Oper} {a : Act} {Q : Exit → Act → World → Prop} {W : World} (hgd : o.guard = none) (s x : Operand) (t t2 : TypeId)
    (ho : o.op = .call { callee := .builtin .append, args := #[s, x], argTypes := #[t, t2] }) (v u : Value) (hs : a.eval s = v) (hx : a.eval x = u) (v1 : Value) (w1 : World)
    (hr : (Builtin.append_ #[t, t2] o.type #[v, u]).run P W = .ok v1 w1) (h : wpList P ops Q rest (a.put o.dst v1) w1) : wpList P ops Q (o :: rest) a W := by
  refine wpList_plain hgd fun K hK => ?_
  unfold Oper.wp execOp
  simp only [ho, resolve, invoke, builtin, Sem.run_bind, Sem.run_pure, Result.andThen_ok, List.map_toArray, List.map_cons, List.map_nil, hs, hx, hr]
  exact hK _ _ h
set_option maxRecDepth 100000 in
theorem grow_ (n : Nat) (w : World) (h0 : 0 < n) (hn : n ≤ 2000) :
    Calls Try.prog 99 #[.slice none 0 0, .int .i64 (n : Int)] w fun e w' => ∃ v, e = .returned v ∧ w'.ownsRow w.heap.size 3 1 v 0 [] ∧ Up w w' := by
  obtain ⟨i0, hi, hz0, hz1, hz2⟩ := info_parts info_int
  obtain ⟨v1, w1, hrun, hown, hg, _⟩ := run_append_zeros (P := Try.prog) w w.heap.size 35 3 35 3 i0 (.int .i64 0) 1 8 Try.underlying35 Try.underlying3 hi hz0 hz1 hz2 rfl (by decide) (by decide) (.slice none 0 0) 0 [] ⟨rfl, .inl ⟨rfl, rfl⟩⟩ .i64 n (zeros_one n) (by omega) (Nat.le_refl _)
  have hu : Up w w1 := (Below.refl _ w).grown hg (Nat.le_refl _) (by intro k hk; simp [Value.ownBlock] at hk)
  rcases hown.2 with ⟨_, h9⟩ | ⟨g, cap, cur, rfl, hb, hgb, hcap, hm, hsz, htk⟩
  · omega
  have hd1 : decide ((n : Int) < 0) = false := by simp
  have hd2 : decide ((n : Int) > 0) = true := by simp; omega
  have hs1 : (0 : Nat) + n = n := by omega
  rw [hs1] at hrun hcap
  have HO : Aside0 (w1.ownsRow w.heap.size 3 1 (.slice (some ⟨g, 0, none⟩) 0 cap) 0 []) := ⟨rfl, .inr ⟨g, cap, cur, rfl, hb, hgb, Nat.zero_le _, hm, hsz, by simp⟩⟩
  have HU := Aside0.mk hu
  have hm2 : cap ≤ 9223372036854775807 := by unfold maxLen at hm; omega
  clear hown hg hb hgb hsz htk hu hm
  go_enter Try.func99, Try.ntmps99
  go_wp2_with (at_builtin; refine append_at rfl _ _ 35 3 rfl (.slice none 0 0) (.int .i64 (n : Int)) rfl rfl _ _ hrun ?_)
  go_ret
  exact ⟨_, rfl, HO.out, HU.out⟩
theorem cells_of {w : World} {A : Option Addr} {l : List Int} (h : Kd.C (Kd.int .i64) w A l.length l) : 0 < l.length → ∃ ad, A = some ad ∧ ∀ j u, (nums .i64 l)[j]? = some u → w.cell? (ad.add j) = some u := by
  intro h0
  obtain ⟨ad, hA, hc⟩ := h.2.2 h0
  refine ⟨ad, hA, fun j u hu => ?_⟩
  simp only [nums, List.getElem?_map, Option.map_eq_some_iff] at hu
  obtain ⟨x, hx, rfl⟩ := hu
  obtain ⟨a, e, hy⟩ := Kd.at_int h (j : Int) (by omega) (by have := (List.getElem?_eq_some_iff.1 hx).1; omega)
  rw [hA] at e
  cases e
  have hr : rd l j = x := by simp [rd, List.getD_eq_getElem?_getD, hx]
  rw [hr] at hy
  simpa using hy
def Rc (W : World) (A : Option Addr) (l : List Int) : Prop := 0 < l.length → ∃ ad, A = some ad ∧ ∀ j u, (nums .i64 l)[j]? = some u → W.cell? (ad.add j) = some u
def catN (l1 l2 : List Int) : Nat → Nat
  | 0 => 0
  | 1 => l1.length
  | _ => l1.length + l2.length
def catL (l1 l2 : List Int) : Nat → List Int
  | 0 => []
  | 1 => l1
  | _ => l1 ++ l2
set_option maxRecDepth 100000 in
theorem concat_ (bb : Nat) (A1 : Option Addr) (c1 : Nat) (l1 : List Int) (A2 : Option Addr) (c2 : Nat) (l2 : List Int) (w : World) (hB : Bx w bb #[.slice A1 l1.length c1, .slice A2 l2.length c2] 35)
    (hr1 : Rc w A1 l1) (hr2 : Rc w A2 l2) (hc1 : l1.length ≤ c1) (hc2 : l2.length ≤ c2) (h0 : 0 < l1.length) (h1 : l1.length ≤ 100) (h2 : l2.length ≤ 100) :
    Calls Try.prog 93 #[.slice (some ⟨bb, 0, none⟩) 2 2] w fun e w' => ∃ v, e = .returned v ∧ w'.ownsRow w.heap.size 3 1 v (l1 ++ l2).length (nums .i64 (l1 ++ l2)) ∧ Up w w' := by
  have HB := Aside0.mk hB
  have HR1 := Aside0.mk hr1
  have HR2 := Aside0.mk hr2
  have hq := hB.cell
  clear hB hr1 hr2
  have hu155 := Try.underlying155
  go_enter Try.func93, Try.ntmps93
  go_wp2_with fail
  go_loopw [3, 11] (fun v3 i wr => ∃ k : Nat, k ≤ 2 ∧ v3 = .int .i64 (catN l1 l2 k : Nat) ∧ i = .int .i64 k ∧ wr = w) (fun _ i _ => 2 - (intOf i).toNat)
  case atStart => exact ⟨0, by omega, rfl, rfl, rfl⟩
  case round =>
    obtain ⟨k, hk, rfl, rfl, hw⟩ := hrel
    obtain rfl : w = wr := hw.symm
    clear hw
    obtain rfl | rfl | rfl : k = 0 ∨ k = 1 ∨ k = 2 := by omega
    · have hn1 : decide ((l1.length : Int) < 0) = false := by simp
      have hcast : ((catN l1 l2 0 : Nat) : Int) = 0 := rfl
      rw [hcast]
      clear hcast
      have hz1 : ((0 : Int) + (l1.length : Int)) = (l1.length : Int) := by omega
      go_wp2_with fail
      go_roundw
      case rel => exact ⟨1, by omega, by simp [catN]⟩
      case measure => simp [intOf]
    · have hn1 : decide ((l1.length : Int) + (l2.length : Int) < 0) = false := by simp; omega
      have hcast : ((catN l1 l2 1 : Nat) : Int) = (l1.length : Int) := rfl
      rw [hcast]
      clear hcast
      go_wp2_with fail
      go_roundw
      case rel => exact ⟨2, by omega, by simp [catN]⟩
      case measure => simp [intOf]
    · have hcast : ((catN l1 l2 2 : Nat) : Int) = ((l1.length + l2.length : Nat) : Int) := rfl
      rw [hcast]
      clear hcast
      have hgrow := grow_ (l1.length + l2.length) w (by omega) (by omega)
      rw [Int.natCast_add] at hgrow
      go_wp2_with (go_at_call 99; (with_reducible refine hgrow.mono ?_); rintro e w1 ⟨v1, rfl, ho1, hu1⟩; have HO1 := Aside0.mk ho1; have HU1 := Aside0.mk hu1; clear ho1 hu1)
      clear hgrow
      have hB1 := HB.out.up HU1.out
      go_loopw [6, 27] (fun v6 i w2 => ∃ (k : Nat) (v : Value), k ≤ 2 ∧ v6 = v ∧ i = .int .i64 k ∧ Aside0 (w2.ownsRow w.heap.size 3 1 v (catL l1 l2 k).length (nums .i64 (catL l1 l2 k))) ∧ Aside0 (Up w w2)) (fun _ i _ => 2 - (intOf i).toNat)
      case atStart => exact ⟨0, _, by omega, rfl, rfl, HO1, HU1⟩
      case round =>
        clear hB1 hq
        obtain ⟨k, v, hk, rfl, rfl, HO, HU⟩ := hrel
        have hq2 := (HB.out.up HU.out).cell
        have HCl1 : Aside0 (0 < l1.length → ∃ ad, A1 = some ad ∧ ∀ j u, (nums .i64 l1)[j]? = some u → w.cell? (ad.add j) = some u) := HR1
        have HCl2 : Aside0 (0 < l2.length → ∃ ad, A2 = some ad ∧ ∀ j u, (nums .i64 l2)[j]? = some u → w.cell? (ad.add j) = some u) := HR2
        obtain rfl | rfl | rfl : k = 0 ∨ k = 1 ∨ k = 2 := by omega
        · skip
          go_wp2_with (at_builtin; refine append_all w.heap.size rfl _ _ 35 3 (.int .i64 0) 1 8 rfl Try.underlying35 info_int rfl (by decide) (by decide) _ (catL l1 l2 0).length (nums .i64 (catL l1 l2 0)) (nums .i64 l1) A1 l1.length c1 rfl rfl HO.out (by simp [nums]) ?qc2 ?qc3 ?qc4 ?qc5 ?qc6)
          case qc2 =>
            intro hm
            obtain ⟨ad, e, hc⟩ := HCl1.out hm
            exact ⟨ad, e, fun j u hu => HU.out.cell (hc j u hu)⟩
          case qc3 => intro u hu; simp only [nums, List.mem_map] at hu; obtain ⟨q, _, rfl⟩ := hu; rfl
          case qc4 => have := HU.out.le; omega
          case qc5 => simp [catL]; omega
          intro v1 w1 hown hgrow
          have HOn : Aside0 (w1.ownsRow w.heap.size 3 1 v1 (catL l1 l2 1).length (nums .i64 (catL l1 l2 1))) := ⟨by simpa [catL, nums] using hown⟩
          have HUn : Aside0 (Up w w1) := ⟨Below.grown HU.out hgrow HU.out.size (fun q e => (HO.out.lt q e).1)⟩
          clear hown hgrow
          go_wp2
          go_roundw
          case rel => exact ⟨1, _, by omega, rfl, rfl, HOn, HUn⟩
          case measure => simp [intOf]
        · skip
          go_wp2_with (at_builtin; refine append_all w.heap.size rfl _ _ 35 3 (.int .i64 0) 1 8 rfl Try.underlying35 info_int rfl (by decide) (by decide) _ (catL l1 l2 1).length (nums .i64 (catL l1 l2 1)) (nums .i64 l2) A2 l2.length c2 rfl rfl HO.out (by simp [nums]) ?qd2 ?qd3 ?qd4 ?qd5 ?qd6)
          case qd2 =>
            intro hm
            obtain ⟨ad, e, hc⟩ := HCl2.out hm
            exact ⟨ad, e, fun j u hu => HU.out.cell (hc j u hu)⟩
          case qd3 => intro u hu; simp only [nums, List.mem_map] at hu; obtain ⟨q, _, rfl⟩ := hu; rfl
          case qd4 => have := HU.out.le; omega
          case qd5 => simp [catL]; omega
          intro v1 w1 hown hgrow
          have HOn : Aside0 (w1.ownsRow w.heap.size 3 1 v1 (catL l1 l2 2).length (nums .i64 (catL l1 l2 2))) := ⟨by simpa [catL, nums] using hown⟩
          have HUn : Aside0 (Up w w1) := ⟨Below.grown HU.out hgrow HU.out.size (fun q e => (HO.out.lt q e).1)⟩
          clear hown hgrow
          go_wp2
          go_roundw
          case rel => exact ⟨2, _, by omega, rfl, rfl, HOn, HUn⟩
          case measure => simp [intOf]
        · go_wp2_with fail
          go_ret
          exact ⟨_, rfl, HO.out, HU.out⟩
end Go.Proofs.Ytdlekcdedahbhaa
namespace Go.Proofs.Ytdlekcdedahbhaa
open Go.RowKit Go.Shelf Go.Proofs.YtdlekcdedahbhaaW.PrintWords
set_option linter.unusedVariables false
set_option linter.unusedSimpArgs false
attribute [local go_sem] Oper.semAt_some
def wayLo (want now : Acc) (x : Ent) (xs : List Ent) : Int := max 0 (if xs.length = 0 then want.get x.t - now.get x.t else 0)
def wayHi (want now : Acc) (x : Ent) (xs : List Ent) : Int := min (if xs.length = 0 then want.get x.t - now.get x.t else 100) 100
def wayN (want now : Acc) (x : Ent) (xs : List Ent) : Nat := (wayHi want now x xs + 1 - wayLo want now x xs).toNat
def waysL (want : Acc) : List Ent → Acc → List (List Int)
  | [], now => if now = want then [[]] else []
  | x :: xs, now => (List.range (wayN want now x xs)).flatMap fun (j : Nat) => (waysL want xs (afterA now ⟨x.f, x.t, wayLo want now x xs + (j : Int)⟩)).map ((wayLo want now x xs + (j : Int)) :: ·)
def fillLo (T : Nat) : Prop := T = 36 ∨ T = 44 ∨ T = 4
def wayOw (T : Nat) : Prop := T = 101
def Ri (W : World) (A : Option Addr) (l : List Int) : Prop := 0 < l.length → ∃ g C, A = some ⟨g, 0, none⟩ ∧ Bx W g C 3 ∧ ∀ (j : Nat) u, (nums .i64 l)[j]? = some u → C[j]? = some u
theorem Ri.rc {W : World} {A : Option Addr} {l : List Int} (h : Ri W A l) : Rc W A l := fun h0 => by
  obtain ⟨g, C, rfl, hb, hc⟩ := h h0
  exact ⟨_, rfl, fun j u hj => by rw [add_plain, hb.cell, hc j u hj]⟩
theorem Ri.up {W W' : World} {A : Option Addr} {l : List Int} (h : Ri W A l) (hu : Up W W') : Ri W' A l := fun h0 => by
  obtain ⟨g, C, rfl, hb, hc⟩ := h h0
  exact ⟨g, C, rfl, hb.up hu, hc⟩
def Rd (W : World) (v : Value) (xs : List Int) : Prop := ∃ A c, v = .slice A xs.length c ∧ xs.length ≤ c ∧ Ri W A xs
def Er (W : World) (A : Option Addr) (l : List Ent) : Prop := 0 < l.length → ∃ g off C, A = some ⟨g, off, none⟩ ∧ Bx W g C 101 ∧ ∀ j, j < l.length → C[off + 3 * j]? = some (.int .i64 (rdEnt l j).f) ∧ C[off + 3 * j + 1]? = some (.int .i64 (rdEnt l j).t) ∧ C[off + 3 * j + 2]? = some (.int .i64 (rdEnt l j).a)
theorem Er.up {W W' : World} {A : Option Addr} {l : List Ent} (h : Er W A l) (hu : Up W W') : Er W' A l := by
  intro h0
  obtain ⟨g, off, C, hA, hb, hc⟩ := h h0
  exact ⟨g, off, C, hA, hb.up hu, hc⟩
theorem Er.kt {lo : Nat → Prop} {W W' : World} {A : Option Addr} {l : List Ent} (h : Er W A l) (hu : Kt lo W W') (hT : ¬ lo 101) : Er W' A l := by
  intro h0
  obtain ⟨g, off, C, hA, hb, hc⟩ := h h0
  exact ⟨g, off, C, hA, hu.bx hb hT, hc⟩
theorem rdEnt_succ (x : Ent) (xs : List Ent) (j : Nat) : rdEnt (x :: xs) ((j + 1 : Nat) : Int) = rdEnt xs (j : Int) := rfl
theorem Er.tail {W : World} {g off : Nat} {x : Ent} {xs : List Ent} (h : Er W (some ⟨g, off, none⟩) (x :: xs)) : Er W (some ⟨g, off + 3, none⟩) xs := by
  intro h0
  obtain ⟨g', off', C, hA, hb, hc⟩ := h (by simp)
  cases hA
  refine ⟨g, off + 3, C, rfl, hb, fun j hj => ?_⟩
  have h9 := hc (j + 1) (by simp; omega)
  rw [rdEnt_succ] at h9
  rw [show off + 3 + 3 * j = off + 3 * (j + 1) by omega]
  exact h9
set_option maxRecDepth 100000 in
theorem ways_ (now want : Acc) (A : Option Addr) (n c : Nat) (w : World) :
    Calls Try.prog 80 #[.agg #[.int .i64 (now).a0, .int .i64 (now).a1, .int .i64 (now).a2, .int .i64 (now).a3, .int .i64 (now).a4, .int .i64 (now).a5], .agg #[.int .i64 (want).a0, .int .i64 (want).a1, .int .i64 (want).a2, .int .i64 (want).a3, .int .i64 (want).a4, .int .i64 (want).a5], .slice A n c] w fun e w' => e = .returned (.func (.func 92) #[] #[.pointer (some ⟨w.heap.size + 2, 0, none⟩), .pointer (some ⟨w.heap.size, 0, none⟩), .pointer (some ⟨w.heap.size + 1, 0, none⟩)]) ∧ w' = ((w.alloc (.cells #[.int .i64 (now).a0, .int .i64 (now).a1, .int .i64 (now).a2, .int .i64 (now).a3, .int .i64 (now).a4, .int .i64 (now).a5] 135)).alloc (.cells #[.int .i64 (want).a0, .int .i64 (want).a1, .int .i64 (want).a2, .int .i64 (want).a3, .int .i64 (want).a4, .int .i64 (want).a5] 135)).alloc (.cells #[.slice A n c] 46) := by
  go_enter Try.func80, Try.ntmps80
  go_wp2_with fail
  go_ret
  exact ⟨rfl, rfl⟩
set_option maxRecDepth 100000 in
set_option maxHeartbeats 4000000 in
theorem ways_nil (want now : Acc) (A : Option Addr) (c b1 b2 b3 : Nat) (w : World) (hB1 : Bx w b1 #[.slice A 0 c] 46) (hB2 : Bx w b2 #[.int .i64 (now).a0, .int .i64 (now).a1, .int .i64 (now).a2, .int .i64 (now).a3, .int .i64 (now).a4, .int .i64 (now).a5] 135) (hB3 : Bx w b3 #[.int .i64 (want).a0, .int .i64 (want).a1, .int .i64 (want).a2, .int .i64 (want).a3, .int .i64 (want).a4, .int .i64 (want).a5] 135) :
    Gives Fence.wide 5 Try.prog 92 #[.pointer (some ⟨b1, 0, none⟩), .pointer (some ⟨b2, 0, none⟩), .pointer (some ⟨b3, 0, none⟩)] Rd fillLo wayOw (waysL want [] now) w := by
  intro lp J W hW hJ hY hj
  have hu := hW.alloc (.cells #[.func (.yield lp) #[] #[]] 66)
  have hq1 := (hB1.up hu).cell
  have hq2 := (hB2.up hu).cell
  have hq3 := (hB3.up hu).cell
  have hae := eq_acc now want
  have HJ := Aside0.mk (Stays.alloc hJ (.cells #[.func (.yield lp) #[] #[]] 66) hj)
  have HY := Aside0.mk hY
  have hW' := hu
  have HW := Aside0.mk hW'
  clear hY hJ hj hB1 hB2 hB3 hW hu hW'
  by_cases hnw : now = want
  · have hd : decide (now = want) = true := by simpa using hnw
    obtain ⟨fn, tmps, assign, body, hy, hR⟩ := HY.out [] [] [] (.slice none 0 0) _ (by simp [waysL, hnw]) HJ.out (Kt.up HW.out) ⟨none, 0, rfl, Nat.le_refl _, fun h => absurd h (by simp)⟩
    have HL : Aside0 (waysL want [] now = [] ++ [[]]) := ⟨by simp [waysL, hnw]⟩
    clear hnw
    refine callsIn_of_wp Try.func92 rfl trivial ?_ rfl
    simp only [Try.ntmps92, List.size_toArray, List.length_cons, List.length_nil, Nat.reduceAdd, Nat.reduceSub, Array.replicate_succ, Array.replicate_zero, List.push_toArray, List.append_toArray, List.nil_append, List.cons_append]
    gi_wp2_with fail
    refine hR.mono ?_
    rintro e W3 ⟨rfl, hJ3, _⟩
    have HJ3 := Aside0.mk hJ3
    clear hJ3
    gi_wp2_with fail
    refine bodyPost_ret (results_none rfl _ _ _) rfl ?_
    exact ⟨⟨_, rfl⟩, by rw [HL.out]; exact HJ3.out⟩
  · have hd : decide (now = want) = false := by simpa using hnw
    have HL : Aside0 (waysL want [] now = []) := ⟨by simp [waysL, hnw]⟩
    clear hnw
    refine callsIn_of_wp Try.func92 rfl trivial ?_ rfl
    simp only [Try.ntmps92, List.size_toArray, List.length_cons, List.length_nil, Nat.reduceAdd, Nat.reduceSub, Array.replicate_succ, Array.replicate_zero, List.push_toArray, List.append_toArray, List.nil_append, List.cons_append]
    gi_wp2_with fail
    refine bodyPost_ret (results_none rfl _ _ _) rfl ?_
    exact ⟨⟨_, rfl⟩, by rw [HL.out]; exact HJ.out⟩
end Go.Proofs.Ytdlekcdedahbhaa
namespace Go.Proofs.Ytdlekcdedahbhaa
open Go.RowKit Go.Shelf Go.Proofs.YtdlekcdedahbhaaW.PrintWords
set_option linter.unusedVariables false
set_option linter.unusedSimpArgs false
attribute [local go_sem] Oper.semAt_some bi_max2 bi_min2 bi_max_two bi_min_two
def waysTo (want : Acc) (xs : List Ent) (x : Ent) (now : Acc) (lo : Int) (k : Nat) : List (List Int) := (List.range k).flatMap fun (j : Nat) => (waysL want xs (afterA now ⟨x.f, x.t, lo + (j : Int)⟩)).map ((lo + (j : Int)) :: ·)
theorem get_bd {n : Int} {a : Acc} (h : AccB n a) (hn : 0 ≤ n) (i : Int) : -n ≤ a.get i ∧ a.get i ≤ n := by
  unfold AccB at h
  unfold Acc.get
  (repeat' split) <;> omega
theorem waysTo_succ (want : Acc) (xs : List Ent) (x : Ent) (now : Acc) (lo : Int) (k : Nat) : waysTo want xs x now lo (k + 1) = waysTo want xs x now lo k ++ (waysL want xs (afterA now ⟨x.f, x.t, lo + (k : Int)⟩)).map ((lo + (k : Int)) :: ·) := by
  unfold waysTo
  rw [List.range_succ, List.flatMap_append]
  simp
structure WayI (J : List (List Int) → World → Prop) (w W : World) (lp : Nat) (x : Ent) (am n : Int) (B8 : Nat) (Ds : List Nat) (ys : List (List Int)) (Wc : World) : Prop where
  j : J ys Wc
  b4 : Bx Wc W.heap.size #[.func (.yield lp) #[] #[]] 66
  b5 : Bx Wc (W.heap.size + 1) #[.int .i64 x.f, .int .i64 x.t, .int .i64 am] 101
  b8 : Bx Wc B8 #[.int .i64 n] 3
  h8 : W.heap.size + 1 < B8
  kt : Kt fillLo w Wc
  sz : W.heap.size + 2 ≤ Wc.heap.size
  ds : ∀ D ∈ Ds, W.heap.size < D ∧ Wc.heap[D]? = some (.deferred (some []))
theorem WayI.up {J w W lp x am n B8 Ds ys Wc Wd} (h : WayI J w W lp x am n B8 Ds ys Wc) (hS : Stays wayOw W.heap.size J) (hu : Up Wc Wd) : WayI J w W lp x am n B8 Ds ys Wd :=
  ⟨hS.up h.j hu, h.b4.up hu, h.b5.up hu, h.b8.up hu, h.h8, h.kt.trans (Kt.up hu), Nat.le_trans h.sz hu.size, fun D hD => ⟨(h.ds D hD).1, (hu.block D (Array.getElem?_eq_some_iff.1 (h.ds D hD).2).1).trans (h.ds D hD).2⟩⟩
theorem ways_fin {J w W lp x am n B8 Ds ys Wc} {m : Nat} {tmps : Array Value} (h : WayI J w W lp x am n B8 Ds ys Wc) (hS : Stays wayOw W.heap.size J) (hnd : Ds.Nodup) :
    LeavesInM Fence.wide m Try.prog Try.f92 tmps (fun e W' => (∃ v, e = Ending.returned v) ∧ J ys W') (Ds.map fun D => { target := .collected D, args := #[] }) .returning Wc :=
  leaves_coll (B := W.heap.size) (fun W' => J ys W') (fun W' D hB hj hD => hS.putObj _ hj hB hD rfl) (fun W' hj => ⟨_, results_none rfl _ _ _, ⟨_, rfl⟩, hj⟩) Ds Wc (fun D hD => ⟨Nat.le_of_lt (h.ds D hD).1, (h.ds D hD).2⟩) hnd h.j
theorem WayI.set {J w W lp x am n B8 Ds ys Wc} (h : WayI J w W lp x am n B8 Ds ys Wc) (hS : Stays wayOw W.heap.size J) (hwW : w.heap.size ≤ W.heap.size) (a : Int) : WayI J w W lp x a n B8 Ds ys (Wc.setCell ⟨W.heap.size + 1, 2, none⟩ (.int .i64 a)) := by
  have hz : Kt fillLo w (Wc.setCell ⟨W.heap.size + 1, 2, none⟩ (.int .i64 a)) := by
    have hb := Below.setCell (B := w.heap.size) (Below.refl _ Wc) (p := ⟨W.heap.size + 1, 2, none⟩) (by simp; omega) (.int .i64 a)
    refine ⟨hb.os.trans h.kt.os, hb.tape.trans h.kt.tape, hb.output.trans h.kt.output, Nat.le_trans h.kt.size hb.size, fun k o hk hl => ?_⟩
    have h9 := (Array.getElem?_eq_some_iff.1 hk).1
    exact (hb.block k h9).trans (h.kt.same k o hk hl)
  exact ⟨hS.set h.j (Nat.le_succ _) h.b5 rfl 2 _, h.b4.far (by omega) _ _, h.b5.set 2 _, h.b8.far (by have := h.h8; omega) _ _, h.h8, hz, by have := h.sz; simpa using this, fun D hD => ⟨(h.ds D hD).1, (KeepsOthers.setCell Wc ⟨W.heap.size + 1, 2, none⟩ (.int .i64 a)).same D _ (h.ds D hD).2 rfl⟩⟩
theorem Bx.new1 (w : World) (C : Array Value) (T : TypeId) (n : Nat) (h : n = w.heap.size) : Bx (w.alloc (.cells C T)) n C T := by subst h; exact Bx.new w C T
theorem Bx.drew {w B C T} (h : Bx w B C T) : Bx w.drew B C T := h.up ((Up.refl _).drew)
theorem Bx.drewN {w B C T} (h : Bx w B C T) (n : Nat) : Bx (w.drewN n) B C T := h.up ((Up.refl _).drewN n)
theorem Bx.allocO {w B C T} (h : Bx w B C T) (o : Obj) : Bx (w.alloc o) B C T := h.up ((Up.refl _).alloc o)
theorem bxA {w : World} {B : Nat} {C : Array Value} {T : TypeId} (h : Bx w B C T := by repeat' (first | assumption | (with_reducible refine Bx.new1 _ _ _ _ ?_; (simp; done)) | (with_reducible refine Bx.drew ?_) | (with_reducible refine Bx.drewN ?_ _) | (with_reducible refine Bx.allocO ?_ _))) : Bx w B C T := h
theorem Rc.up {W W' : World} {A : Option Addr} {l : List Int} (h : Rc W A l) (hu : Up W W') : Rc W' A l := fun h0 => by
  obtain ⟨ad, rfl, hc⟩ := h h0
  exact ⟨ad, rfl, fun j u hj => hu.cell (hc j u hj)⟩
theorem Rc.one {W : World} {b : Nat} {n : Int} {T : TypeId} (h : Bx W b #[.int .i64 n] T) : Rc W (some ⟨b, 0, none⟩) [n] := fun _ => ⟨_, rfl, fun j u hj => by
  rw [add_plain, h.cell, ← hj]
  simp [nums]⟩
theorem Rd.putObj (W : World) (l : Nat) (o o' : Obj) (v : Value) (x : List Int) (hl : W.heap[l]? = some o) (ho : o.isCells = false) (h : Rd W v x) : Rd (W.putObj l o') v x := by
  obtain ⟨A, c, rfl, hc, hr⟩ := h
  refine ⟨A, c, rfl, hc, fun h0 => ?_⟩
  obtain ⟨g, C, rfl, hb, hc⟩ := hr h0
  exact ⟨g, C, rfl, hb.own (grownBy_putObj' W l o') (fun r e => by cases e; exact ⟨o, hl, ho⟩), hc⟩
theorem ways_up {a b c : Obj} {w w2 : World} (h : w2 = ((w.alloc a).alloc b).alloc c) : Up w w2 := by rw [h]; exact upA
theorem waysL_len (want : Acc) : ∀ (xs : List Ent) (now : Acc), ∀ y ∈ waysL want xs now, y.length = xs.length
  | [], now, y, h => by
    unfold waysL at h
    split at h <;> simp at h
    subst h; rfl
  | x :: xs, now, y, h => by
    unfold waysL at h
    obtain ⟨j, _, h⟩ := List.mem_flatMap.1 h
    obtain ⟨z, hz, rfl⟩ := List.mem_map.1 h
    simp [waysL_len want xs _ z hz]
theorem concat1 (n : Int) (b : Nat) (A9 : Option Addr) (c9 : Nat) (y : List Int) (bb : Nat) (w : World) (hB : Bx w bb #[.slice (some ⟨b, 0, none⟩) 1 1, .slice A9 y.length c9] 35) (h1 : Bx w b #[.int .i64 n] 3) (hr : Rc w A9 y) (hc : y.length ≤ c9) (hl : y.length ≤ 50) :
    Calls Try.prog 93 #[.slice (some ⟨bb, 0, none⟩) 2 2] w fun e w' => ∃ v, e = .returned v ∧ w'.ownsRow w.heap.size 3 1 v (n :: y).length (nums .i64 (n :: y)) ∧ Up w w' :=
  concat_ bb (some ⟨b, 0, none⟩) 1 [n] A9 c9 y w hB (Rc.one h1) hr (by simp) hc (by simp) (by simp) (by omega)
theorem Rd.ofOwn {w : World} {base : Nat} {v : Value} {xs : List Int} (h : w.ownsRow base 3 1 v xs.length (nums .i64 xs)) : Rd w v xs := by
  rcases h.2 with ⟨rfl, h0⟩ | ⟨g, cap, cur, rfl, hb, hg, hcap, _, hsz, htk⟩
  · exact ⟨none, 0, by rw [h0], by omega, fun hl => by omega⟩
  · refine ⟨some ⟨g, 0, none⟩, cap, rfl, hcap, fun hl => ⟨g, cur, rfl, hg, fun j u hu => ?_⟩⟩
    have hj : j < xs.length := by
      have := (List.getElem?_eq_some_iff.1 hu).1
      simpa [nums] using this
    rw [← htk, List.getElem?_take, if_pos (by omega), Array.getElem?_toList] at hu
    exact hu
theorem waysTo_split (want : Acc) (xs : List Ent) (x : Ent) (now : Acc) (lo : Int) (k : Nat) : ∀ N, k < N → ∃ suf, waysTo want xs x now lo N = waysTo want xs x now lo (k + 1) ++ suf
  | 0, h => by omega
  | N + 1, h => by
    by_cases e : k = N
    · subst e; exact ⟨[], by simp⟩
    · obtain ⟨suf, hs⟩ := waysTo_split want xs x now lo k N (by omega)
      exact ⟨suf ++ (waysL want xs (afterA now ⟨x.f, x.t, lo + (N : Int)⟩)).map ((lo + (N : Int)) :: ·), by rw [waysTo_succ want xs x now lo N, hs, List.append_assoc]⟩
theorem WayI.kt2 {J w W lp x am n B8 Ds ys Wc Wd ys'} (h : WayI J w W lp x am n B8 Ds ys Wc) (hk : Kt fillLo Wc Wd) (hj : J ys' Wd) : WayI J w W lp x am n B8 Ds ys' Wd :=
  ⟨hj, hk.bx h.b4 (by simp [fillLo]), hk.bx h.b5 (by simp [fillLo]), hk.bx h.b8 (by simp [fillLo]), h.h8, h.kt.trans hk, Nat.le_trans h.sz hk.size, fun D hD => ⟨(h.ds D hD).1, hk.same D _ (h.ds D hD).2 (fun C T z e => by cases e)⟩⟩
def wayCell (a' : Act) (Wc : World) : Int := match Wc.cell? ⟨(match a'.tmps.getD 8 undef with | .pointer (some p) => p.block | _ => 0), 0, none⟩ with | some v => intOf v | none => 0
theorem wayCell_eq {a' : Act} {Wc : World} {B : Nat} {n : Int} (h : a'.tmps.getD 8 undef = .pointer (some ⟨B, 0, none⟩)) (hc : Wc.cell? ⟨B, 0, none⟩ = some (.int .i64 n)) : wayCell a' Wc = n := by
  unfold wayCell
  rw [h]
  dsimp only
  rw [hc]
  rfl
theorem way_mu {N : Nat} {lo n : Int} {a1 a2 : Act} {W1 W2 : World} {B1 B2 : Nat} (h1 : a1.tmps.getD 8 undef = .pointer (some ⟨B1, 0, none⟩)) (c1 : W1.cell? ⟨B1, 0, none⟩ = some (.int .i64 (n + 1))) (h2 : a2.tmps.getD 8 undef = .pointer (some ⟨B2, 0, none⟩)) (c2 : W2.cell? ⟨B2, 0, none⟩ = some (.int .i64 n)) (hlo : lo ≤ n) (hN : n < lo + N) :
    N - (wayCell a1 W1 - lo).toNat < N - (wayCell a2 W2 - lo).toNat := by
  rw [wayCell_eq h1 c1, wayCell_eq h2 c2]
  omega
theorem WayI.next {J w W lp x am n B8 Ds ys Wd} (h : WayI J w W lp x am n B8 Ds ys Wd) (hS : Stays wayOw W.heap.size J) (D : Nat) (hD : W.heap.size < D) (hDd : Wd.heap[D]? = some (.deferred (some []))) (n' : Int) :
    WayI J w W lp x am n' Wd.heap.size (D :: Ds) ys (Wd.alloc (.cells #[.int .i64 n'] 3)) := by
  have hu : Up Wd (Wd.alloc (.cells #[.int .i64 n'] 3)) := (Up.refl _).alloc _
  have hlt := (Array.getElem?_eq_some_iff.1 hDd).1
  refine ⟨hS.up h.j hu, h.b4.up hu, h.b5.up hu, Bx.new Wd _ _, by omega, h.kt.trans (Kt.up hu), Nat.le_trans h.sz hu.size, fun E hE => ?_⟩
  rcases List.mem_cons.1 hE with rfl | hE
  · exact ⟨hD, (hu.block _ hlt).trans hDd⟩
  · exact ⟨(h.ds E hE).1, (hu.block _ (Array.getElem?_eq_some_iff.1 (h.ds E hE).2).1).trans (h.ds E hE).2⟩
theorem ways1_enter (args : Array Value) (w : World) : (callFunc 92 args).run Try.prog w = .ok (.enter 92 args) w := by kernel_rfl
theorem WayI.stays {J : List (List Int) → World → Prop} {w W : World} {lp : Nat} {x : Ent} {am n : Int} {B8 B : Nat} {Ds : List Nat} {ys : List (List Int)} (hS : Stays wayOw W.heap.size J) (hB8 : B8 < B) (hW1 : W.heap.size + 1 < B) (hDs : ∀ D ∈ Ds, D < B) (hw : w.heap.size ≤ B) :
    Stays wayOw B (fun (pre : List (List Int)) Wd => WayI J w W lp x am n B8 Ds (ys ++ pre.map (n :: ·)) Wd) := by
  rintro s A A' row h hg hr
  have hne : ∀ k, k < B → some k ≠ row := fun k hk e => by have := (hr k e.symm).1; omega
  have hsame : ∀ (k : Nat) (o : Obj), k < B → A.heap[k]? = some o → A'.heap[k]? = some o := fun k o hk ho => (hg.block k (Array.getElem?_eq_some_iff.1 ho).1 (hne k hk)).trans ho
  exact ⟨hS _ A A' row h.j hg (fun r e => ⟨by have := (hr r e).1; omega, (hr r e).2⟩), hsame _ _ (by omega) h.b4, hsame _ _ (by omega) h.b5, hsame _ _ hB8 h.b8, h.h8,
    ⟨hg.os.trans h.kt.os, hg.tape.trans h.kt.tape, hg.output.trans h.kt.output, Nat.le_trans h.kt.size hg.size, fun k o hk hl => hsame k o (by have := (Array.getElem?_eq_some_iff.1 hk).1; omega) (h.kt.same k o hk hl)⟩, Nat.le_trans h.sz hg.size,
    fun D hD => ⟨(h.ds D hD).1, hsame D _ (hDs D hD) (h.ds D hD).2⟩⟩
set_option maxRecDepth 100000 in
set_option maxHeartbeats 4000000 in
theorem ways_cons (want now : Acc) (x : Ent) (xs : List Ent) (A : Option Addr) (c b1 b2 b3 : Nat) (m : Int) (w : World) (hw : AccB 100000 want) (hn : AccB m now) (hm : m ≤ 9000) (hx : 0 ≤ x.f ∧ x.f ≤ 5) (hy : 0 ≤ x.t ∧ x.t ≤ 5)
    (hB1 : Bx w b1 #[.slice A (xs.length + 1) c] 46) (hB2 : Bx w b2 #[.int .i64 (now).a0, .int .i64 (now).a1, .int .i64 (now).a2, .int .i64 (now).a3, .int .i64 (now).a4, .int .i64 (now).a5] 135) (hB3 : Bx w b3 #[.int .i64 (want).a0, .int .i64 (want).a1, .int .i64 (want).a2, .int .i64 (want).a3, .int .i64 (want).a4, .int .i64 (want).a5] 135) (hr : Er w A (x :: xs)) (hc : xs.length + 1 ≤ c) (hxl : xs.length ≤ 50)
    (hI : ∀ (now' : Acc) (A' : Option Addr) (c' b1 b2 b3 : Nat) (w' : World), AccB (m + 200) now' → Bx w' b1 #[.slice A' xs.length c'] 46 → Bx w' b2 #[.int .i64 (now').a0, .int .i64 (now').a1, .int .i64 (now').a2, .int .i64 (now').a3, .int .i64 (now').a4, .int .i64 (now').a5] 135 → Bx w' b3 #[.int .i64 (want).a0, .int .i64 (want).a1, .int .i64 (want).a2, .int .i64 (want).a3, .int .i64 (want).a4, .int .i64 (want).a5] 135 → Er w' A' xs → xs.length ≤ c' →
      Gives Fence.wide 4 Try.prog 92 #[.pointer (some ⟨b1, 0, none⟩), .pointer (some ⟨b2, 0, none⟩), .pointer (some ⟨b3, 0, none⟩)] Rd fillLo wayOw (waysL want xs now') w') :
    Gives Fence.wide 5 Try.prog 92 #[.pointer (some ⟨b1, 0, none⟩), .pointer (some ⟨b2, 0, none⟩), .pointer (some ⟨b3, 0, none⟩)] Rd fillLo wayOw (waysL want (x :: xs) now) w := by
  intro lp J W hW hJ hY hj
  have hu := hW.alloc (.cells #[.func (.yield lp) #[] #[]] 66)
  have hq1 := (hB1.up hu).cell
  have hq2 := (hB2.up hu).cell
  have hq3 := (hB3.up hu).cell
  have hlt1 := (hB1.up hu).lt
  have hlt2 := (hB2.up hu).lt
  have hlt3 := (hB3.up hu).lt
  have HJ0 := Aside0.mk hj
  have HSJ := Aside0.mk hJ
  have HY := Aside0.mk hY
  have HW0 := Aside0.mk hW
  have HW := Aside0.mk hu
  have HB1 := Aside0.mk hB1
  have HB2 := Aside0.mk hB2
  have HB3 := Aside0.mk hB3
  have HI := Aside0.mk hI
  have HR := Aside0.mk hr
  obtain ⟨g, off, C0, rfl, hbx, hcx⟩ := hr (by simp)
  obtain ⟨hx0, hx1, hx2⟩ := hcx 0 (by simp)
  rw [show rdEnt (x :: xs) ((0 : Nat) : Int) = x from rfl] at hx0 hx1 hx2
  simp only [Nat.mul_zero, Nat.add_zero] at hx0 hx1 hx2
  have hx0' := ((hbx.up hu).cell off).trans hx0
  have hx1' := ((hbx.up hu).cell (off + 1)).trans hx1
  have hx2' := ((hbx.up hu).cell (off + 2)).trans hx2
  clear hx0 hx1 hx2 hcx
  have hi1 : (0 : Int) < ((xs.length : Int) + 1) := by omega
  have hd0 : (((xs.length : Int) + 1) == 0) = false := by simp; omega
  have hix1 : ∀ w : World, (Instr.index 135 (.agg #[.int .i64 (want).a0, .int .i64 (want).a1, .int .i64 (want).a2, .int .i64 (want).a3, .int .i64 (want).a4, .int .i64 (want).a5]) (.int .i64 x.t)).run Try.prog w = .ok (.int .i64 (want.get x.t)) w := fun w => by
    have h := index_acc want x.t.toNat (by omega) w
    rwa [show ((x.t.toNat : Nat) : Int) = x.t by omega] at h
  have hq1b : ∀ (C : Obj) o, ((W.alloc (.cells #[.func (.yield lp) #[] #[]] 66)).alloc C).cell? ⟨b1, o, none⟩ = (#[.slice (some ⟨g, off, none⟩) (xs.length + 1) c] : Array Value)[o]? := fun C o => (hB1.up (hu.alloc C)).cell o
  have hq2b : ∀ (C : Obj) o, ((W.alloc (.cells #[.func (.yield lp) #[] #[]] 66)).alloc C).cell? ⟨b2, o, none⟩ = (#[.int .i64 (now).a0, .int .i64 (now).a1, .int .i64 (now).a2, .int .i64 (now).a3, .int .i64 (now).a4, .int .i64 (now).a5] : Array Value)[o]? := fun C o => (hB2.up (hu.alloc C)).cell o
  have hq3b : ∀ (C : Obj) o, ((W.alloc (.cells #[.func (.yield lp) #[] #[]] 66)).alloc C).cell? ⟨b3, o, none⟩ = (#[.int .i64 (want).a0, .int .i64 (want).a1, .int .i64 (want).a2, .int .i64 (want).a3, .int .i64 (want).a4, .int .i64 (want).a5] : Array Value)[o]? := fun C o => (hB3.up (hu.alloc C)).cell o
  have hgw : (#[.int .i64 (want).a0, .int .i64 (want).a1, .int .i64 (want).a2, .int .i64 (want).a3, .int .i64 (want).a4, .int .i64 (want).a5] : Array Value)[x.t.toNat]? = some (.int .i64 (want.get x.t)) := by
    obtain h | h | h | h | h | h : x.t = 0 ∨ x.t = 1 ∨ x.t = 2 ∨ x.t = 3 ∨ x.t = 4 ∨ x.t = 5 := by omega
    all_goals (rw [h]; rfl)
  have hgn : (#[.int .i64 (now).a0, .int .i64 (now).a1, .int .i64 (now).a2, .int .i64 (now).a3, .int .i64 (now).a4, .int .i64 (now).a5] : Array Value)[x.t.toNat]? = some (.int .i64 (now.get x.t)) := by
    obtain h | h | h | h | h | h : x.t = 0 ∨ x.t = 1 ∨ x.t = 2 ∨ x.t = 3 ∨ x.t = 4 ∨ x.t = 5 := by omega
    all_goals (rw [h]; rfl)
  have hg3 : ∀ (C : Obj), ((W.alloc (.cells #[.func (.yield lp) #[] #[]] 66)).alloc C).cell? ⟨b3, x.t.toNat, none⟩ = some (.int .i64 (want.get x.t)) := fun C => (hq3b C _).trans hgw
  have hg2 : ∀ (C : Obj), ((W.alloc (.cells #[.func (.yield lp) #[] #[]] 66)).alloc C).cell? ⟨b2, x.t.toNat, none⟩ = some (.int .i64 (now.get x.t)) := fun C => (hq2b C _).trans hgn
  have hy0 : (0 : Int) ≤ x.t := by omega
  have hy1 : x.t < 6 := by omega
  clear hq2 hq3 hq2b hq3b hgw hgn
  clear hY hJ hj hB1 hB2 hB3 hW hu hI hr hbx
  refine callsIn_of_wp_marks Try.func92 rfl trivial ?_ rfl
  simp only [Try.ntmps92, List.size_toArray, List.length_cons, List.length_nil, Nat.reduceAdd, Nat.reduceSub, Array.replicate_succ, Array.replicate_zero, List.push_toArray, List.append_toArray, List.nil_append, List.cons_append]
  have hgb1 := get_bd hw (by omega) x.t
  have hgb2 := get_bd (hn.mono (m := 9000) (by omega)) (by omega) x.t
  have hw64 : wrap64 (want.get x.t - now.get x.t) = want.get x.t - now.get x.t := by unfold wrap64; omega
  have hw65 : IntKind.i64.wrap (want.get x.t - now.get x.t) = want.get x.t - now.get x.t := IntWalk.i64_in _ (by omega)
  gi_upto_if 23 with fail
  gi_cut [6, 7] from 24 (fun u6 u7 wx => ∃ fst lst : Int, u6 = .int .i64 fst ∧ u7 = .int .i64 lst ∧ Aside0 (max 0 fst = wayLo want now x xs) ∧ Aside0 (min lst 100 = wayHi want now x xs) ∧ Aside0 (Up ((W.alloc (.cells #[.func (.yield lp) #[] #[]] 66)).alloc (.cells #[.int .i64 (x).f, .int .i64 (x).t, .int .i64 (x).a] 101)) wx))
  case first =>
    by_cases hxs : xs.length = 0
    · have hd1 : (((xs.length : Int) + 1) == 1) = true := by simp; omega
      gi_wp2_with fail
      gi_region
      gi_wp2_with fail
      gi_meet
      exact ⟨_, _, rfl, rfl, ⟨by simp only [wayLo, hxs, if_true]⟩, ⟨by simp only [wayHi, hxs, if_true]⟩, ⟨upA⟩⟩
    · have hd1 : (((xs.length : Int) + 1) == 1) = false := by simp; omega
      gi_wp2_with fail
      gi_meet
      exact ⟨_, _, rfl, rfl, ⟨by simp only [wayLo, if_neg hxs]⟩, ⟨by simp only [wayHi, if_neg hxs]⟩, ⟨upA⟩⟩
  case rest =>
    obtain ⟨fst, lst, rfl, rfl, hlo, hhi, HUX⟩ := hcut
    have HBX5 : Aside0 (Bx wc (W.heap.size + 1) #[.int .i64 (x).f, .int .i64 (x).t, .int .i64 (x).a] 101) := ⟨by
      have h9 := Bx.new (W.alloc (.cells #[.func (.yield lp) #[] #[]] 66)) #[.int .i64 (x).f, .int .i64 (x).t, .int .i64 (x).a] 101
      simp only [World.size_alloc] at h9
      exact h9.up HUX.out⟩
    have HBX4 : Aside0 (Bx wc W.heap.size #[.func (.yield lp) #[] #[]] 66) := ⟨((Bx.new W _ _).up ((Up.refl _).alloc _)).up HUX.out⟩
    have hsz := HUX.out.le
    simp only [World.size_alloc] at hsz
    gi_wp2_with fail
    rw [hlo.out]
    have HUW : Aside0 (Up W wc) := ⟨(((Up.refl W).alloc _).alloc _).then HUX.out⟩
    have hI0 : WayI J w W lp x x.a (wayLo want now x xs) wc.heap.size [] [] (wc.alloc (.cells #[.int .i64 (wayLo want now x xs)] 3)) := by
      refine ⟨HSJ.out.up HJ0.out (HUW.out.alloc _), HBX4.out.up ((Up.refl _).alloc _), HBX5.out.up ((Up.refl _).alloc _), Bx.new wc _ _, by omega, Kt.up (HW0.out.then (HUW.out.alloc _)), by simp; omega, fun D hD => by simp at hD⟩
    have HI0 := Aside0.mk hI0
    clear hI0
    refine wpIn_loop (fun a' Wc => ∃ (k B8 : Nat) (am : Int) (Ds : List Nat), ∃ u6 u9 u10 u11 u12 u13 u14 u15 u16 u17 u18 u19 u20 u21 u22 u23 u24 u25 u26 u27 u28 u29 u30 u31 u32 u33 u34 u35 u36 u37 u38 u39 u40 u41 u42 u43 u44 u45 u46 u47 u48 u49 u50 u51 u52 u53 u54 u55 u56 u57 u58 u59 u60 : Value, (k ≤ wayN want now x xs ∧ Aside0 (WayI J w W lp x am (wayLo want now x xs + (k : Int)) B8 Ds (waysTo want xs x now (wayLo want now x xs) k) Wc) ∧ Aside0 Ds.Nodup) ∧ a' = { tmps := #[.func (.yield lp) #[] #[], .pointer (some ⟨b1, 0, none⟩), .pointer (some ⟨b2, 0, none⟩), .pointer (some ⟨b3, 0, none⟩), .pointer (some ⟨W.heap.size, 0, none⟩), .pointer (some ⟨W.heap.size + 1, 0, none⟩), u6, .int .i64 lst, .pointer (some ⟨B8, 0, none⟩), u9, u10, u11, u12, u13, u14, u15, u16, u17, u18, u19, u20, u21, u22, u23, u24, u25, u26, u27, u28, u29, u30, u31, u32, u33, u34, u35, u36, u37, u38, u39, u40, u41, u42, u43, u44, u45, u46, u47, u48, u49, u50, u51, u52, u53, u54, u55, u56, u57, u58, u59, u60], defers := Ds.map (fun D => { target := .collected D, args := #[] }) }) (fun a' Wc => wayN want now x xs - (wayCell a' Wc - wayLo want now x xs).toNat) ?_ ?_
    · refine ⟨0, wc.heap.size, x.a, [], ?_⟩
      (repeat apply Exists.intro)
      refine ⟨?_, rfl⟩
      exact ⟨Nat.zero_le _, ⟨by simpa [waysTo] using HI0.out⟩, ⟨List.nodup_nil⟩⟩
    · rintro a' Wc ⟨k, B8, am, Ds, u6, u9, u10, u11, u12, u13, u14, u15, u16, u17, u18, u19, u20, u21, u22, u23, u24, u25, u26, u27, u28, u29, u30, u31, u32, u33, u34, u35, u36, u37, u38, u39, u40, u41, u42, u43, u44, u45, u46, u47, u48, u49, u50, u51, u52, u53, u54, u55, u56, u57, u58, u59, u60, ⟨hk, hIc, hnd⟩, rfl⟩
      dsimp only
      have hc8 := hIc.out.b8.cell
      have hN : wayN want now x xs = (wayHi want now x xs + 1 - wayLo want now x xs).toNat := rfl
      have hlb : 0 ≤ wayLo want now x xs := by unfold wayLo; omega
      have hhb : wayHi want now x xs ≤ 100 := by unfold wayHi; omega
      by_cases hlt : k < wayN want now x xs
      · have hdl : decide (wayLo want now x xs + (k : Int) ≤ min lst 100) = true := by rw [hhi.out]; simp; omega
        obtain ⟨n, hnn⟩ : ∃ n, n = wayLo want now x xs + (k : Int) := ⟨_, rfl⟩
        have hnb : 0 ≤ n ∧ n ≤ 100 := by omega
        have HNN := Aside0.mk hnn
        rw [← hnn] at hIc hc8 hdl
        clear hN hlb hhb hnn
        have hwW := HW0.out.le
        have hc5 := hIc.out.b5.cell
        have hf5 := hIc.out.b5.frozen
        have HA := Aside0.mk (hIc.out.set HSJ.out hwW n)
        have hq5 : ∀ o, (Wc.setCell ⟨W.heap.size + 1, 2, none⟩ (.int .i64 n)).cell? ⟨W.heap.size + 1, o, none⟩ = (#[.int .i64 x.f, .int .i64 x.t, .int .i64 n] : Array Value)[o]? := HA.out.b5.cell
        have hB1a := HA.out.kt.bx HB1.out (by simp [fillLo])
        have hB2a := HA.out.kt.bx HB2.out (by simp [fillLo])
        have hB3a := HA.out.kt.bx HB3.out (by simp [fillLo])
        have hq1a := hB1a.cell
        have hq2a := hB2a.cell
        have hq3a := hB3a.cell
        have hl1 := hB1a.lt
        have hl2 := hB2a.lt
        have hl3 := hB3a.lt
        simp only [World.size_setCell] at hl1 hl2 hl3
        have hnA : AccB 1000000 now := hn.mono (by omega)
        have HNA := Aside0.mk hnA
        have hszc := hIc.out.sz
        have HB1A := Aside0.mk hB1a
        have HB3A := Aside0.mk hB3a
        clear hB1a hB2a hB3a hnA
        gi_upto_region 13 with fail
        gi_cut [50] from 61 (fun u50 wx => ∃ W0 A8, Aside0 (Up (Wc.setCell ⟨W.heap.size + 1, 2, none⟩ (.int .i64 n)) W0) ∧ u50 = .func (.func 92) #[] #[.pointer (some ⟨W0.heap.size + 2, 0, none⟩), .pointer (some ⟨W0.heap.size, 0, none⟩), .pointer (some ⟨W0.heap.size + 1, 0, none⟩)] ∧ Aside0 (wx = ((W0.alloc (.cells #[.int .i64 (afterA now ⟨x.f, x.t, n⟩).a0, .int .i64 (afterA now ⟨x.f, x.t, n⟩).a1, .int .i64 (afterA now ⟨x.f, x.t, n⟩).a2, .int .i64 (afterA now ⟨x.f, x.t, n⟩).a3, .int .i64 (afterA now ⟨x.f, x.t, n⟩).a4, .int .i64 (afterA now ⟨x.f, x.t, n⟩).a5] 135)).alloc (.cells #[.int .i64 (want).a0, .int .i64 (want).a1, .int .i64 (want).a2, .int .i64 (want).a3, .int .i64 (want).a4, .int .i64 (want).a5] 135)).alloc (.cells #[.slice A8 xs.length (c - 1)] 46)) ∧ Aside0 (A8 = if c = 1 then some ⟨g, off, none⟩ else some ⟨g, off + 3, none⟩))
        case first =>
          have hone : (1 : Int) ≤ (xs.length : Int) + 1 := by omega
          by_cases hcap : c = 1
          · skip
            refine wpIn_wide.2 ?_
            go_region_held3 (fun V => (∀ o, V.cell? ⟨b1, o, none⟩ = (#[.slice (some ⟨g, off, none⟩) (xs.length + 1) c] : Array Value)[o]?) ∧ (∀ o, V.cell? ⟨b2, o, none⟩ = (#[.int .i64 (now).a0, .int .i64 (now).a1, .int .i64 (now).a2, .int .i64 (now).a3, .int .i64 (now).a4, .int .i64 (now).a5] : Array Value)[o]?) ∧ (∀ o, V.cell? ⟨b3, o, none⟩ = (#[.int .i64 (want).a0, .int .i64 (want).a1, .int .i64 (want).a2, .int .i64 (want).a3, .int .i64 (want).a4, .int .i64 (want).a5] : Array Value)[o]?) ∧ (∀ o, V.cell? ⟨W.heap.size + 1, o, none⟩ = (#[.int .i64 x.f, .int .i64 x.t, .int .i64 n] : Array Value)[o]?)) (first | (go_keep; done) | (go_split_ands; (repeat' (with_reducible apply And.intro)) <;> (first | assumption | (intro o; refine (hcA _ o ?_).trans ?_; (focus (first | omega | (simp; omega) | (simp; done))); (first | (simp only [*]; done) | (simp [*]; done))) | ((refine (hcA _ _ (by (try simp); omega)).trans ?_); (first | assumption | (simp only [*]; done) | (simp [*]; done)))))) (first | (go_at_call 74; (with_reducible refine (after_ now ⟨x.f, x.t, n⟩ _ HNA.out hx hy (by simp only; omega)).mono ?_); rintro e w' ⟨rfl, hb⟩; have hbA := Aside0.mk hb; obtain ⟨hcA, hfA⟩ := hb.old; have hz := hb.le; (try simp at hz); (try have hz0 : w.heap.size < w'.heap.size := by omega); (try have hzb : w.heap.size + 1 < w'.heap.size := by omega); (try have hzc : w.heap.size + 2 < w'.heap.size := by omega); clear hb) | (go_at_call 80; (with_reducible refine (ways_ _ want _ _ _ _).mono ?_); rintro e w2 ⟨rfl, hw2⟩; have hb := ways_up hw2; obtain ⟨hcA, hfA⟩ := hb.old; have hz := hb.le; (try simp at hz); have hbB := Aside0.mk hb; have hwB := Aside0.mk hw2; clear hb hw2))
            all_goals
              go_wp2_with fail
              go_meet
              exact ⟨_, some ⟨g, off, none⟩, ⟨upA⟩, rfl, ⟨by first | exact hwB.out | (rw [hwB.out]; simp [hcap]; done)⟩, ⟨by simp [hcap]⟩⟩
          · skip
            refine wpIn_wide.2 ?_
            go_region_held3 (fun V => (∀ o, V.cell? ⟨b1, o, none⟩ = (#[.slice (some ⟨g, off, none⟩) (xs.length + 1) c] : Array Value)[o]?) ∧ (∀ o, V.cell? ⟨b2, o, none⟩ = (#[.int .i64 (now).a0, .int .i64 (now).a1, .int .i64 (now).a2, .int .i64 (now).a3, .int .i64 (now).a4, .int .i64 (now).a5] : Array Value)[o]?) ∧ (∀ o, V.cell? ⟨b3, o, none⟩ = (#[.int .i64 (want).a0, .int .i64 (want).a1, .int .i64 (want).a2, .int .i64 (want).a3, .int .i64 (want).a4, .int .i64 (want).a5] : Array Value)[o]?) ∧ (∀ o, V.cell? ⟨W.heap.size + 1, o, none⟩ = (#[.int .i64 x.f, .int .i64 x.t, .int .i64 n] : Array Value)[o]?)) (first | (go_keep; done) | (go_split_ands; (repeat' (with_reducible apply And.intro)) <;> (first | assumption | (intro o; refine (hcA _ o ?_).trans ?_; (focus (first | omega | (simp; omega) | (simp; done))); (first | (simp only [*]; done) | (simp [*]; done))) | ((refine (hcA _ _ (by (try simp); omega)).trans ?_); (first | assumption | (simp only [*]; done) | (simp [*]; done)))))) (first | (go_at_call 74; (with_reducible refine (after_ now ⟨x.f, x.t, n⟩ _ HNA.out hx hy (by simp only; omega)).mono ?_); rintro e w' ⟨rfl, hb⟩; have hbA := Aside0.mk hb; obtain ⟨hcA, hfA⟩ := hb.old; have hz := hb.le; (try simp at hz); (try have hz0 : w.heap.size < w'.heap.size := by omega); (try have hzb : w.heap.size + 1 < w'.heap.size := by omega); (try have hzc : w.heap.size + 2 < w'.heap.size := by omega); clear hb) | (go_at_call 80; (with_reducible refine (ways_ _ want _ _ _ _).mono ?_); rintro e w2 ⟨rfl, hw2⟩; have hb := ways_up hw2; obtain ⟨hcA, hfA⟩ := hb.old; have hz := hb.le; (try simp at hz); have hbB := Aside0.mk hb; have hwB := Aside0.mk hw2; clear hb hw2))
            all_goals
              go_wp2_with fail
              go_meet
              exact ⟨_, some ⟨g, off + 3, none⟩, ⟨upA⟩, rfl, ⟨by first | exact hwB.out | (rw [hwB.out]; simp [hcap]; done)⟩, ⟨by simp [hcap]⟩⟩
        case rest =>
          obtain ⟨W0, A8, HU0, rfl, HWX, HA8⟩ := hcut
          have hwx := HWX.out
          have hU1 : Up W0 wc := by rw [hwx]; exact upA
          have hI1 := (HA.out.up HSJ.out HU0.out).up HSJ.out hU1
          have hbb2 : Bx wc W0.heap.size #[.int .i64 (afterA now ⟨x.f, x.t, n⟩).a0, .int .i64 (afterA now ⟨x.f, x.t, n⟩).a1, .int .i64 (afterA now ⟨x.f, x.t, n⟩).a2, .int .i64 (afterA now ⟨x.f, x.t, n⟩).a3, .int .i64 (afterA now ⟨x.f, x.t, n⟩).a4, .int .i64 (afterA now ⟨x.f, x.t, n⟩).a5] 135 := by rw [hwx]; exact bxA
          have hbb3 : Bx wc (W0.heap.size + 1) #[.int .i64 (want).a0, .int .i64 (want).a1, .int .i64 (want).a2, .int .i64 (want).a3, .int .i64 (want).a4, .int .i64 (want).a5] 135 := by rw [hwx]; exact bxA
          have hbb1 : Bx wc (W0.heap.size + 2) #[.slice A8 xs.length (c - 1)] 46 := by rw [hwx]; exact bxA
          have hszw : wc.heap.size = W0.heap.size + 3 := by rw [hwx]; simp
          have hsz0 := (HA.out.up HSJ.out HU0.out).sz
          have hB8 := (HA.out.up HSJ.out HU0.out).b8.lt
          have hDs := fun D hD => (Array.getElem?_eq_some_iff.1 ((HA.out.up HSJ.out HU0.out).ds D hD).2).1
          have her : Er wc A8 xs := by
            rw [HA8.out]
            split
            · intro h0; omega
            · exact ((HR.out.kt HA.out.kt (by simp [fillLo])).up (HU0.out.then hU1)).tail
          have hacc : AccB (m + 200) (afterA now ⟨x.f, x.t, n⟩) := (hn.after (m := 100) ⟨x.f, x.t, n⟩ (by simp only; omega)).mono (by omega)
          have hst := WayI.stays (J := J) (w := w) (W := W) (lp := lp) (x := x) (am := n) (n := n) (B8 := B8) (B := wc.heap.size) (Ds := Ds) (ys := waysTo want xs x now (wayLo want now x xs) k) HSJ.out (by omega) (by omega) (fun D hD => by have := hDs D hD; omega) (by have := HW0.out.le; omega)
          have hseq := HI.out _ _ _ _ _ _ wc hacc hbb1 hbb2 hbb3 her (by omega)
          have HDs := Aside0.mk hDs
          have HI1 := Aside0.mk hI1
          clear hacc hbb1 hbb2 hbb3 her hwx hDs hI1
          gi_wp2_with fail
          refine range_gives (F := Fence.wide) (n := 5) rfl (by omega) (gf := 92) (lb := #[.pointer (some ⟨W0.heap.size + 2, 0, none⟩), .pointer (some ⟨W0.heap.size, 0, none⟩), .pointer (some ⟨W0.heap.size + 1, 0, none⟩)]) rfl trivial ways1_enter (G := Rd) (lo := fillLo) (ow := wayOw) (L := waysL want xs (afterA now ⟨x.f, x.t, n⟩)) hseq (Up.refl _) rfl Rd.putObj
            (fun pre Wd => WayI J w W lp x n n B8 Ds (waysTo want xs x now (wayLo want now x xs) k ++ pre.map (n :: ·)) Wd) hst (by simpa using HI1.out)
            (fun v a' => ∃ u6 u7 u10 u11 u12 u13 u14 u15 u16 u17 u18 u19 u20 u21 u22 u23 u24 u25 u26 u27 u28 u29 u30 u31 u32 u33 u34 u35 u36 u37 u38 u39 u40 u41 u42 u43 u44 u45 u46 u47 u48 u49 u50 u51 u52 u53 u54 u55 u56 u57 u58 u59 u60 : Value, a' = { tmps := #[.func (.yield lp) #[] #[], .pointer (some ⟨b1, 0, none⟩), .pointer (some ⟨b2, 0, none⟩), .pointer (some ⟨b3, 0, none⟩), .pointer (some ⟨W.heap.size, 0, none⟩), .pointer (some ⟨W.heap.size + 1, 0, none⟩), u6, u7, .pointer (some ⟨B8, 0, none⟩), v, u10, u11, u12, u13, u14, u15, u16, u17, u18, u19, u20, u21, u22, u23, u24, u25, u26, u27, u28, u29, u30, u31, u32, u33, u34, u35, u36, u37, u38, u39, u40, u41, u42, u43, u44, u45, u46, u47, u48, u49, u50, u51, u52, u53, u54, u55, u56, u57, u58, u59, u60], defers := [] }) ?assign ?body ?done
          case assign =>
            intro l v Wd K hK
            gi_wp2_with fail
          case done =>
            intro D Wd hD hId hDd
            have HID := Aside0.mk hId
            have hq8 := hId.b8.cell
            clear hId
            gi_wp2_with fail
            have hne : D ∉ Ds := fun h => by have := HDs.out D h; omega
            refine ⟨⟨k + 1, Wd.heap.size, n, D :: Ds, ?_⟩, ?_⟩
            · (repeat apply Exists.intro)
              refine ⟨?_, rfl⟩
              refine ⟨by omega, ⟨?_⟩, ⟨List.nodup_cons.2 ⟨hne, hnd.out⟩⟩⟩
              have h9 := HID.out.next HSJ.out D (by omega) hDd (n + 1)
              rw [waysTo_succ, ← HNN.out, show wayLo want now x xs + ((k + 1 : Nat) : Int) = n + 1 by rw [HNN.out]; omega]
              first | exact h9 | (trace_state; exact h9)
            · refine way_mu (B1 := Wd.heap.size) (B2 := B8) (n := n) rfl ?_ rfl (hc8 0) (by rw [HNN.out]; omega) (by rw [HNN.out]; omega)
              exact (Bx.new1 Wd #[.int .i64 (n + 1)] 3 _ rfl).cell 0
          case body =>
            rintro l pre y post v a' Wd hl ⟨r, hlr⟩ hL hIp ⟨A9, c9, rfl, hc9, hRc⟩ ⟨u6, u7, u10, u11, u12, u13, u14, u15, u16, u17, u18, u19, u20, u21, u22, u23, u24, u25, u26, u27, u28, u29, u30, u31, u32, u33, u34, u35, u36, u37, u38, u39, u40, u41, u42, u43, u44, u45, u46, u47, u48, u49, u50, u51, u52, u53, u54, u55, u56, u57, u58, u59, u60, rfl⟩
            dsimp only
            have hq4 := hIp.b4.cell
            have hq8 := hIp.b8.cell
            have hq4b : ∀ (C : Obj) o, (Wd.alloc C).cell? ⟨W.heap.size, o, none⟩ = (#[.func (.yield lp) #[] #[]] : Array Value)[o]? := fun C o => (hIp.b4.up ((Up.refl _).alloc C)).cell o
            have hq8b : ∀ (C : Obj) o, (Wd.alloc C).cell? ⟨B8, o, none⟩ = (#[.int .i64 n] : Array Value)[o]? := fun C o => (hIp.b8.up ((Up.refl _).alloc C)).cell o
            have hq4c : ∀ (C D : Obj) o, ((Wd.alloc C).alloc D).cell? ⟨W.heap.size, o, none⟩ = (#[.func (.yield lp) #[] #[]] : Array Value)[o]? := fun C D o => (hIp.b4.up (((Up.refl _).alloc C).alloc D)).cell o
            have HIP := Aside0.mk hIp
            have HRC := Aside0.mk hRc.rc
            clear hIp hRc
            gi_wp2_with fail
            have hyl : y.length ≤ 50 := by
              have h9 := waysL_len want xs (afterA now ⟨x.f, x.t, n⟩) y (by rw [← hL]; simp)
              omega
            obtain ⟨suf, hsuf⟩ := waysTo_split want xs x now (wayLo want now x xs) k (wayN want now x xs) hlt
            have HEQ : Aside0 ((waysTo want xs x now (wayLo want now x xs) k ++ pre.map (n :: ·)) ++ (n :: y) :: (post.map (n :: ·) ++ suf) = waysL want (x :: xs) now) := ⟨by
              have h9 : waysL want (x :: xs) now = waysTo want xs x now (wayLo want now x xs) (wayN want now x xs) := rfl
              rw [h9, hsuf, waysTo_succ, ← HNN.out, ← hL]
              simp⟩
            clear hsuf
            gi_region_with (first | (refine ⟨trivial, (CallsIn.inRound _ (callsIn_wide.2 (concat1 n Wd.heap.size A9 c9 y (Wd.heap.size + 1) _ bxA bxA (HRC.out.up upA) hc9 hyl))).mono ?_⟩; rintro e w1 ⟨v1, rfl, ho1, hu1⟩; have HU1 := Aside0.mk hu1; have hI2 := HIP.out.up (Wd := w1) HSJ.out upA; have hUK : Aside0 (Kt fillLo Wd w1) := ⟨Kt.up upA⟩; have hq4d := hI2.b4.cell; obtain ⟨fn, tmps, assign, body, hy, hR⟩ := HY.out _ _ _ v1 w1 HEQ.out hI2.j hI2.kt (Rd.ofOwn ho1); have HI2 := Aside0.mk hI2; have HR1 := Aside0.mk hR; clear ho1 hu1 hI2 hR) | (refine (roundIn_any HR1.out _ _).mono ?_; rintro e W3 ⟨rfl, hJ3, hK3⟩; have HJ3 := Aside0.mk hJ3; have HK3 := Aside0.mk hK3; clear hJ3 hK3))
            all_goals
              gi_wp2_with fail
              refine ⟨hUK.out.trans HK3.out, ?_⟩
              have h9 := HI2.out.kt2 HK3.out (ys' := waysTo want xs x now (wayLo want now x xs) k ++ (pre ++ [y]).map (n :: ·)) (by simpa using HJ3.out)
              exact h9
      · obtain rfl : k = wayN want now x xs := by omega
        have hdl : decide (wayLo want now x xs + ((wayN want now x xs : Nat) : Int) ≤ min lst 100) = false := by rw [hhi.out]; simp; omega
        clear hN hlb hhb
        gi_wp2_with fail
        exact ways_fin hIc.out HSJ.out hnd.out
end Go.Proofs.Ytdlekcdedahbhaa
namespace Go.Proofs.Ytdlekcdedahbhaa
open Go.RowKit Go.Shelf Go.Proofs.YtdlekcdedahbhaaW.PrintWords
set_option linter.unusedVariables false
set_option linter.unusedSimpArgs false
def noDefer (l : List Oper) : Bool := l.all fun o => match o.op with | Op.defer _ => false | _ => true
theorem noDefer_spec {l : List Oper} (h : noDefer l = true) {i : Nat} {o : Oper} (hi : l[i]? = some o) : ∀ c : Call, o.op ≠ Op.defer c := by
  intro c e
  have h1 := List.all_eq_true.1 h o (List.mem_of_getElem? hi)
  rw [e] at h1
  cases h1
theorem opIn_of_still {P : Program} {w : World} {n l0 : Nat} {o : Oper} (hnd : ∀ c : Call, o.op ≠ Op.defer c) {a : Act} {K : Act → Prop} {K' : Act → World → Prop} {Q' : Exit → Act → World → Prop} (h : ∀ a, K a → K' a w) (hh : o.still P a w K) : o.wpIn (Fence.wide.inRound l0) n P a w K' Q' := by
  unfold Oper.still at hh
  unfold Oper.wpIn
  refine ⟨fun f _ => trivial, ?_⟩
  rw [Oper.semAt_eq _ _ _ hnd]
  generalize (execOp a.eval o).run P w = r at *
  cases r with
  | ok nx w' =>
    cases nx <;> simp only [Oper.stillUpon] at hh <;> simp only [Oper.uponIn]
    case enter f args =>
      obtain ⟨rfl, v, hc, hn⟩ := hh
      refine ⟨fun hd => by simp [Fence.wide, Fence.inRound] at hd, ?_⟩
      exact (CallsIn.inRound _ (callsIn_wide.2 hc)).mono fun e w'' ⟨he, hw⟩ => by subst he; subst hw; exact h _ hn
    all_goals (obtain ⟨rfl, h2⟩ := hh; exact h _ h2)
  | halt x w' => simp only [Oper.stillUpon] at hh
theorem opsIn_of_still {P : Program} {ops : Array Oper} {w : World} {n l0 : Nat} {i : Nat} {a : Act} (hnd : ∀ o : Oper, ops[i]? = some o → ∀ c : Call, o.op ≠ Op.defer c) {K : Act → Prop} {K' : Act → World → Prop} {Q' : Exit → Act → World → Prop} (h : ∀ a, K a → K' a w) (hh : stOp P ops w i K a) : wpOpIn (Fence.wide.inRound l0) n P ops Q' i K' a w := by
  unfold stOp at hh
  unfold wpOpIn
  split
  · rename_i ho; simp only [ho] at hh; exact h _ hh
  · rename_i o ho
    simp only [ho] at hh
    split
    · rename_i hw; simp only [hw, if_true] at hh; exact opIn_of_still (hnd o ho) h hh
    · rename_i hw; simp only [hw] at hh; exact ⟨fun f _ => trivial, h _ hh⟩
theorem anyIn_of_head {P : Program} {md : Region.Mode} {ops : Array Oper} {w : World} {m l0 : Nat} (hnd : ∀ (i : Nat) (o : Oper), ops[i]? = some o → ∀ c : Call, o.op ≠ Op.defer c) {n g : Nat} {L : Array Bool → Act → Prop} {Q' : Exit → Act → World → Prop} (hL : ∀ listed a, L listed a → wpAnyIn (Fence.wide.inRound l0) m P md ops Q' g listed a w) :
    ∀ (f : Nat) (listed : Array Bool) (a : Act), wpAnyL P md ops w n L f listed a → wpAnyIn (Fence.wide.inRound l0) m P md ops Q' (f + g) listed a w
  | 0, listed, a, h => by rw [Nat.zero_add]; exact hL _ _ h
  | f + 1, listed, a, h => by
    rw [show f + 1 + g = (f + g) + 1 by omega]
    exact ⟨fun h0 => absurd h0 h.1, fun i hi => opsIn_of_still (hnd i) (fun a' h' => anyIn_of_head hnd hL f _ a' h') (h.2 i hi).2⟩
theorem anyIn_of_seq {F : Fence} {m : Nat} {P : Program} {md : Region.Mode} {ops : Array Oper} {Q' : Exit → Act → World → Prop} : ∀ (l : List Oper) (k : Nat) (listed : Array Bool) (a : Act) (w : World), (∀ j, l[j]? = ops[k + j]?) →
    Region.seqB md ops l.length k listed = true → wpListIn F m P ops Q' l a w → wpAnyIn F m P md ops Q' l.length listed a w
  | [], _, _, _, _, _, hB, h => ⟨by simpa [Region.seqB] using hB, h⟩
  | o :: l, k, listed, a, w, hl, hB, h => by
    have h0 : ops[k]? = some o := by simpa using (hl 0).symm
    simp only [List.length_cons, Region.seqB, Bool.and_eq_true, decide_eq_true_eq] at hB
    refine ⟨fun h1 => (by rw [hB.1] at h1; cases h1), fun i hi => ?_⟩
    rw [hB.1] at hi
    have hik : i = k := by simpa using hi
    subst hik
    have hw : wpOpIn F m P ops Q' i (wpListIn F m P ops Q' l) a w := by unfold wpOpIn; simp only [h0]; exact h
    exact wpOpIn_mono (fun a' w' h' => anyIn_of_seq l (i + 1) _ a' w' (fun j => by have := hl (j + 1); simpa [Nat.add_assoc, Nat.add_comm 1 j] using this) hB.2 h') hw
theorem regionIn_still_tail {P : Program} {l0 m : Nat} {id : Nat} {Q : Exit → Act → World → Prop} {a : Act} {w : World} {l : List Oper} (n : Nat) (hm : P.follows .mixedOrders = true) (hB : Region.lexTailB .any l.toArray n = true) (hnd : noDefer l = true)
    (h : wpStill P l.toArray { w with drawn := w.drawn + 1 } (fun a' => wpListIn (Fence.wide.inRound l0) m P l.toArray Q (l.drop n) a' { w with drawn := w.drawn + 1 }) (l.take n) a) : (Code.region id l.toArray true).wpIn (Fence.wide.inRound l0) m P Q a w := by
  simp only [Region.lexTailB, Bool.and_eq_true, decide_eq_true_eq] at hB
  obtain ⟨⟨⟨⟨hsel, hn⟩, hs⟩, hc⟩, hlex⟩ := hB
  have hn' : n < l.length := by simpa using hn
  have htl : (l.take n).length = n := by simp; omega
  have hdl : (l.drop n).length = l.toArray.size - n := by simp
  have inv0 : HeadInv .any l.toArray n (Array.replicate l.toArray.size false) :=
    ⟨by simp, fun j oj _ hl => (by rw [getD_replicate_false] at hl; cases hl), fun t _ ht => getD_in (by simpa using ht) (getD_replicate_false _ _)⟩
  have H := wpAnyL_lex (md := .any) (g := l.toArray.size - n) hsel hs hc hn (l.take n) 0 _ a (fun j hj => by
    have hj' : j < n := by rw [htl] at hj; exact hj
    simp [hj']) (by simpa using htl) inv0 (by rw [htl]; exact hlex) h
  refine wpIn_region_any hm ?_
  have := anyIn_of_head (Q' := Q) (m := m) (l0 := l0) (g := l.toArray.size - n) (fun i o hi => noDefer_spec hnd (by simpa using hi)) (fun listed a' hL => by
    have := anyIn_of_seq (md := .any) (Q' := Q) (l.drop n) n listed a' { w with drawn := w.drawn + 1 } (fun j => by simp [List.getElem?_drop]) (by rw [hdl]; exact hL.1) hL.2
    rwa [hdl] at this) _ _ _ H
  rw [htl, show n + (l.toArray.size - n) = l.toArray.size by omega] at this
  exact this
end Go.Proofs.Ytdlekcdedahbhaa
namespace Go.Proofs.Ytdlekcdedahbhaa
open Go.RowKit Go.Shelf Go.Proofs.YtdlekcdedahbhaaW.PrintWords
set_option linter.unusedVariables false
set_option linter.unusedSimpArgs false
theorem ways1_gives (want : Acc) (hw : AccB 100000 want) : ∀ (blots : List Ent) (m : Int) (now : Acc) (A : Option Addr) (c b1 b2 b3 : Nat) (w : World), AccB m now → m + 200 * (blots.length : Int) ≤ 9000 → blots.length ≤ 50 →
    (∀ x ∈ blots, (0 ≤ x.f ∧ x.f ≤ 5) ∧ (0 ≤ x.t ∧ x.t ≤ 5)) → Bx w b1 #[.slice A blots.length c] 46 → Bx w b2 #[.int .i64 (now).a0, .int .i64 (now).a1, .int .i64 (now).a2, .int .i64 (now).a3, .int .i64 (now).a4, .int .i64 (now).a5] 135 → Bx w b3 #[.int .i64 (want).a0, .int .i64 (want).a1, .int .i64 (want).a2, .int .i64 (want).a3, .int .i64 (want).a4, .int .i64 (want).a5] 135 → Er w A blots → blots.length ≤ c →
    Gives Fence.wide 5 Try.prog 92 #[.pointer (some ⟨b1, 0, none⟩), .pointer (some ⟨b2, 0, none⟩), .pointer (some ⟨b3, 0, none⟩)] Rd fillLo wayOw (waysL want blots now) w
  | [], m, now, A, c, b1, b2, b3, w, hn, hm, hl, he, h1, h2, h3, hr, hc => ways_nil want now A c b1 b2 b3 w h1 h2 h3
  | x :: xs, m, now, A, c, b1, b2, b3, w, hn, hm, hl, he, h1, h2, h3, hr, hc => by
    simp only [List.length_cons] at hm hl hc h1
    have hx := he x (List.mem_cons_self ..)
    exact ways_cons want now x xs A c b1 b2 b3 m w hw hn (by omega) hx.1 hx.2 h1 h2 h3 hr hc (by omega) fun now' A' c' b1' b2' b3' w' g1 g2 g3 g4 g5 g6 =>
      (ways1_gives want hw xs (m + 200) now' A' c' b1' b2' b3' w' g1 (by omega) (by omega) (fun y hy => he y (List.mem_cons_of_mem _ hy)) g2 g3 g4 g5 g6).any 4
theorem range_gives_fr {α : Type} {F : Fence} {n : Nat} {P : Program} {g : Operand} {ps : Array Tmp} {assign body : Code} {Q : Exit → Act → World → Prop} {a : Act} {w : World}
    (hro : F.round = none) (h1 : 1 ≤ n) {gf : Nat} {lb : Array Value} (hg : a.eval g = .func (.func gf) #[] lb) (hFg : F.fn gf) (eg : ∀ args w, (callFunc gf args).run P w = .ok (.enter gf args) w)
    {G : World → Value → α → Prop} {lo ow : Nat → Prop} {L : List α} {w0 : World} (hseq : Gives F (n - 1) P gf lb G lo ow L w0) (hb0 : Up w0 w) (hps : ps.size = 1)
    (hG : ∀ (W : World) (l : Nat) (o o' : Obj) v x, W.heap[l]? = some o → o.isCells = false → G W v x → G (W.putObj l o') v x)
    (I : List α → World → Prop) (hI : Stays ow w.heap.size I) (h0 : I [] w) {fr : Value → Act}
    (hassign : ∀ (l : Nat) (v : Value) (W : World) (K : Act → World → Prop), K (fr v) W →
      assign.wpIn (F.inRound l) (n - 1 - 1) P (Exit.then K (fun _ _ _ => False)) { tmps := (ps.zip #[v]).foldl (fun t (p, v) => t.setIfInBounds p v) a.tmps, defers := [] } W)
    (hbody : ∀ (l : Nat) (pre : List α) (x : α) (post : List α) (v : Value) (W : World), w.heap.size ≤ l → (∃ r, W.heap[l]? = some (.loop r)) → pre ++ x :: post = L → I pre W → G W v x → body.wpIn (F.inRound l) (n - 1 - 1) P (givesPost lo I (pre ++ [x]) W) (fr v) W)
    (hdone : ∀ (D : Nat) (W : World), w.heap.size ≤ D → I L W → W.heap[D]? = some (.deferred (some [])) → Q .normal { a with defers := { target := .collected D, args := #[] } :: a.defers } W) :
    (Code.rangeFunc g ps assign body).wpIn F n P Q a w :=
  range_gives hro h1 hg hFg eg hseq hb0 hps hG I hI h0 (fun v a' => a' = fr v) (fun l v W K hK => hassign l v W K (hK _ rfl)) (fun l pre x post v a' W h1 h2 h3 h4 h5 h6 => by subst h6; exact hbody l pre x post v W h1 h2 h3 h4 h5) hdone
def blotsL (l : List Ent) : List Ent := l.filter fun x => x.a == -1
def readL (l : List Ent) : List Ent := l.filter fun x => !(x.a == -1)
def initAt (y : List Int) : Nat → List Sp
  | 0 => List.replicate y.length ⟨0, 0⟩
  | k + 1 => (initAt y k).set k ⟨rd y k, rd y k⟩
def joinAt (s : List Sp) (y : List Int) : Nat → List Sp
  | 0 => s
  | k + 1 => (joinAt s y k).set k ⟨min (rdS (joinAt s y k) k).lo (rd y k), max (rdS (joinAt s y k) k).hi (rd y k)⟩
def joinAll (s : List Sp) (y : List Int) : List Sp := joinAt s y y.length
def initAll (y : List Int) : List Sp := initAt y y.length
def fillTo : List (List Int) → List Sp
  | [] => []
  | y :: ys => ys.foldl joinAll (joinAll (initAll y) y)
theorem initAt_len (y : List Int) : ∀ k, (initAt y k).length = y.length
  | 0 => by simp [initAt]
  | k + 1 => by simp [initAt, initAt_len y k]
theorem joinAt_len (s : List Sp) (y : List Int) : ∀ k, (joinAt s y k).length = s.length
  | 0 => by simp [joinAt]
  | k + 1 => by simp [joinAt, joinAt_len s y k]
theorem fillTo_snoc (pre : List (List Int)) (y : List Int) : fillTo (pre ++ [y]) = joinAll (if pre = [] then initAll y else fillTo pre) y := by
  cases pre with
  | nil => simp [fillTo]
  | cons z zs => simp [fillTo]
theorem foldl_len (n : Nat) : ∀ (ys : List (List Int)) (s : List Sp), s.length = n → (ys.foldl joinAll s).length = n
  | [], s, h => h
  | y :: ys, s, h => by rw [List.foldl_cons]; exact foldl_len n ys _ (by rw [joinAll, joinAt_len, h])
theorem fillTo_len (n : Nat) (pre : List (List Int)) (h : ∀ y ∈ pre, y.length = n) (h0 : pre ≠ []) : (fillTo pre).length = n := by
  cases pre with
  | nil => exact absurd rfl h0
  | cons y ys => exact foldl_len n ys _ (by rw [joinAll, joinAt_len, initAll, initAt_len]; exact h y (List.mem_cons_self ..))
def fillW (l : List Ent) (b : List Int) : List (List Int) := waysL (balA b) (blotsL l) (allA (readL l))
def fillE (l : List Ent) (b : List Int) : Int := if chkE l = 0 then (if (blotsL l).length > 3 then 8 else if balB b then (if fillW l b = [] then 9 else 0) else 4) else chkE l
def fillS (l : List Ent) (b : List Int) : List Sp := if fillE l b = 0 then fillTo (fillW l b) else []
def encEnt (x : Ent) : List Value := [.int .i64 x.f, .int .i64 x.t, .int .i64 x.a]
theorem info_ent : (Try.prog.info? 101).map (fun i => (i.zero, i.size, i.bytes)) = some (some (.agg #[.int .i64 0, .int .i64 0, .int .i64 0]), 3, 24) := by kernel_rfl
theorem blotsL_take (l : List Ent) (k : Nat) (h : k < l.length) : blotsL (l.take (k + 1)) = if (rdEnt l k).a = -1 then blotsL (l.take k) ++ [rdEnt l k] else blotsL (l.take k) := by
  have e : l[k] = rdEnt l k := by simp [rdEnt, h]
  rw [List.take_succ_eq_append_getElem h, blotsL, List.filter_append, e]
  by_cases h1 : (rdEnt l k).a = -1
  · simp [h1, blotsL]
  · have h2 : ((rdEnt l k).a == -1) = false := by simpa using h1
    simp [h1, h2, blotsL]
theorem readL_take (l : List Ent) (k : Nat) (h : k < l.length) : readL (l.take (k + 1)) = if (rdEnt l k).a = -1 then readL (l.take k) else readL (l.take k) ++ [rdEnt l k] := by
  have e : l[k] = rdEnt l k := by simp [rdEnt, h]
  rw [List.take_succ_eq_append_getElem h, readL, List.filter_append, e]
  by_cases h1 : (rdEnt l k).a = -1
  · simp [h1, readL]
  · have h2 : ((rdEnt l k).a == -1) = false := by simpa using h1
    simp [h1, h2, readL]
theorem allA_snoc (l : List Ent) (x : Ent) : allA (l ++ [x]) = afterA (allA l) x := by simp [allA]
theorem readL_bd (l : List Ent) (hl : l.all entB = true) (hn : l.length ≤ 12) (k : Nat) : AccB 2400 (allA (readL (l.take k))) := by
  have h1 : (readL (l.take k)).length ≤ 12 := by
    have h2 := List.length_filter_le (fun x : Ent => !(x.a == -1)) (l.take k)
    rw [List.length_take] at h2
    simp only [readL]; omega
  have h3 : (readL (l.take k)).all entB = true := List.all_eq_true.2 fun x hx => List.all_eq_true.1 hl x (List.mem_of_mem_take (List.mem_filter.1 hx).1)
  have h4 := allA_bd _ h3 _ (Nat.le_refl _)
  rw [List.take_length] at h4
  exact h4.mono (by omega)
theorem Er.ofOwn {w : World} {base : Nat} {v : Value} {l : List Ent} (h : w.ownsRow base 101 3 v l.length (l.flatMap encEnt)) : ∃ A c, v = .slice A l.length c ∧ l.length ≤ c ∧ Er w A l := by
  rcases h.2 with ⟨rfl, h0⟩ | ⟨g, cap, cur, rfl, hb, hg, hcap, _, hsz, htk⟩
  · exact ⟨none, 0, by rw [h0], by omega, fun hl => by omega⟩
  · refine ⟨some ⟨g, 0, none⟩, cap, rfl, hcap, fun hl => ⟨g, 0, cur, rfl, hg, fun j hj => ?_⟩⟩
    have hget : ∀ k, k < l.length * 3 → cur[k]? = (l.flatMap encEnt)[k]? := by
      intro k hk
      rw [← htk, List.getElem?_take, if_pos hk, Array.getElem?_toList]
    have hx : l[j]? = some (rdEnt l j) := by simp [rdEnt, hj]
    have e0 := flat_get encEnt 3 (fun _ => rfl) l j _ 0 hx (by omega)
    have e1 := flat_get encEnt 3 (fun _ => rfl) l j _ 1 hx (by omega)
    have e2 := flat_get encEnt 3 (fun _ => rfl) l j _ 2 hx (by omega)
    refine ⟨?_, ?_, ?_⟩
    · rw [hget _ (by omega), show 0 + 3 * j = j * 3 + 0 by omega, e0]; rfl
    · rw [hget _ (by omega), show 0 + 3 * j + 1 = j * 3 + 1 by omega, e1]; rfl
    · rw [hget _ (by omega), show 0 + 3 * j + 2 = j * 3 + 2 by omega, e2]; rfl
theorem Kt.set {lo : Nat → Prop} {A : World} {b : Nat} {C : Array Value} {T : TypeId} (hb : Bx A b C T) (hT : lo T) (o : Nat) (v : Value) : Kt lo A (A.setCell ⟨b, o, none⟩ v) := by
  have hb0 := Below.setCell (B := 0) (Below.refl 0 A) (p := ⟨b, o, none⟩) (Nat.zero_le _) v
  refine ⟨hb0.os, hb0.tape, hb0.output, hb0.size, fun k o' hk hl => ?_⟩
  by_cases e : k = b
  · subst e
    rw [show A.heap[k]? = _ from hb] at hk
    cases hk
    exact absurd hT (hl _ _ _ rfl)
  · exact (Below.heap_setCell A ⟨b, o, none⟩ v k e).trans hk
theorem grown_bx {A A' : World} {row : Option Nat} {B b : Nat} {C : Array Value} {T : TypeId} (hb : Bx A b C T) (hg : A.grownBy A' row) (hr : ∀ r, row = some r → B ≤ r ∧ ∃ o : Obj, A.heap[r]? = some o ∧ (o.isCells = false ∨ ∃ C T z, o = Obj.cells C T z ∧ wayOw T)) (hT : ¬ wayOw T) : Bx A' b C T := by
  refine (hg.block b hb.lt (fun e => ?_)).trans hb
  obtain ⟨_, o, h1, h2⟩ := hr b e.symm
  rw [show A.heap[b]? = _ from hb] at h1
  cases h1
  rcases h2 with h2 | ⟨C', T', z, h3, h4⟩
  · cases h2
  · cases h3
    exact hT h4
structure FillI (w : World) (B4 B13 n : Nat) (pre : List (List Int)) (Wd : World) : Prop where
  up : Up w Wd
  sp : ∃ v, Bx Wd B4 #[v] 36 ∧ ((pre = [] ∧ v = .slice none 0 0) ∨ (pre ≠ [] ∧ ∃ g, v = .slice (some ⟨g, 0, none⟩) n n ∧ w.heap.size ≤ g ∧ Spc Wd g 44 n (fillTo pre)))
  dn : Bx Wd B13 #[.bool (decide (pre ≠ []))] 4
theorem FillI.stays {w : World} {B4 B13 n B : Nat} (hB : w.heap.size ≤ B) : Stays wayOw B (FillI w B4 B13 n) := by
  rintro pre A A' row ⟨hu, ⟨v, hb4, hs⟩, hd⟩ hg hr
  refine ⟨?_, ⟨v, grown_bx hb4 hg hr (by simp [wayOw]), ?_⟩, grown_bx hd hg hr (by simp [wayOw])⟩
  · refine ⟨hg.os.trans hu.os, hg.tape.trans hu.tape, hg.output.trans hu.output, Nat.le_trans hu.size hg.size, fun k hk => ?_⟩
    exact (hg.block k (Nat.lt_of_lt_of_le hk hu.size) (fun e => by have := (hr k e.symm).1; omega)).trans (hu.block k hk)
  · rcases hs with h | ⟨h1, g, h2, h3, h4, cur, h5, h6⟩
    · exact .inl h
    · exact .inr ⟨h1, g, h2, h3, h4, cur, grown_bx h5 hg hr (by simp [wayOw]), h6⟩
theorem Bx.ne {w : World} {a b : Nat} {C D : Array Value} {T S : TypeId} (h : Bx w a C T) (k : Bx w b D S) (hTS : T ≠ S) : a ≠ b := by
  rintro rfl
  unfold Bx at h k
  rw [h] at k
  injection k with k
  injection k with _ h2
  exact hTS h2
theorem Spc.bx {w g T cap xs} (h : Spc w g T cap xs) : ∃ cur, Bx w g cur T := ⟨h.2.choose, h.2.choose_spec.1⟩
theorem own_putObj {W : World} {base e s n : Nat} {v : Value} {xs : List Value} (h : W.ownsRow base e s v n xs) {D : Nat} {o : Obj} (o' : Obj) (hl : W.heap[D]? = some o) (ho : o.isCells = false) : (W.putObj D o').ownsRow base e s v n xs := by
  rcases h.2 with h0 | ⟨g, cap, cur, hv, hb, hg, h1, h2, h3, h4⟩
  · exact ⟨h.1, .inl h0⟩
  · exact ⟨h.1, .inr ⟨g, cap, cur, hv, hb, Bx.own (show Bx W g cur e from hg) (grownBy_putObj' W D o') (fun r e => by cases e; exact ⟨o, hl, ho⟩), h1, h2, h3, h4⟩⟩
theorem up_putObj {w W : World} (h : Up w W) {D : Nat} (o' : Obj) (hD : w.heap.size ≤ D) : Up w (W.putObj D o') :=
  ⟨h.os, h.tape, h.output, by simpa using h.size, fun k hk => (World.putObj_heap_other (by omega)).trans (h.block k hk)⟩
theorem fill_fin {w W : World} {D n m : Nat} {v : Value} {cs : List Value} {fn : Func} {tmps : Array Value} {R : Ending → World → Prop} (hD : w.heap.size ≤ D) (hDd : W.heap[D]? = some (.deferred (some []))) (hB4 : Bx W w.heap.size #[v] 36)
    (hO : W.ownsRow w.heap.size 44 2 v m cs) (hU : Up w W)
    (hres : ∀ W' : World, W'.cell? ⟨w.heap.size, 0, none⟩ = some v → W'.ownsRow w.heap.size 44 2 v m cs → Up w W' → ∃ r, (results fn tmps).run Try.prog W' = .ok r W' ∧ R (.returned r) W') :
    LeavesInM Fence.wide n Try.prog fn tmps R [{ target := .collected D, args := #[] }] .returning W :=
  leaves_coll (B := w.heap.size) (fun W' => Bx W' w.heap.size #[v] 36 ∧ W'.ownsRow w.heap.size 44 2 v m cs ∧ Up w W')
    (fun W' D' hB h hd => ⟨h.1.own (grownBy_putObj' W' D' _) (fun r e => by cases e; exact ⟨_, hd, rfl⟩), own_putObj h.2.1 _ hd rfl, up_putObj h.2.2 _ hB⟩)
    (fun W' h => by
      obtain ⟨r, h1, h2⟩ := hres W' (h.1.cell 0) h.2.1 h.2.2
      exact ⟨r, h1, h2⟩) [D] W (fun D' h => by simp at h; subst h; exact ⟨hD, hDd⟩) (by simp) ⟨hB4, hO, hU⟩
theorem made_spc (W : World) (y : List Int) (hn : y.length ≤ 1000) : Spc (W.alloc (.cells (madeCells #[.int .i64 0, .int .i64 0] (y.length * 2)) 44)) W.heap.size 44 y.length (initAt y 0) := by
  refine ⟨⟨by simp [initAt], by unfold maxLen; omega⟩, _, Bx.new W _ _, by simp [madeCells], fun i hi => ?_⟩
  have hi2 : i < y.length := by simpa [initAt] using hi
  have hr : rdS (initAt y 0) (i : Int) = ⟨0, 0⟩ := by simp [rdS, initAt, hi2]
  rw [hr]
  have e0 : (2 * i) % 2 = 0 := by omega
  have e1 : (2 * i + 1) % 2 = 1 := by omega
  have g0 : 2 * i < y.length * 2 := by omega
  have g1 : 2 * i + 1 < y.length * 2 := by omega
  constructor
  · simp [madeCells, g0]
  · simp [madeCells, g1, e1]
theorem make_spans (n : Nat) (hn : n ≤ 1000) (W : World) : (Instr.makeSlice 36 (.int .i64 (n : Int)) (.int .i64 (n : Int))).run Try.prog W = .ok (.slice (some ⟨W.heap.size, 0, none⟩) n n) (W.alloc (.cells (madeCells #[.int .i64 0, .int .i64 0] (n * 2)) 44)) := by
  obtain ⟨i0, hi0, hk0, hk1, hk2⟩ := info_parts info_span
  have h := run_make (P := Try.prog) W 36 44 i0 _ Try.underlying36 hi0 hk0 .i64 .i64 (n : Int) (n : Int) (by omega) (by omega) (by rw [hk2]; omega) (by omega)
  simpa [hk1, Value.cells] using h
theorem Ri.set {W : World} {A : Option Addr} {l : List Int} (h : Ri W A l) {b : Nat} {C : Array Value} {T : TypeId} (hb : Bx W b C T) (hT : 3 ≠ T) (o : Nat) (v : Value) : Ri (W.setCell ⟨b, o, none⟩ v) A l := fun h0 => by
  obtain ⟨g, C, rfl, hg, hc⟩ := h h0
  exact ⟨g, C, rfl, hg.far (hg.ne hb hT) o v, hc⟩
structure FB (w Wd : World) (B13 G : Nat) (A9 : Option Addr) (y : List Int) (s : List Sp) (Wr : World) : Prop where
  b4 : Bx Wr w.heap.size #[.slice (some ⟨G, 0, none⟩) y.length y.length] 36
  b13 : Bx Wr B13 #[.bool true] 4
  sp : Spc Wr G 44 y.length s
  ri : Ri Wr A9 y
  up : Up w Wr
  kt : Kt fillLo Wd Wr
  hg : w.heap.size ≤ G
  len : s.length = y.length
theorem FB.ups {w Wd : World} {B13 G : Nat} {A9 : Option Addr} {y : List Int} {s : List Sp} {Wr W' : World} (h : FB w Wd B13 G A9 y s Wr) (hu : Up Wr W') : FB w Wd B13 G A9 y s W' :=
  ⟨h.b4.up hu, h.b13.up hu, h.sp.up hu, h.ri.up hu, h.up.then hu, h.kt.trans (Kt.up hu), h.hg, h.len⟩
theorem FB.put {w Wd : World} {B13 G : Nat} {A9 : Option Addr} {y : List Int} {s : List Sp} {Wr : World} (h : FB w Wd B13 G A9 y s Wr) (k : Nat) (hk : k < y.length) (a b : Int) :
    FB w Wd B13 G A9 y (s.set k ⟨a, b⟩) ((Wr.setCell ⟨G, k * 2, none⟩ (.int .i64 a)).setCell ⟨G, k * 2 + 1, none⟩ (.int .i64 b)) := by
  obtain ⟨cur, hc⟩ := h.sp.bx
  have h4 := (hc.ne h.b4 (by decide)).symm
  have h13 := (hc.ne h.b13 (by decide)).symm
  have hs := h.sp.set k (by rw [h.len]; exact hk) a b
  rw [Nat.mul_comm] at hs
  exact ⟨(h.b4.far h4 _ _).far h4 _ _, (h.b13.far h13 _ _).far h13 _ _, hs, (h.ri.set hc (by decide) _ _).set (hc.set _ _) (by decide) _ _, (h.up.set _ _ h.hg).set _ _ h.hg,
    (h.kt.trans (Kt.set hc (by simp [fillLo]) _ _)).trans (Kt.set (hc.set _ _) (by simp [fillLo]) _ _), h.hg, by rw [List.length_set]; exact h.len⟩
theorem FB.cells {w Wd : World} {B13 G : Nat} {A9 : Option Addr} {y : List Int} {s : List Sp} {Wr : World} (h : FB w Wd B13 G A9 y s Wr) (k : Nat) (hk : k < y.length) :
    Wr.cell? ⟨G, k * 2, none⟩ = some (.int .i64 (rdS s k).lo) ∧ Wr.cell? ⟨G, k * 2 + 1, none⟩ = some (.int .i64 (rdS s k).hi) := by
  have h9 := h.sp.sps.cell k (by rw [h.len]; exact hk)
  rw [Nat.mul_comm] at h9
  exact h9
theorem FB.start {w Wd : World} {B13 : Nat} {A9 : Option Addr} {y : List Int} {v4 v13 : Value} (hy : y.length ≤ 1000) (hb4 : Bx Wd w.heap.size #[v4] 36) (hb13 : Bx Wd B13 #[v13] 4) (hr : Ri Wd A9 y) (hu : Up w Wd) (h13 : w.heap.size ≤ B13) :
    FB w Wd B13 Wd.heap.size A9 y (initAt y 0) (((Wd.setCell ⟨w.heap.size, 0, none⟩ (.slice (some ⟨Wd.heap.size, 0, none⟩) y.length y.length)).setCell ⟨B13, 0, none⟩ (.bool true)).alloc (.cells (madeCells #[.int .i64 0, .int .i64 0] (y.length * 2)) 44)) := by
  have hne : w.heap.size ≠ B13 := hb4.ne hb13 (by decide)
  have hs := made_spc ((Wd.setCell ⟨w.heap.size, 0, none⟩ (.slice (some ⟨Wd.heap.size, 0, none⟩) y.length y.length)).setCell ⟨B13, 0, none⟩ (.bool true)) y hy
  simp only [World.size_setCell] at hs
  have hua : Up ((Wd.setCell ⟨w.heap.size, 0, none⟩ (.slice (some ⟨Wd.heap.size, 0, none⟩) y.length y.length)).setCell ⟨B13, 0, none⟩ (.bool true)) (((Wd.setCell ⟨w.heap.size, 0, none⟩ (.slice (some ⟨Wd.heap.size, 0, none⟩) y.length y.length)).setCell ⟨B13, 0, none⟩ (.bool true)).alloc (.cells (madeCells #[.int .i64 0, .int .i64 0] (y.length * 2)) 44)) := (Up.refl _).alloc _
  exact ⟨((hb4.set 0 _).far hne _ _).up hua, ((hb13.far hne.symm _ _).set 0 _).up hua, hs, ((hr.set hb4 (by decide) _ _).set (hb13.far hne.symm _ _) (by decide) _ _).up hua, ((hu.set _ _ (Nat.le_refl _)).set _ _ h13).then hua,
    ((Kt.set hb4 (by simp [fillLo]) _ _).trans (Kt.set (hb13.far hne.symm _ _) (by simp [fillLo]) _ _)).trans (Kt.up hua), hu.le, by simp [initAt]⟩
theorem Ri.cell {W : World} {A : Option Addr} {y : List Int} (h : Ri W A y) (k : Nat) (hk : k < y.length) : ∃ g, A = some ⟨g, 0, none⟩ ∧ W.cell? ⟨g, k, none⟩ = some (.int .i64 (rd y k)) := by
  obtain ⟨g, C, rfl, hb, hc⟩ := h (by omega)
  exact ⟨g, rfl, by rw [hb.cell]; apply hc; simp [nums, hk, rd]⟩
end Go.Proofs.Ytdlekcdedahbhaa
namespace Go.Proofs.Ytdlekcdedahbhaa
open Go.RowKit Go.Shelf Go.Proofs.YtdlekcdedahbhaaW.PrintWords
set_option linter.unusedVariables false
set_option linter.unusedSimpArgs false
attribute [local go_sem] Oper.semAt_some bi_max2 bi_min2 bi_max_two bi_min_two
set_option maxRecDepth 100000 in
set_option maxHeartbeats 40000000 in
theorem fill_ok (A : Option Addr) (c : Nat) (l : List Ent) (A2 : Option Addr) (c2 : Nat) (b : List Int) (w : World) (hr : Kd.C kEnt w A l.length l) (hc : l.length ≤ c) (hr2 : Kd.C (Kd.int .i64) w A2 b.length b) (hc2 : b.length ≤ c2) (h1 : chkE l = 0) :
    Calls Try.prog 39 #[.slice A l.length c, .slice A2 b.length c2] w fun e w' => ∃ v, e = .returned (.tuple #[v, .int .i64 (fillE l b)]) ∧ w'.ownsRow w.heap.size 44 2 v (fillS l b).length (cellsS (fillS l b)) ∧ Up w w' := by
  refine (callsIn_wide (n := 7)).1 ?_
  refine callsIn_of_wp_marks Try.func39 rfl trivial ?_ rfl
  simp only [Try.ntmps39, List.size_toArray, List.length_cons, List.length_nil, Nat.reduceAdd, Nat.reduceSub, Array.replicate_succ, Array.replicate_zero, List.push_toArray, List.append_toArray, List.nil_append, List.cons_append]
  have hm := CF_len hr
  have HR := Aside0.mk hr
  have HR2 := Aside0.mk hr2
  have hb1 : (chkE l != 0) = false := by simp [h1]
  have HL := Aside0.mk (chk_of l h1).2
  have hn := (chk_of l h1).1
  have H1 := Aside0.mk h1
  obtain ⟨i0, hi0, hk0, hk1, hk2⟩ := info_parts info_ent
  clear hr hr2 h1
  gi_wp2_with fail
  refine ⟨trivial, (callsIn_wide.2 (chk_ A c l _ (C_up HR.out upA) hc)).mono ?_⟩
  rintro e w1 ⟨rfl, hu1⟩
  have HU1 : Aside0 (Up w w1) := ⟨((Up.refl w).alloc _).then hu1⟩
  have HB4 : Aside0 (Bx w1 w.heap.size #[.slice none 0 0] 36) := ⟨(Bx.new w _ _).up hu1⟩
  clear hu1
  have hwlt := HB4.out.lt
  obtain ⟨B7, hB7⟩ : ∃ B, w1.heap.size = B := ⟨_, rfl⟩
  gi_wp2_with fail
  gi_loopw [8, 26] (fun v8 i wr => ∃ (k : Nat) (v : Value), k ≤ l.length ∧ v8 = v ∧ i = .int .i64 k ∧ Aside0 (Bx wr B7 #[.int .i64 (allA (readL (l.take k))).a0, .int .i64 (allA (readL (l.take k))).a1, .int .i64 (allA (readL (l.take k))).a2, .int .i64 (allA (readL (l.take k))).a3, .int .i64 (allA (readL (l.take k))).a4, .int .i64 (allA (readL (l.take k))).a5] 135) ∧ Aside0 (wr.ownsRow w.heap.size 101 3 v (blotsL (l.take k)).length ((blotsL (l.take k)).flatMap encEnt)) ∧ Aside0 (Bx wr w.heap.size #[.slice none 0 0] 36) ∧ Aside0 (Up w wr)) (fun _ i _ => l.length - (intOf i).toNat)
  case atStart =>
    refine ⟨0, _, Nat.zero_le _, rfl, rfl, ⟨?_⟩, ⟨⟨by simp [blotsL], .inl ⟨rfl, rfl⟩⟩⟩, ⟨HB4.out.up ((Up.refl _).alloc _)⟩, ⟨HU1.out.alloc _⟩⟩
    rw [← hB7]
    exact Bx.new w1 _ _
  case round =>
    obtain ⟨k, v, hk, rfl, rfl, hB, hO, hBs, hU⟩ := hrel
    have hwB : w.heap.size < B7 := by omega
    clear HB4 HU1 hB7
    by_cases hlt : k < l.length
    · obtain ⟨ad, e, hx0, hx1, hx2⟩ := at_Ent (C_up HR.out hU.out) k (by omega) (by omega)
      cases e
      simp only [Int.toNat_natCast] at hx0 hx1 hx2
      have hi0' : (0 : Int) ≤ (k : Int) := by omega
      have hi1 : (k : Int) < (l.length : Int) := by omega
      have hdl : decide ((k : Int) < (l.length : Int)) = true := by simp; omega
      have hBT := Aside0.mk (blotsL_take l k hlt)
      have hRT := Aside0.mk (readL_take l k hlt)
      have hbd := readL_bd l HL.out hn k
      have hbl : (blotsL (l.take k)).length ≤ 12 := by
        have h2 := List.length_filter_le (fun x : Ent => x.a == -1) (l.take k)
        rw [List.length_take] at h2
        simp only [blotsL]; omega
      have hen := (entB_iff _).1 (List.all_eq_true.1 HL.out _ (rdEnt_mem l k (by omega) (by omega)))
      have hz := hB.out.lt
      have hzs := hBs.out.lt
      have hwle := hU.out.le
      generalize hRL : readL (l.take k) = rl at *
      generalize hBL : blotsL (l.take k) = bl at *
      clear hRL hBL
      have hAS := Aside0.mk (allA_snoc rl (rdEnt l k))
      generalize hAA : allA rl = a at *
      have hu := Try.underlying101
      have hu44 : wr.heap.size < wr.heap.size + 1 := by omega
      generalize rdEnt l k = x at *
      have hcall := after_ a x
      by_cases hx : x.a = -1
      · have hxb : (x.a == -1) = true := by simp [hx]
        rw [if_pos hx] at hBT hRT
        clear hx
        gi_wp2_with fail
        refine ⟨trivial, (callsIn_wide.2 (isBlot x _)).mono ?_⟩
        rintro e w2 ⟨rfl, hu2⟩
        have hq10 := ((Bx.new wr #[.int .i64 (x).f, .int .i64 (x).t, .int .i64 (x).a] 101).up hu2).cell
        have HU2 : Aside0 (Up wr w2) := ⟨((Up.refl wr).alloc _).then hu2⟩
        have HO2 := Aside0.mk (own_up hO.out HU2.out)
        have hle2 := HU2.out.le
        clear hu2 hcall
        gi_wp2_with (gi_at_builtin; go_loud (refine wpListIn_append_own _ rfl _ _ 46 rfl w.heap.size 101 i0 _ 3 24 Try.underlying46 hi0 hk0 hk1 hk2 rfl (by decide) u8 bl.length (bl.flatMap encEnt) rfl (own_up HO2.out ((Up.refl _).alloc _)) ⟨w2.heap.size, 0, none⟩ 1 1 [.int .i64 x.f, .int .i64 x.t, .int .i64 x.a] (by first | rfl | go_simp) rfl ?qc2 ?qc3 ?qc4 ?qc5 ?qc6 ?_))
        case qc2 =>
          intro j u hu
          match j, hu with
          | 0, hu => simp at hu; subst hu; simp [go_sem]
          | 1, hu => simp at hu; subst hu; simp [go_sem]
          | 2, hu => simp at hu; subst hu; simp [go_sem]
        case qc3 => intro u hu; simp at hu; rcases hu with rfl | rfl | rfl <;> rfl
        case qc4 => unfold maxLen; omega
        case qc5 => omega
        case qc6 => simp; omega
        intro v' w3 hown hgrow _
        have HO3 : Aside0 (w3.ownsRow w.heap.size 101 3 v' (bl ++ [x]).length ((bl ++ [x]).flatMap encEnt)) := ⟨by simpa [encEnt] using hown⟩
        have HB3 := Aside0.mk (((hB.out.up HU2.out).up ((Up.refl _).alloc _)).grown (own_up HO2.out ((Up.refl _).alloc _)) (by decide) hgrow)
        have HBs3 := Aside0.mk (((hBs.out.up HU2.out).up ((Up.refl _).alloc _)).grown (own_up HO2.out ((Up.refl _).alloc _)) (by decide) hgrow)
        have HU3 := Aside0.mk (((hU.out.then HU2.out).alloc _).grown (own_up HO2.out ((Up.refl _).alloc _)) (Nat.le_refl _) hgrow)
        clear hown hgrow
        gi_wp2_with fail
        go_roundw
        case rel => exact ⟨k + 1, _, by omega, rfl, by go_num, ⟨by rw [hRT.out, hAA]; exact HB3.out⟩, ⟨by rw [hBT.out]; exact HO3.out⟩, HBs3, HU3⟩
        case measure => simp [intOf]; omega
      · have hxb : (x.a == -1) = false := by simp [hx]
        rw [if_neg hx] at hBT hRT
        clear hx
        gi_wp2_with fail
        refine ⟨trivial, (callsIn_wide.2 (isBlot x _)).mono ?_⟩
        rintro e w2 ⟨rfl, hu2⟩
        have hq10 := ((Bx.new wr #[.int .i64 (x).f, .int .i64 (x).t, .int .i64 (x).a] 101).up hu2).cell
        have HU2 : Aside0 (Up wr w2) := ⟨((Up.refl wr).alloc _).then hu2⟩
        have hq7 := (hB.out.up HU2.out).cell
        have hle2 := HU2.out.le
        have hcall2 := after_ a x w2 (hbd.mono (by omega)) hen.1 hen.2.1 (by omega)
        clear hu2 hcall
        gi_wp2_with fail
        refine ⟨trivial, (callsIn_wide.2 hcall2).mono ?_⟩
        clear hcall2
        rintro e w3 ⟨rfl, hu3⟩
        have HU3 : Aside0 (Up wr w3) := ⟨HU2.out.then hu3⟩
        have HB3 := Aside0.mk (hB.out.up HU3.out)
        have HO3 := Aside0.mk (own_up hO.out HU3.out)
        have HBs3 := Aside0.mk (hBs.out.up HU3.out)
        have hf7 := HB3.out.frozen
        have hq7b := HB3.out.cell
        have hne7 : w.heap.size ≠ B7 := by omega
        clear hu3 hq7 hq10
        gi_wp2_with fail
        go_roundw
        case rel =>
          refine ⟨k + 1, u8, by omega, rfl, by go_num, ⟨?_⟩, ⟨?_⟩, ⟨?_⟩, ⟨?_⟩⟩
          · rw [hRT.out, hAS.out]
            exact ((((((HB3.out.set 0 (.int .i64 (afterA a x).a0)).set 1 (.int .i64 (afterA a x).a1)).set 2 (.int .i64 (afterA a x).a2)).set 3 (.int .i64 (afterA a x).a3)).set 4 (.int .i64 (afterA a x).a4)).set 5 (.int .i64 (afterA a x).a5))
          · rw [hBT.out]
            have s0 := own_far HO3.out HB3.out (by decide) 0 (.int .i64 (afterA a x).a0)
            have s1 := own_far s0 (HB3.out.set 0 _) (by decide) 1 (.int .i64 (afterA a x).a1)
            have s2 := own_far s1 ((HB3.out.set 0 _).set 1 _) (by decide) 2 (.int .i64 (afterA a x).a2)
            have s3 := own_far s2 (((HB3.out.set 0 _).set 1 _).set 2 _) (by decide) 3 (.int .i64 (afterA a x).a3)
            have s4 := own_far s3 ((((HB3.out.set 0 _).set 1 _).set 2 _).set 3 _) (by decide) 4 (.int .i64 (afterA a x).a4)
            exact own_far s4 (((((HB3.out.set 0 _).set 1 _).set 2 _).set 3 _).set 4 _) (by decide) 5 (.int .i64 (afterA a x).a5)
          · exact (((((HBs3.out.far hne7 _ _).far hne7 _ _).far hne7 _ _).far hne7 _ _).far hne7 _ _).far hne7 _ _
          · exact ((((((hU.out.then HU3.out).set _ _ (by simp; omega)).set _ _ (by simp; omega)).set _ _ (by simp; omega)).set _ _ (by simp; omega)).set _ _ (by simp; omega)).set _ _ (by simp; omega)
        case measure => simp [intOf]; omega
    · obtain rfl : k = l.length := by omega
      have hdl : decide (((l.length : Nat) : Int) < (l.length : Int)) = false := by simp
      rw [List.take_length] at hB hO
      have hbd := readL_bd l HL.out hn l.length
      rw [List.take_length] at hbd
      have hbl : (blotsL l).length ≤ 12 := by
        have h2 := List.length_filter_le (fun x : Ent => x.a == -1) l
        simp only [blotsL]; omega
      have HBE : Aside0 (∀ x ∈ blotsL l, entB x = true) := ⟨fun x hx => List.all_eq_true.1 HL.out x (List.mem_filter.1 hx).1⟩
      have HFW : Aside0 (fillW l b = waysL (balA b) (blotsL l) (allA (readL l))) := ⟨rfl⟩
      have HFE : Aside0 (fillE l b = (if (blotsL l).length > 3 then 8 else if balB b then (if fillW l b = [] then 9 else 0) else 4)) := ⟨by unfold fillE; rw [if_pos H1.out]⟩
      have HFS : Aside0 (fillS l b = if fillE l b = 0 then fillTo (fillW l b) else []) := ⟨rfl⟩
      generalize hBL : blotsL l = bl at *
      generalize hAA : allA (readL l) = a at *
      clear hBL hAA
      have hq7 := hB.out.cell
      have hwB7 := hB.out.lt
      gi_wp2_with fail
      refine ⟨trivial, (callsIn_wide.2 (bal_ A2 c2 b _ (C_up HR2.out hU.out) hc2)).mono ?_⟩
      rintro e w2 ⟨rfl, hu2⟩
      have HU2 := Aside0.mk hu2
      have HB2 := Aside0.mk (hB.out.up hu2)
      have HS2 := Aside0.mk (hBs.out.up hu2)
      have HO2 := Aside0.mk (own_up hO.out hu2)
      have HUW := Aside0.mk (hU.out.then hu2)
      have hsz := hu2.le
      clear hu2 hq7 hB hBs hO hU HR HR2
      obtain ⟨want, hw⟩ : ∃ q, q = balA b := ⟨_, rfl⟩
      rw [← hw] at HFW
      rw [← hw]
      have HWE := Aside0.mk hw
      clear hw
      obtain ⟨A8, c8, rfl, hc8, her⟩ := Er.ofOwn HO2.out
      have HER := Aside0.mk her
      clear her
      by_cases h3 : bl.length > 3
      · have HE : Aside0 (fillE l b = 8) := ⟨by rw [HFE.out, if_pos h3]⟩
        have HS : Aside0 (fillS l b = []) := ⟨by rw [HFS.out, HE.out]; rfl⟩
        have hd3 : decide ((bl.length : Int) > 3) = true := by simp; omega
        have hq4 : ∀ (C : Obj) o, (w2.alloc C).cell? ⟨w.heap.size, o, none⟩ = (#[.slice none 0 0] : Array Value)[o]? := fun C o => (HS2.out.up ((Up.refl _).alloc C)).cell o
        have hf4 : ∀ (C : Obj) o, (w2.alloc C).frozen? ⟨w.heap.size, o, none⟩ = false := fun C o => (HS2.out.up ((Up.refl _).alloc C)).frozen o
        gi_wp2_with fail
        have hb4 := (Bx.set (HS2.out.up ((Up.refl _).alloc (.cells #[.int .i64 (want).a0, .int .i64 (want).a1, .int .i64 (want).a2, .int .i64 (want).a3, .int .i64 (want).a4, .int .i64 (want).a5] 135))) 0 (.slice none 0 0)).cell
        have hup4 := ((HUW.out.alloc (.cells #[.int .i64 (want).a0, .int .i64 (want).a1, .int .i64 (want).a2, .int .i64 (want).a3, .int .i64 (want).a4, .int .i64 (want).a5] 135)).set ⟨w.heap.size, 0, none⟩ (.slice none 0 0) (Nat.le_refl _))
        refine ⟨.tuple #[.slice none 0 0, .int .i64 (fillE l b)], ?_, .slice none 0 0, rfl, by rw [HS.out]; exact ⟨rfl, .inl ⟨rfl, rfl⟩⟩, hup4⟩
        rw [HE.out]
        have h0 := hb4 0
        simp [results, Try.results39, go_sem, h0]
      · have hd3 : decide ((bl.length : Int) > 3) = false := by simp; omega
        cases hbb : balB b
        · have HE : Aside0 (fillE l b = 4) := ⟨by rw [HFE.out, if_neg h3, hbb]; rfl⟩
          have HS : Aside0 (fillS l b = []) := ⟨by rw [HFS.out, HE.out]; rfl⟩
          have hq4 : ∀ (C : Obj) o, (w2.alloc C).cell? ⟨w.heap.size, o, none⟩ = (#[.slice none 0 0] : Array Value)[o]? := fun C o => (HS2.out.up ((Up.refl _).alloc C)).cell o
          have hf4 : ∀ (C : Obj) o, (w2.alloc C).frozen? ⟨w.heap.size, o, none⟩ = false := fun C o => (HS2.out.up ((Up.refl _).alloc C)).frozen o
          gi_wp2_with fail
          have hb4 := (Bx.set (HS2.out.up ((Up.refl _).alloc (.cells #[.int .i64 (want).a0, .int .i64 (want).a1, .int .i64 (want).a2, .int .i64 (want).a3, .int .i64 (want).a4, .int .i64 (want).a5] 135))) 0 (.slice none 0 0)).cell
          have hup4 := ((HUW.out.alloc (.cells #[.int .i64 (want).a0, .int .i64 (want).a1, .int .i64 (want).a2, .int .i64 (want).a3, .int .i64 (want).a4, .int .i64 (want).a5] 135)).set ⟨w.heap.size, 0, none⟩ (.slice none 0 0) (Nat.le_refl _))
          refine ⟨.tuple #[.slice none 0 0, .int .i64 (fillE l b)], ?_, .slice none 0 0, rfl, by rw [HS.out]; exact ⟨rfl, .inl ⟨rfl, rfl⟩⟩, hup4⟩
          rw [HE.out]
          have h0 := hb4 0
          simp [results, Try.results39, go_sem, h0]
        · have hbw : AccB 100000 want := by rw [HWE.out]; exact balA_bd b hbb
          have HE0 : Aside0 (fillE l b = if fillW l b = [] then 9 else 0) := ⟨by rw [HFE.out, if_neg h3, hbb]; rfl⟩
          have hq7 : ∀ (C D : Obj) o, ((w2.alloc C).alloc D).cell? ⟨B7, o, none⟩ = (#[.int .i64 (a).a0, .int .i64 (a).a1, .int .i64 (a).a2, .int .i64 (a).a3, .int .i64 (a).a4, .int .i64 (a).a5] : Array Value)[o]? := fun C D o => ((HB2.out.up ((Up.refl _).alloc C)).up ((Up.refl _).alloc D)).cell o
          have hq11 : ∀ (D : Obj) o, ((w2.alloc (.cells #[.int .i64 (want).a0, .int .i64 (want).a1, .int .i64 (want).a2, .int .i64 (want).a3, .int .i64 (want).a4, .int .i64 (want).a5] 135)).alloc D).cell? ⟨w2.heap.size, o, none⟩ = (#[.int .i64 (want).a0, .int .i64 (want).a1, .int .i64 (want).a2, .int .i64 (want).a3, .int .i64 (want).a4, .int .i64 (want).a5] : Array Value)[o]? := fun D o => ((Bx.new w2 _ _).up ((Up.refl _).alloc D)).cell o
          have HBW := Aside0.mk hbw
          clear HFE hbw hbb
          gi_wp2_with fail
          refine ⟨trivial, (callsIn_wide.2 (ways_ a want A8 bl.length c8 _)).mono ?_⟩
          rintro e wc ⟨rfl, hwx⟩
          have hsz2 : ((w2.alloc (.cells #[.int .i64 (want).a0, .int .i64 (want).a1, .int .i64 (want).a2, .int .i64 (want).a3, .int .i64 (want).a4, .int .i64 (want).a5] 135)).alloc (.cells #[.bool false] 4)).heap.size = w2.heap.size + 2 := by simp
          obtain ⟨W0, hW0⟩ : ∃ q, q = (w2.alloc (.cells #[.int .i64 (want).a0, .int .i64 (want).a1, .int .i64 (want).a2, .int .i64 (want).a3, .int .i64 (want).a4, .int .i64 (want).a5] 135)).alloc (.cells #[.bool false] 4) := ⟨_, rfl⟩
          rw [← hW0] at hwx hsz2
          rw [← hW0]
          have hU0 : Up w2 W0 := by rw [hW0]; exact upA
          have hU1 : Up W0 wc := ways_up hwx
          have hbb2 : Bx wc W0.heap.size #[.int .i64 (a).a0, .int .i64 (a).a1, .int .i64 (a).a2, .int .i64 (a).a3, .int .i64 (a).a4, .int .i64 (a).a5] 135 := by rw [hwx]; exact bxA
          have hbb3 : Bx wc (W0.heap.size + 1) #[.int .i64 (want).a0, .int .i64 (want).a1, .int .i64 (want).a2, .int .i64 (want).a3, .int .i64 (want).a4, .int .i64 (want).a5] 135 := by rw [hwx]; exact bxA
          have hbb1 : Bx wc (W0.heap.size + 2) #[.slice A8 bl.length c8] 46 := by rw [hwx]; exact bxA
          have hszw : wc.heap.size = W0.heap.size + 3 := by rw [hwx]; simp
          obtain ⟨B13, hB13⟩ : ∃ q, q = w2.heap.size + 1 := ⟨_, rfl⟩
          have hb13 : Bx wc B13 #[.bool false] 4 := by rw [hB13]; exact (show Bx W0 (w2.heap.size + 1) #[.bool false] 4 by rw [hW0]; exact bxA).up hU1
          have hseq := ways1_gives want HBW.out bl 2400 a A8 c8 (W0.heap.size + 2) W0.heap.size (W0.heap.size + 1) wc hbd (by omega) (by omega) (fun x hx => by have h9 := (entB_iff _).1 (HBE.out x hx); exact ⟨h9.1, h9.2.1⟩) hbb1 hbb2 hbb3 (HER.out.up (hU0.then hU1)) hc8
          have hI0 : FillI w w.heap.size B13 bl.length [] wc := ⟨HUW.out.then (hU0.then hU1), ⟨_, HS2.out.up (hU0.then hU1), .inl ⟨rfl, rfl⟩⟩, by simpa using hb13⟩
          have HI0 := Aside0.mk hI0
          have hwle := HUW.out.le
          have HSZ2 := Aside0.mk hsz2
          have HSZW := Aside0.mk hszw
          have HB13 := Aside0.mk hB13
          have hwle2 : w.heap.size ≤ wc.heap.size := by omega
          rw [← hB13]
          clear hsz2 hszw hB13
          clear hwx hW0 hbb1 hbb2 hbb3 hI0 hq7 hq11 hb13
          gi_wp2_with fail
          apply range_gives_fr (F := Fence.wide) (n := 7) rfl (by omega) (gf := 92) (lb := #[.pointer (some ⟨W0.heap.size + 2, 0, none⟩), .pointer (some ⟨W0.heap.size, 0, none⟩), .pointer (some ⟨W0.heap.size + 1, 0, none⟩)]) rfl trivial ways1_enter (G := Rd) (lo := fillLo) (ow := wayOw) (L := waysL want bl a) (hseq.any 6) (Up.refl _) rfl Rd.putObj
            (FillI w w.heap.size B13 bl.length) (FillI.stays (by omega)) HI0.out
            ?assign ?body ?done
          case assign =>
            intro l v Wd K hK
            have HK := Aside0.mk hK
            clear hK
            gi_wp2_with fail
            exact HK.out
          case done =>
            intro D Wd hD hId hDd
            obtain ⟨hU, ⟨v4, hb4, hs4⟩, hd⟩ := hId
            have hq13 := hd.cell
            have hq4 := hb4.cell
            have hf4 := hb4.frozen
            have HD13 := Aside0.mk hd
            have HB4 := Aside0.mk hb4
            have HUD := Aside0.mk hU
            have hDw : w.heap.size ≤ D := by omega
            clear hd hb4 hU
            have hDl := (Array.getElem?_eq_some_iff.1 hDd).1
            have hw4l := HB4.out.lt
            rcases hs4 with ⟨hL0, rfl⟩ | ⟨hL0, g, rfl, hg, hsp⟩
            · have HE : Aside0 (fillE l b = 9) := ⟨by rw [HE0.out, HFW.out, hL0]; rfl⟩
              have HS : Aside0 (fillS l b = []) := ⟨by rw [HFS.out, HE.out]; rfl⟩
              have hdd : decide (waysL want bl a ≠ []) = false := by simp [hL0]
              rw [hdd] at hq13
              clear hL0 hdd
              gi_wp2_with fail
              refine fill_fin (v := .slice none 0 0) (m := 0) (cs := []) hDw ((KeepsOthers.setCell Wd ⟨w.heap.size, 0, none⟩ (.slice none 0 0)).same D _ hDd rfl) (HB4.out.set 0 _) ⟨rfl, .inl ⟨rfl, rfl⟩⟩ (HUD.out.set _ _ (Nat.le_refl _)) ?_
              intro W' h0 ho hu
              refine ⟨.tuple #[.slice none 0 0, .int .i64 (fillE l b)], ?_, _, rfl, by rw [HS.out]; exact ho, hu⟩
              rw [HE.out]
              simp [results, Try.results39, go_sem, h0]
            · have HE : Aside0 (fillE l b = 0) := ⟨by rw [HE0.out, HFW.out, if_neg hL0]⟩
              have HS : Aside0 (fillS l b = fillTo (waysL want bl a)) := ⟨by rw [HFS.out, HE.out, HFW.out]; rfl⟩
              have hdd : decide (waysL want bl a ≠ []) = true := by simp [hL0]
              rw [hdd] at hq13
              have hfl : (fillTo (waysL want bl a)).length = bl.length := fillTo_len _ _ (fun y hy => waysL_len want bl a y hy) hL0
              obtain ⟨cur, hcur⟩ := hsp.bx
              have hne := hcur.ne HB4.out (by decide)
              have HSP := Aside0.mk hsp
              clear hL0 hdd hcur hsp
              gi_wp2_with fail
              refine fill_fin (v := .slice (some ⟨g, 0, none⟩) bl.length bl.length) (m := (fillTo (waysL want bl a)).length) (cs := cellsS (fillTo (waysL want bl a))) hDw ((KeepsOthers.setCell Wd ⟨w.heap.size, 0, none⟩ _).same D _ hDd rfl) (HB4.out.set 0 _) ?_ (HUD.out.set _ _ (Nat.le_refl _)) ?_
              · have h9 := (HSP.out.far hne 0 (.slice (some ⟨g, 0, none⟩) bl.length bl.length)).toOwn hg
                rw [hfl] at h9 ⊢
                exact h9
              · intro W' h0 ho hu
                refine ⟨.tuple #[.slice (some ⟨g, 0, none⟩) bl.length bl.length, .int .i64 (fillE l b)], ?_, _, rfl, by rw [HS.out]; exact ho, hu⟩
                rw [HE.out]
                simp [results, Try.results39, go_sem, h0]
          case body =>
            rintro lq pre y post v Wd hl ⟨rq, hlr⟩ hL hIp ⟨A9, c9, rfl, hc9, hRi⟩
            try dsimp only
            have hyl : y.length = bl.length := waysL_len want bl a y (by rw [← hL]; simp)
            have hy3 : y.length ≤ 3 := by omega
            have HYL := Aside0.mk hyl
            have HPL : Aside0 (∀ z ∈ pre, z.length = y.length) := ⟨fun z hz => by rw [hyl]; exact waysL_len want bl a z (by rw [← hL]; simp [hz])⟩
            have hw13 : w.heap.size ≤ B13 := by have := HB13.out; omega
            obtain ⟨hU, ⟨v4, hb4, hs4⟩, hd⟩ := hIp
            have HUD := Aside0.mk hU
            have HB4 := Aside0.mk hb4
            have HD13 := Aside0.mk hd
            have HRI := Aside0.mk hRi
            have hw4l := hb4.lt
            have hw13l := hd.lt
            have hne413 : w.heap.size ≠ B13 := hb4.ne hd (by decide)
            have hq13 := hd.cell
            have hq4 := hb4.cell
            have hf13 := hd.frozen
            have hf4 := hb4.frozen
            have hzU := hU.le
            clear hU hb4 hd hRi hyl
            gi_upto_if 58 with fail
            gi_cut [58] from 59 (fun u58 wx => ∃ g, Aside0 (FB w Wd B13 g A9 y (if pre = [] then initAll y else fillTo pre) wx))
            case first =>
              rcases hs4 with ⟨hp, rfl⟩ | ⟨hp, g, rfl, hg, hsp⟩
              · have hdd : decide (pre ≠ []) = false := by simp [hp]
                rw [hdd] at hq13
                have HP := Aside0.mk hp
                have hpe : (decide (pre = [])) = true := by simp [hp]
                have hmk := make_spans y.length (by omega)
                have HF0 := Aside0.mk (FB.start (A9 := A9) (y := y) (by omega) HB4.out HD13.out HRI.out HUD.out hw13)
                clear hdd
                gi_wp2_with fail
                obtain ⟨G, hG⟩ : ∃ G, Wd.heap.size = G := ⟨_, rfl⟩
                rw [hG] at HF0
                rw [hG]
                clear hG hmk hq13 hq4 hf13 hf4
                gi_loopw [64] (fun i Wr => ∃ k : Nat, k ≤ y.length ∧ i = .int .i64 (k : Int) ∧ Aside0 (FB w Wd B13 G A9 y (initAt y k) Wr)) (fun i _ => y.length - (intOf i).toNat)
                case atStart => exact ⟨0, Nat.zero_le _, rfl, HF0⟩
                case round =>
                  obtain ⟨k, hk, rfl, hF⟩ := hrel
                  clear HF0
                  by_cases hlt : k < y.length
                  · obtain ⟨g9, e9, hx9⟩ := hF.out.ri.cell k hlt
                    subst e9
                    obtain ⟨hx0, hx1⟩ := hF.out.cells k hlt
                    have hq4 := hF.out.b4.cell
                    have hfG := hF.out.sp.sps.frozen
                    have hi0 : (0 : Int) ≤ (k : Int) := by omega
                    have hi1 : (k : Int) < (y.length : Int) := by omega
                    have hdl : decide ((k : Int) < (y.length : Int)) = true := by simp; omega
                    have HFP := Aside0.mk (hF.out.put k hlt (rd y k) (rd y k))
                    gi_wp2_with fail
                    go_roundw
                    case rel => exact ⟨k + 1, by omega, by go_num, HFP⟩
                    case measure => simp [intOf]; omega
                  · obtain rfl : k = y.length := by omega
                    have hdl : decide ((y.length : Int) < (y.length : Int)) = false := by simp
                    gi_wp2_with fail
                    gi_meet
                    exact ⟨G, ⟨by rw [if_pos HP.out]; exact hF.out⟩⟩
              · have hdd : decide (pre ≠ []) = true := by simp [hp]
                rw [hdd] at hq13
                have HP := Aside0.mk hp
                have HDT : Aside0 (Bx Wd B13 #[.bool true] 4) := ⟨by have h9 := HD13.out; rw [hdd] at h9; exact h9⟩
                have HF0 : Aside0 (FB w Wd B13 g A9 y (fillTo pre) Wd) := ⟨⟨by rw [HYL.out]; exact HB4.out, HDT.out, by rw [HYL.out]; exact hsp, HRI.out, HUD.out, Kt.refl _ _, hg, fillTo_len _ _ HPL.out hp⟩⟩
                clear hdd hsp
                gi_wp2_with fail
                gi_meet
                exact ⟨g, ⟨by rw [if_neg HP.out]; exact HF0.out⟩⟩
            case rest =>
              obtain ⟨g, HF0⟩ := hcut
              obtain ⟨s, hs⟩ : ∃ s, s = (if pre = [] then initAll y else fillTo pre) := ⟨_, rfl⟩
              rw [← hs] at HF0
              have HS := Aside0.mk hs
              clear hs hs4 hq13 hq4 hf13 hf4
              gi_wp2_with fail
              gi_loopw [78] (fun i Wr => ∃ k : Nat, k ≤ y.length ∧ i = .int .i64 (k : Int) ∧ Aside0 (FB w Wd B13 g A9 y (joinAt s y k) Wr)) (fun i _ => y.length - (intOf i).toNat)
              case atStart => exact ⟨0, Nat.zero_le _, rfl, HF0⟩
              case round =>
                obtain ⟨k, hk, rfl, hF⟩ := hrel
                clear HF0
                by_cases hlt : k < y.length
                · obtain ⟨g9, e9, hx9⟩ := hF.out.ri.cell k hlt
                  subst e9
                  obtain ⟨hx0, hx1⟩ := hF.out.cells k hlt
                  have hq4 := hF.out.b4.cell
                  have hfG := hF.out.sp.sps.frozen
                  have hi0 : (0 : Int) ≤ (k : Int) := by omega
                  have hi1 : (k : Int) < (y.length : Int) := by omega
                  have hdl : decide ((k : Int) < (y.length : Int)) = true := by simp; omega
                  have HFP := Aside0.mk ((hF.out.put k hlt (min (rdS (joinAt s y k) k).lo (rd y k)) (max (rdS (joinAt s y k) k).hi (rd y k))).ups ((Up.refl _).drew))
                  gi_wp2_with fail
                  refine regionIn_still_tail 18 (by kernel_rfl) (by kernel_rfl) (by kernel_rfl) ?_
                  simp only [List.take_succ_cons, List.take_zero, List.drop_succ_cons, List.drop_zero]
                  repeat still_step
                  try refine wpStill_nil ?_
                  gi_wp2_with fail
                  go_roundw
                  case rel => exact ⟨k + 1, by omega, by go_num, HFP⟩
                  case measure => simp [intOf]; omega
                · obtain rfl : k = y.length := by omega
                  have hdl : decide ((y.length : Int) < (y.length : Int)) = false := by simp
                  gi_wp2_with fail
                  have hF2 := hF.out
                  refine ⟨hF2.kt, hF2.up, ⟨_, hF2.b4, .inr ⟨by simp, g, by rw [HYL.out], hF2.hg, ?_⟩⟩, by simpa using hF2.b13⟩
                  rw [fillTo_snoc, ← HS.out, ← HYL.out]
                  exact hF2.sp
end Go.Proofs.Ytdlekcdedahbhaa
namespace Go.Proofs.Ytdlekcdedahbhaa
open Go.RowKit Go.Shelf Go.Proofs.YtdlekcdedahbhaaW.PrintWords
set_option linter.unusedVariables false
set_option linter.unusedSimpArgs false
attribute [local go_sem] Oper.semAt_some
set_option maxRecDepth 100000 in
set_option maxHeartbeats 4000000 in
theorem fill_err (A : Option Addr) (c : Nat) (l : List Ent) (A2 : Option Addr) (c2 : Nat) (b : List Int) (w : World) (hr : Kd.C kEnt w A l.length l) (hc : l.length ≤ c) (h1 : ¬ chkE l = 0) :
    Calls Try.prog 39 #[.slice A l.length c, .slice A2 b.length c2] w fun e w' => ∃ v, e = .returned (.tuple #[v, .int .i64 (fillE l b)]) ∧ w'.ownsRow w.heap.size 44 2 v (fillS l b).length (cellsS (fillS l b)) ∧ Up w w' := by
  refine (callsIn_wide (n := 7)).1 ?_
  refine callsIn_of_wp_marks Try.func39 rfl trivial ?_ rfl
  simp only [Try.ntmps39, List.size_toArray, List.length_cons, List.length_nil, Nat.reduceAdd, Nat.reduceSub, Array.replicate_succ, Array.replicate_zero, List.push_toArray, List.append_toArray, List.nil_append, List.cons_append]
  have HR := Aside0.mk hr
  have hb1 : (chkE l != 0) = true := by simp [h1]
  have HE : Aside0 (fillE l b = chkE l) := ⟨by unfold fillE; rw [if_neg h1]⟩
  have HS : Aside0 (fillS l b = []) := ⟨by unfold fillS; rw [HE.out, if_neg h1]⟩
  clear hr h1
  gi_wp2_with fail
  refine ⟨trivial, (callsIn_wide.2 (chk_ A c l _ (C_up HR.out upA) hc)).mono ?_⟩
  rintro e w1 ⟨rfl, hu1⟩
  have HU1 : Aside0 (Up w w1) := ⟨((Up.refl w).alloc _).then hu1⟩
  have HB4 : Aside0 (Bx w1 w.heap.size #[.slice none 0 0] 36) := ⟨(Bx.new w _ _).up hu1⟩
  clear hu1
  have hq4 := HB4.out.cell
  have hf4 := HB4.out.frozen
  have hw4 := HB4.out.lt
  gi_wp2_with fail
  have hb4 := (HB4.out.set 0 (.slice none 0 0)).cell
  refine ⟨.tuple #[.slice none 0 0, .int .i64 (fillE l b)], ?_, .slice none 0 0, rfl, by rw [HS.out]; exact ⟨rfl, .inl ⟨rfl, rfl⟩⟩, HU1.out.set _ _ (Nat.le_refl _)⟩
  rw [HE.out]
  have h0 := hb4 0
  simp [results, Try.results39, go_sem, h0]
theorem fill_ (A : Option Addr) (c : Nat) (l : List Ent) (A2 : Option Addr) (c2 : Nat) (b : List Int) (w : World) (hr : Kd.C kEnt w A l.length l) (hc : l.length ≤ c) (hr2 : Kd.C (Kd.int .i64) w A2 b.length b) (hc2 : b.length ≤ c2) :
    Calls Try.prog 39 #[.slice A l.length c, .slice A2 b.length c2] w fun e w' => ∃ v, e = .returned (.tuple #[v, .int .i64 (fillE l b)]) ∧ w'.ownsRow w.heap.size 44 2 v (fillS l b).length (cellsS (fillS l b)) ∧ Up w w' := by
  by_cases h : chkE l = 0
  · exact fill_ok A c l A2 c2 b w hr hc hr2 hc2 h
  · exact fill_err A c l A2 c2 b w hr hc h
end Go.Proofs.Ytdlekcdedahbhaa
namespace Go.Proofs.Ytdlekcdedahbhaa
open Go.RowKit Go.Proofs.YtdlekcdedahbhaaW.PrintWords
set_option linter.unusedVariables false
set_option linter.unusedSimpArgs false
attribute [local go_sem] bi_max2 bi_min2 bi_max_two bi_min_two
def dueW (t : Tar) (x : Wk) (f : Int) : Int := IntKind.i64.wrap (f - t.f * x.l)
def restW (t : Tar) (hour pound : Int) (x : Wk) (f : Int) : Int := IntKind.i64.wrap (IntKind.i64.wrap (dueW t x f - hour * hrs x) - pound * pds x)
def clothsL (t : Tar) (hour pound : Int) : List Wk → List Int → Int → Int → Int × Int
  | x :: xs, f :: fs, lo, hi => if dueW t x f < t.l then (1, 0) else clothsL t hour pound xs fs (if t.l < dueW t x f then max lo (restW t hour pound x f) else lo) (min hi (restW t hour pound x f))
  | _, _, lo, hi => (lo, hi)
theorem clothsL_drop (t : Tar) (hour pound : Int) (xs : List Wk) (fs : List Int) (lo hi : Int) (k : Nat) (h : k < xs.length) (h2 : k < fs.length) :
    clothsL t hour pound (xs.drop k) (fs.drop k) lo hi = if dueW t (rdWk xs k) (rd fs k) < t.l then (1, 0) else clothsL t hour pound (xs.drop (k + 1)) (fs.drop (k + 1)) (if t.l < dueW t (rdWk xs k) (rd fs k) then max lo (restW t hour pound (rdWk xs k) (rd fs k)) else lo) (min hi (restW t hour pound (rdWk xs k) (rd fs k))) := by
  have e1 : xs[k] = rdWk xs k := by simp [rdWk, h]
  have e2 : fs[k] = rd fs k := by simp [rd, h2]
  rw [List.drop_eq_getElem_cons h, List.drop_eq_getElem_cons h2, clothsL, e1, e2]
set_option maxRecDepth 100000 in
set_option maxHeartbeats 2000000 in
theorem cloths_ (t : Tar) (A : Option Addr) (c : Nat) (xs : List Wk) (A2 : Option Addr) (c2 : Nat) (fs : List Int) (hour pound : Int) (w : World) (hr : Kd.C kWk w A xs.length xs) (hc : xs.length ≤ c)
    (hr2 : Kd.C (Kd.int .i64) w A2 fs.length fs) (hc2 : fs.length ≤ c2) (hlen : fs.length = xs.length) (ht : tarB t = true) (hx : xs.all wkB = true) (hh : 0 ≤ hour ∧ hour ≤ 60) (hp : 0 ≤ pound ∧ pound ≤ 60) :
    Calls Try.prog 68 #[.agg #[.int .i64 t.c, .int .i64 t.h, .int .i64 t.p, .int .i64 t.l, .int .i64 t.f, .slice A xs.length c, .slice A2 fs.length c2], .int .i64 hour, .int .i64 pound] w fun e w' => e = .returned (.tuple #[.int .i64 (clothsL t hour pound xs fs 0 60).1, .int .i64 (clothsL t hour pound xs fs 0 60).2]) ∧ Up w w' := by
  have HR := Aside0.mk hr
  have HR2 := Aside0.mk hr2
  have hml := CF_len hr
  have HL := Aside0.mk hlen
  have HT := Aside0.mk ht
  have HX := Aside0.mk hx
  clear hr hr2 hlen ht hx
  go_enter Try.func68, Try.ntmps68
  go_wp2_with fail
  go_loopw [6, 7, 15] (fun v6 v7 i wr => ∃ (k : Nat) (lo hi : Int), k ≤ xs.length ∧ i = .int .i64 k ∧ v6 = .int .i64 lo ∧ v7 = .int .i64 hi ∧ Aside0 (clothsL t hour pound (xs.drop k) (fs.drop k) lo hi = clothsL t hour pound xs fs 0 60) ∧ Aside0 (Up (w.alloc (.cells #[.int .i64 t.c, .int .i64 t.h, .int .i64 t.p, .int .i64 t.l, .int .i64 t.f, .slice A xs.length c, .slice A2 fs.length c2] 131)) wr)) (fun _ _ i _ => xs.length - (intOf i).toNat)
  case atStart => exact ⟨0, 0, 60, Nat.zero_le _, rfl, rfl, rfl, ⟨rfl⟩, ⟨upA⟩⟩
  case round =>
    obtain ⟨k, lo, hi, hk, rfl, rfl, rfl, he, hu⟩ := hrel
    have hq : ∀ o, wr.cell? ⟨w.heap.size, o, none⟩ = (#[.int .i64 t.c, .int .i64 t.h, .int .i64 t.p, .int .i64 t.l, .int .i64 t.f, .slice A xs.length c, .slice A2 fs.length c2] : Array Value)[o]? := fun o => (hu.out.old.1 _ o (by simp)).trans (by simp [go_sem])
    have hz : w.heap.size < wr.heap.size := by have := hu.out.le; simp at this; omega
    by_cases hlt : k < xs.length
    · have hu0 : Up w wr := (((Up.refl w).alloc _).then hu.out)
      obtain ⟨ad, e, hx0, hx1, hx2⟩ := at_Wk (C_up HR.out hu0) k (by omega) (by omega)
      cases e
      obtain ⟨ad2, e2, hy⟩ := Kd.at_int (C_up HR2.out hu0) k (by omega) (by have := HL.out; omega)
      cases e2
      simp only [Int.toNat_natCast] at hx0 hx1 hx2 hy
      have hi0 : (0 : Int) ≤ (k : Int) := by omega
      have hi1 : (k : Int) < (xs.length : Int) := by omega
      have hi2 : (k : Int) < (fs.length : Int) := by have := HL.out; omega
      have HB : wkB (rdWk xs k) = true := List.all_eq_true.1 HX.out _ (rdWk_mem xs k (by omega) (by omega))
      have b1 := (tarB_iff t).1 HT.out
      have b2 := (wkB_iff _).1 HB
      have b3 := mul_bd b1.2.2.2.1 b2.2.2
      have HE := Aside0.mk ((clothsL_drop t hour pound xs fs lo hi k hlt (by have := HL.out; omega)).symm.trans he.out)
      have hw1 : IntKind.i64.wrap (t.f * (rdWk xs k).l) = t.f * (rdWk xs k).l := IntWalk.i64_in _ (by omega)
      have hw2 : IntKind.i64.wrap (rd fs k - t.f * (rdWk xs k).l) = dueW t (rdWk xs k) (rd fs k) := rfl
      have b4 := mul_bd hh (hrs_bd _ HB)
      have b5 := mul_bd hp (pds_bd _ HB)
      have hw3 : IntKind.i64.wrap (hour * hrs (rdWk xs k)) = hour * hrs (rdWk xs k) := IntWalk.i64_in _ (by omega)
      have hw4 : IntKind.i64.wrap (pound * pds (rdWk xs k)) = pound * pds (rdWk xs k) := IntWalk.i64_in _ (by omega)
      have hw5 : IntKind.i64.wrap (IntKind.i64.wrap (dueW t (rdWk xs k) (rd fs k) - hour * hrs (rdWk xs k)) - pound * pds (rdWk xs k)) = restW t hour pound (rdWk xs k) (rd fs k) := rfl
      have HBA := Aside0.mk HB
      have hy2 : ∀ C : Obj, (wr.alloc C).cell? (ad2.add k) = some (.int .i64 (rd fs k)) := fun C => Up.cell ((Up.refl wr).alloc C) hy
      clear b1 b2 b3 b4 b5 he HB hu0
      have hu1 := Try.underlying124
      have hu2 := Try.underlying25
      go_wp2_with fail
      go_quiet (fail)
      go_wp2_with fail
      have hq1 : ∀ o, ((wr.alloc (.cells #[.int .i64 (rdWk xs k).q, .int .i64 (rdWk xs k).o, .int .i64 (rdWk xs k).l] 124)).drewN nq).cell? ⟨w.heap.size, o, none⟩ = (#[.int .i64 t.c, .int .i64 t.h, .int .i64 t.p, .int .i64 t.l, .int .i64 t.f, .slice (some ad) xs.length c, .slice (some ad2) fs.length c2] : Array Value)[o]? := fun o => ((((Up.refl wr).alloc _).drewN nq).old.1 _ o hz).trans (hq o)
      have hq2 : ∀ o, ((wr.alloc (.cells #[.int .i64 (rdWk xs k).q, .int .i64 (rdWk xs k).o, .int .i64 (rdWk xs k).l] 124)).drewN nq).cell? ⟨wr.heap.size, o, none⟩ = (#[.int .i64 (rdWk xs k).q, .int .i64 (rdWk xs k).o, .int .i64 (rdWk xs k).l] : Array Value)[o]? := fun o => by simp [go_sem]
      have HU1 : Aside0 (Up (w.alloc (.cells #[.int .i64 t.c, .int .i64 t.h, .int .i64 t.p, .int .i64 t.l, .int .i64 t.f, .slice (some ad) xs.length c, .slice (some ad2) fs.length c2] 131)) ((wr.alloc (.cells #[.int .i64 (rdWk xs k).q, .int .i64 (rdWk xs k).o, .int .i64 (rdWk xs k).l] 124)).drewN nq)) := ⟨(hu.out.alloc _).drewN nq⟩
      obtain ⟨B, hB⟩ : ∃ B, wr.heap.size = B := ⟨_, rfl⟩
      have hBz : B < ((wr.alloc (.cells #[.int .i64 (rdWk xs k).q, .int .i64 (rdWk xs k).o, .int .i64 (rdWk xs k).l] 124)).drewN nq).heap.size := by simp; omega
      rw [hB] at hq2 hz
      rw [hB]
      generalize ((wr.alloc (.cells #[.int .i64 (rdWk xs k).q, .int .i64 (rdWk xs k).o, .int .i64 (rdWk xs k).l] 124)).drewN nq) = W1 at *
      clear hx0 hx1 hx2 hy hy2 hq hB hu
      go_region_held3 (fun W => (∀ o, W.cell? ⟨w.heap.size, o, none⟩ = (#[.int .i64 t.c, .int .i64 t.h, .int .i64 t.p, .int .i64 t.l, .int .i64 t.f, .slice (some ad) xs.length c, .slice (some ad2) fs.length c2] : Array Value)[o]?) ∧ (∀ o, W.cell? ⟨B, o, none⟩ = (#[.int .i64 (rdWk xs k).q, .int .i64 (rdWk xs k).o, .int .i64 (rdWk xs k).l] : Array Value)[o]?)) (first | (go_keep; done) | (go_split_ands; (repeat' (with_reducible apply And.intro)) <;> (first | assumption | (intro o; refine (hcA _ o ?_).trans ?_; (focus (first | omega | (simp; omega) | (simp; done))); (first | (simp only [*]; done) | (simp [*]; done))) | ((refine (hcA _ _ (by (try simp); omega)).trans ?_); (first | assumption | (simp only [*]; done) | (simp [*]; done)))))) (first | (go_at_call 60; (with_reducible refine (hours' _ _ HBA.out).mono ?_); rintro e w' ⟨rfl, hb⟩; have hbA := Aside0.mk hb; obtain ⟨hcA, hfA⟩ := hb.old; have hz := hb.le; (try simp at hz); (try have hz0 : w.heap.size < w'.heap.size := by omega); (try have hzb : w.heap.size + 1 < w'.heap.size := by omega); (try have hzc : w.heap.size + 2 < w'.heap.size := by omega); clear hb) | (go_at_call 61; (with_reducible refine (pounds' _ _ HBA.out).mono ?_); rintro e w' ⟨rfl, hb⟩; have hbA := Aside0.mk hb; obtain ⟨hcA, hfA⟩ := hb.old; have hz := hb.le; (try simp at hz); (try have hz0 : w.heap.size < w'.heap.size := by omega); (try have hzb : w.heap.size + 1 < w'.heap.size := by omega); (try have hzc : w.heap.size + 2 < w'.heap.size := by omega); clear hb))
      all_goals
        repeat clear hcA hfA
        go_wp2_with fail
        all_goals
          first
          | (go_roundw
             case rel => exact ⟨k + 1, _, _, by omega, by go_num, rfl, rfl, ⟨by have h9 := HE.out; rw [if_neg (by omega)] at h9; first | (rw [if_pos (by omega)] at h9; exact h9) | (rw [if_neg (by omega)] at h9; exact h9)⟩, ⟨HU1.out.then upA⟩⟩
             case measure => simp [intOf]; omega)
          | (go_ret2
             exact ⟨by have h9 := HE.out; rw [if_pos (by omega)] at h9; simp [← h9], ((Up.refl w).alloc _).then (HU1.out.then upA)⟩)
    · obtain rfl : k = xs.length := by omega
      have h1 : clothsL t hour pound (xs.drop xs.length) (fs.drop xs.length) lo hi = (lo, hi) := by simp [clothsL]
      have HE := Aside0.mk (h1.symm.trans he.out)
      clear h1 he
      go_wp2_with fail
      go_ret2
      exact ⟨by simp [← HE.out], ((Up.refl w).alloc _).then hu.out⟩
end Go.Proofs.Ytdlekcdedahbhaa
namespace Go.Proofs.Ytdlekcdedahbhaa
open Go.RowKit Go.Shelf Go.Proofs.YtdlekcdedahbhaaW.PrintWords
set_option linter.unusedVariables false
set_option linter.unusedSimpArgs false
attribute [local go_sem] bi_max2 bi_min2 bi_max_two bi_min_two
theorem idx_Wk_drop (p : Wk → Bool) (l : List Wk) (k : Nat) (h : k < l.length) : idxF p (l.drop k) k = if p (rdWk l k) then (k:Int) else idxF p (l.drop (k+1)) (k+1) := by
  rw [List.drop_eq_getElem_cons h, idxF]; simp [rdWk, List.getD_eq_getElem?_getD, h]
set_option maxRecDepth 100000 in
theorem index_Wk (fv : FuncId) (cap : Array Value) (p : Wk → Bool) (A : Option Addr) (c : Nat) (l : List Wk) (w : World)
    (hr : Kd.C kWk w A l.length l) (hc : l.length ≤ c)
    (hE : ∀ (args : Array Value) (w : World), (callFunc fv args).run Try.prog w = .ok (.enter fv args) w)
    (hf : ∀ x W, Up w W → Calls Try.prog fv (#[.agg #[.int .i64 x.q, .int .i64 x.o, .int .i64 x.l]] ++ cap) W fun e W' => e = .returned (.bool (p x)) ∧ Up W W') :
    Calls Try.prog 87 #[.slice A l.length c, .func (.func fv) #[] cap] w fun e w' => e = .returned (.int .i64 (idxF p l 0)) ∧ Up w w' := by
  have HF := Aside0.mk hf
  have HR := Aside0.mk hr
  have hm := CF_len hr
  clear hf hr
  go_enter Try.func87, Try.ntmps87
  go_wp2
  go_loopw [8] (fun i wr => ∃ k : Nat, k ≤ l.length ∧ i = .int .i64 k ∧ Aside0 (idxF p l 0 = idxF p (l.drop k) k) ∧ Aside0 (Up w wr)) (fun i _ => l.length - (intOf i).toNat)
  case atStart => exact ⟨0, Nat.zero_le _, rfl, ⟨rfl⟩, ⟨Up.refl _⟩⟩
  case round =>
    obtain ⟨k, hk, rfl, he, hb⟩ := hrel
    by_cases hlt : k < l.length
    · obtain ⟨ad, e, hx0, hx1, hx2⟩ := at_Wk (C_up HR.out hb.out) k (by omega) (by omega)
      cases e
      have hu := Try.underlying25
      simp only [Int.toNat_natCast] at hx0 hx1 hx2
      have hcall := HF.out (rdWk l k) _ hb.out
      cases hp : p (rdWk l k)
      all_goals
        rw [hp] at hcall
        have he2 := idx_Wk_drop p l k hlt
        rw [hp] at he2
        have he3 := Aside0.mk (he.out.trans he2)
        clear hp he he2
        go_wp2_with fail
        refine hcall.mono ?_
        clear hcall
        rintro e w' ⟨rfl, hb'⟩
        have hb2 := Aside0.mk (hb.out.then hb')
        clear hb' hb
        go_wp2
      · go_roundw
        case rel => exact ⟨k+1, by omega, by go_num, ⟨by simpa using he3.out⟩, hb2⟩
        case measure => simp [intOf]; omega
      · go_ret
        exact ⟨by rw [he3.out]; rfl, hb2.out⟩
    · go_wp2
      go_ret
      exact ⟨by rw [he.out, List.drop_eq_nil_of_le (by omega)]; rfl, hb.out⟩
theorem contains_Wk (fv : FuncId) (cap : Array Value) (p : Wk → Bool) (A : Option Addr) (c : Nat) (l : List Wk) (w : World)
    (hr : Kd.C kWk w A l.length l) (hc : l.length ≤ c)
    (hE : ∀ (args : Array Value) (w : World), (callFunc fv args).run Try.prog w = .ok (.enter fv args) w)
    (hf : ∀ x W, Up w W → Calls Try.prog fv (#[.agg #[.int .i64 x.q, .int .i64 x.o, .int .i64 x.l]] ++ cap) W fun e W' => e = .returned (.bool (p x)) ∧ Up W W') :
    Calls Try.prog 66 #[.slice A l.length c, .func (.func fv) #[] cap] w fun e w' => e = .returned (.bool (l.any p)) ∧ Up w w' := by
  have hcall := index_Wk fv cap p A c l w hr hc hE hf
  clear hr hf
  have HD : Aside0 (decide (0 ≤ idxF p l 0) = l.any p) := ⟨idxF_any p l⟩
  clear hE
  go_enter Try.func66, Try.ntmps66
  go_wp2_with fail
  refine hcall.mono ?_
  clear hcall
  rintro e w' ⟨rfl, hb'⟩
  have hb2 := Aside0.mk hb'
  clear hb'
  go_wp2
  go_ret
  exact ⟨ret_bool HD.out, hb2.out⟩
theorem prices1 (x : Wk) (w : World) : Calls Try.prog 67 #[.agg #[.int .i64 x.q, .int .i64 x.o, .int .i64 x.l]] w fun e w' => e = .returned (.bool (!wkB x)) ∧ Up w w' := by
  go_enter Try.func67, Try.ntmps67
  go_wp2_with (go_at_call 59; (with_reducible refine (isJob _ _).mono ?_); rintro e w' ⟨rfl, hb⟩; have hbA := Aside0.mk hb; obtain ⟨hcA, hfA⟩ := hb.old; have hz := hb.le; (try simp at hz); (try have hz0 : w.heap.size < w'.heap.size := by omega); (try have hzb : w.heap.size + 1 < w'.heap.size := by omega); (try have hzc : w.heap.size + 2 < w'.heap.size := by omega); clear hb)
  go_ret
  exact ⟨rfl, upA⟩
theorem containsJob (A : Option Addr) (c : Nat) (l : List Wk) (w : World) (hr : Kd.C kWk w A l.length l) (hc : l.length ≤ c) :
    Calls Try.prog 66 #[.slice A l.length c, .func (.func 67) #[] #[]] w fun e w' => e = .returned (.bool (l.any fun x => !wkB x)) ∧ Up w w' :=
  contains_Wk 67 #[] (fun x => !wkB x) _ _ l _ hr hc (by intro a w; kernel_rfl) (by intro x W hb; exact prices1 _ _)
structure PS where
  m : Int
  s : List Sp
def joinS (s : List Sp) (a b c : Sp) : List Sp := match s with
  | [x, y, z] => [⟨min x.lo a.lo, max x.hi a.hi⟩, ⟨min y.lo b.lo, max y.hi b.hi⟩, ⟨min z.lo c.lo, max z.hi c.hi⟩]
  | _ => [a, b, c]
def psStep (t : Tar) (xs : List Wk) (fs : List Int) (hour pound : Int) (p : PS) : PS :=
  if (clothsL t hour pound xs fs 0 60).2 < (clothsL t hour pound xs fs 0 60).1 then p
  else ⟨p.m + ((clothsL t hour pound xs fs 0 60).2 - (clothsL t hour pound xs fs 0 60).1 + 1), joinS p.s ⟨(clothsL t hour pound xs fs 0 60).1, (clothsL t hour pound xs fs 0 60).2⟩ ⟨hour, hour⟩ ⟨pound, pound⟩⟩
def psIn (t : Tar) (xs : List Wk) (fs : List Int) (hour : Nat) (p : PS) (n : Nat) : PS := (List.range n).foldl (fun p (pound : Nat) => psStep t xs fs hour pound p) p
def psOut (t : Tar) (xs : List Wk) (fs : List Int) (n : Nat) : PS := (List.range n).foldl (fun p (hour : Nat) => psIn t xs fs hour p 61) ⟨0, []⟩
theorem psIn_succ (t xs fs hour p n) : psIn t xs fs hour p (n + 1) = psStep t xs fs hour n (psIn t xs fs hour p n) := by
  simp only [psIn, List.range_succ, List.foldl_append, List.foldl_cons, List.foldl_nil]
theorem psOut_succ (t xs fs n) : psOut t xs fs (n + 1) = psIn t xs fs n (psOut t xs fs n) 61 := by
  simp only [psOut, List.range_succ, List.foldl_append, List.foldl_cons, List.foldl_nil]
def pricesE0 (t : Tar) (xs : List Wk) (fs : List Int) : Int := if tarE t = 0 then (if xs.length > 6 then 5 else if xs.any (fun x => !wkB x) then 3 else if fs.length = xs.length then 0 else 4) else tarE t
def pricesE (t : Tar) (xs : List Wk) (fs : List Int) : Int := if pricesE0 t xs fs = 0 then (if (psOut t xs fs 61).m = 0 then 9 else 0) else pricesE0 t xs fs
def pricesM (t : Tar) (xs : List Wk) (fs : List Int) : Int := if pricesE0 t xs fs = 0 then (psOut t xs fs 61).m else 0
def pricesS (t : Tar) (xs : List Wk) (fs : List Int) : List Sp := if pricesE t xs fs = 0 then (psOut t xs fs 61).s else []
theorem pricesErr (t : Tar) (A : Option Addr) (c : Nat) (xs : List Wk) (A2 : Option Addr) (c2 : Nat) (fs : List Int) (w : World) (hr : Kd.C kWk w A xs.length xs) (hc : xs.length ≤ c)
    (hr2 : Kd.C (Kd.int .i64) w A2 fs.length fs) (hc2 : fs.length ≤ c2) (he : pricesE0 t xs fs ≠ 0) :
    Calls Try.prog 24 #[.agg #[.int .i64 t.c, .int .i64 t.h, .int .i64 t.p, .int .i64 t.l, .int .i64 t.f], .slice A xs.length c, .slice A2 fs.length c2] w fun e w' => e = .returned (.tuple #[.int .i64 0, .slice none 0 0, .int .i64 (pricesE0 t xs fs)]) ∧ Up w w' := by
  have HR := Aside0.mk hr
  have hml := CF_len hr
  have hml2 := CF_len hr2
  clear hr hr2
  by_cases h1 : tarE t = 0
  · have hb1 : (tarE t != 0) = false := by simp [h1]
    by_cases h2 : xs.length > 6
    · have hE : pricesE0 t xs fs = 5 := by simp [pricesE0, h1, h2]
      rw [hE]
      clear he hE h1
      go_enter Try.func24, Try.ntmps24
      go_wp2_with (go_at_call 18; (with_reducible refine (check _ _).mono ?_); rintro e w' ⟨rfl, hb⟩; have hbA := Aside0.mk hb; obtain ⟨hcA, hfA⟩ := hb.old; have hz := hb.le; (try simp at hz); (try have hz0 : w.heap.size < w'.heap.size := by omega); (try have hzb : w.heap.size + 1 < w'.heap.size := by omega); (try have hzc : w.heap.size + 2 < w'.heap.size := by omega); clear hb)
      go_ret3
      exact ⟨rfl, upA⟩
    · cases h3 : (xs.any fun x => !wkB x)
      · by_cases h4 : fs.length = xs.length
        · simp [pricesE0, h1, h2, h3, h4] at he
        · have hE : pricesE0 t xs fs = 4 := by simp [pricesE0, h1, h2, h3, h4]
          have hb4 : ((fs.length : Int) != (xs.length : Int)) = true := by simp; omega
          rw [hE]
          have H3 := Aside0.mk h3
          clear he hE h1 h3
          go_enter Try.func24, Try.ntmps24
          go_wp2_with (first | (go_at_call 18; (with_reducible refine (check _ _).mono ?_); rintro e w' ⟨rfl, hb⟩; have hbA := Aside0.mk hb; obtain ⟨hcA, hfA⟩ := hb.old; have hz := hb.le; (try simp at hz); (try have hz0 : w.heap.size < w'.heap.size := by omega); (try have hzb : w.heap.size + 1 < w'.heap.size := by omega); (try have hzc : w.heap.size + 2 < w'.heap.size := by omega); clear hb) | (go_at_call 66; (with_reducible refine ((H3.out ▸ containsJob _ _ _ _ (C_up HR.out upA) hc)).mono ?_); rintro e w' ⟨rfl, hb⟩; have hbA := Aside0.mk hb; obtain ⟨hcA, hfA⟩ := hb.old; have hz := hb.le; (try simp at hz); (try have hz0 : w.heap.size < w'.heap.size := by omega); (try have hzb : w.heap.size + 1 < w'.heap.size := by omega); (try have hzc : w.heap.size + 2 < w'.heap.size := by omega); clear hb))
          go_ret3
          exact ⟨rfl, upA⟩
      · have hE : pricesE0 t xs fs = 3 := by simp [pricesE0, h1, h2, h3]
        rw [hE]
        have H3 := Aside0.mk h3
        clear he hE h1 h3
        go_enter Try.func24, Try.ntmps24
        go_wp2_with (first | (go_at_call 18; (with_reducible refine (check _ _).mono ?_); rintro e w' ⟨rfl, hb⟩; have hbA := Aside0.mk hb; obtain ⟨hcA, hfA⟩ := hb.old; have hz := hb.le; (try simp at hz); (try have hz0 : w.heap.size < w'.heap.size := by omega); (try have hzb : w.heap.size + 1 < w'.heap.size := by omega); (try have hzc : w.heap.size + 2 < w'.heap.size := by omega); clear hb) | (go_at_call 66; (with_reducible refine ((H3.out ▸ containsJob _ _ _ _ (C_up HR.out upA) hc)).mono ?_); rintro e w' ⟨rfl, hb⟩; have hbA := Aside0.mk hb; obtain ⟨hcA, hfA⟩ := hb.old; have hz := hb.le; (try simp at hz); (try have hz0 : w.heap.size < w'.heap.size := by omega); (try have hzb : w.heap.size + 1 < w'.heap.size := by omega); (try have hzc : w.heap.size + 2 < w'.heap.size := by omega); clear hb))
        go_ret3
        exact ⟨rfl, upA⟩
  · have hb1 : (tarE t != 0) = true := by simp [h1]
    have hE : pricesE0 t xs fs = tarE t := by simp [pricesE0, h1]
    rw [hE]
    clear he hE h1
    go_enter Try.func24, Try.ntmps24
    go_wp2_with (go_at_call 18; (with_reducible refine (check _ _).mono ?_); rintro e w' ⟨rfl, hb⟩; have hbA := Aside0.mk hb; obtain ⟨hcA, hfA⟩ := hb.old; have hz := hb.le; (try simp at hz); (try have hz0 : w.heap.size < w'.heap.size := by omega); (try have hzb : w.heap.size + 1 < w'.heap.size := by omega); (try have hzc : w.heap.size + 2 < w'.heap.size := by omega); clear hb)
    go_ret3
    exact ⟨rfl, upA⟩
end Go.Proofs.Ytdlekcdedahbhaa
namespace Go.Proofs.Ytdlekcdedahbhaa
open Go.RowKit Go.Shelf Go.Proofs.YtdlekcdedahbhaaW.PrintWords
set_option linter.unusedVariables false
set_option linter.unusedSimpArgs false
attribute [local go_sem] bi_max2 bi_min2 bi_max_two bi_min_two
def encWk (x : Wk) : List Value := [.int .i64 x.q, .int .i64 x.o, .int .i64 x.l]
theorem info_job : (Try.prog.info? 124).map (fun i => (i.zero, i.size, i.bytes)) = some (some (.agg #[.int .i64 0, .int .i64 0, .int .i64 0]), 3, 24) := by kernel_rfl
theorem clothsL_bd (t : Tar) (hour pound : Int) : ∀ (xs : List Wk) (fs : List Int) (lo hi : Int), 0 ≤ lo → hi ≤ 60 → 0 ≤ (clothsL t hour pound xs fs lo hi).1 ∧ (clothsL t hour pound xs fs lo hi).2 ≤ 60
  | [], fs, lo, hi, h0, h1 => by simp [clothsL, h0, h1]
  | x :: xs, [], lo, hi, h0, h1 => by simp [clothsL, h0, h1]
  | x :: xs, f :: fs, lo, hi, h0, h1 => by
    rw [clothsL]
    split
    · simp
    · refine clothsL_bd t hour pound xs fs _ _ ?_ ?_
      · split <;> omega
      · omega
theorem psStep_bd (t xs fs hour pound) (p : PS) : p.m ≤ (psStep t xs fs hour pound p).m ∧ (psStep t xs fs hour pound p).m ≤ p.m + 61 := by
  have h := clothsL_bd t hour pound xs fs 0 60 (by omega) (by omega)
  unfold psStep
  split
  · omega
  · simp only; omega
theorem psIn_bd (t xs fs) (hour : Nat) (p : PS) : ∀ n : Nat, p.m ≤ (psIn t xs fs hour p n).m ∧ (psIn t xs fs hour p n).m ≤ p.m + 61 * n
  | 0 => by simp [psIn]
  | n + 1 => by
    have h1 := psIn_bd t xs fs hour p n
    have h2 := psStep_bd t xs fs hour n (psIn t xs fs hour p n)
    rw [psIn_succ]
    omega
theorem psOut_bd (t xs fs) : ∀ n : Nat, 0 ≤ (psOut t xs fs n).m ∧ (psOut t xs fs n).m ≤ 3721 * n
  | 0 => by simp [psOut]
  | n + 1 => by
    have h1 := psOut_bd t xs fs n
    have h2 := psIn_bd t xs fs n (psOut t xs fs n) 61
    rw [psOut_succ]
    omega
def sp6 (x y z : Sp) : Array Value := #[.int .i64 x.lo, .int .i64 x.hi, .int .i64 y.lo, .int .i64 y.hi, .int .i64 z.lo, .int .i64 z.hi]
def joinK (k : Int) (x y z a b c : Sp) : Array Value := sp6 (if 0 < k then ⟨min x.lo a.lo, max x.hi a.hi⟩ else x) (if 1 < k then ⟨min y.lo b.lo, max y.hi b.hi⟩ else y) (if 2 < k then ⟨min z.lo c.lo, max z.hi c.hi⟩ else z)
def PrV (W : World) (base : Nat) (v : Value) (s : List Sp) : Prop := (s = [] ∧ v = .slice none 0 0) ∨ ∃ g x y z, v = .slice (some ⟨g, 0, none⟩) 3 3 ∧ base ≤ g ∧ s = [x, y, z] ∧ Bx W g (sp6 x y z) 44
theorem PrV.up {W W' base v s} (h : PrV W base v s) (hu : Up W W') : PrV W' base v s := by
  rcases h with h | ⟨g, x, y, z, h1, h2, h3, h4⟩
  · exact .inl h
  · exact .inr ⟨g, x, y, z, h1, h2, h3, h4.up hu⟩
theorem PrV.own {W base base' v s} (h : PrV W base v s) (hb : base' ≤ base) : W.ownsRow base' 44 2 v s.length (cellsS s) := by
  rcases h with ⟨rfl, rfl⟩ | ⟨g, x, y, z, rfl, h2, rfl, h4⟩
  · exact ⟨rfl, .inl ⟨rfl, rfl⟩⟩
  · exact ⟨rfl, .inr ⟨g, 3, _, rfl, by omega, h4, Nat.le_refl _, by decide, rfl, rfl⟩⟩
def pEnd (t : Tar) (xs : List Wk) (fs : List Int) : Int := if (psOut t xs fs 61).m = 0 then 9 else 0
def pSp (t : Tar) (xs : List Wk) (fs : List Int) : List Sp := if (psOut t xs fs 61).m = 0 then [] else (psOut t xs fs 61).s
structure PreP (t : Tar) (xs : List Wk) (fs : List Int) : Prop where
  t : tarB t = true
  n : xs.length ≤ 6
  x : xs.all wkB = true
  f : fs.length = xs.length
theorem preP (t : Tar) (xs : List Wk) (fs : List Int) (h : pricesE0 t xs fs = 0) : PreP t xs fs := by
  unfold pricesE0 at h
  by_cases h1 : tarE t = 0
  · rw [if_pos h1] at h
    by_cases h2 : xs.length > 6
    · simp [h2] at h
    · rw [if_neg h2] at h
      cases h3 : (xs.any fun x => !wkB x)
      · rw [h3] at h
        by_cases h4 : fs.length = xs.length
        · refine ⟨(tarE_zero t).1 h1, by omega, ?_, h4⟩
          rw [List.all_eq_true]
          intro x hx
          have := List.any_eq_false.1 h3 x hx
          simpa using this
        · simp [h4] at h
      · rw [h3] at h
        simp at h
  · rw [if_neg h1] at h
    exact absurd h h1
set_option maxRecDepth 100000 in
set_option maxHeartbeats 4000000 in
theorem pricesOk (t : Tar) (A : Option Addr) (c : Nat) (xs : List Wk) (A2 : Option Addr) (c2 : Nat) (fs : List Int) (w : World) (hr : Kd.C kWk w A xs.length xs) (hc : xs.length ≤ c)
    (hr2 : Kd.C (Kd.int .i64) w A2 fs.length fs) (hc2 : fs.length ≤ c2) (he : pricesE0 t xs fs = 0) :
    Calls Try.prog 24 #[.agg #[.int .i64 t.c, .int .i64 t.h, .int .i64 t.p, .int .i64 t.l, .int .i64 t.f], .slice A xs.length c, .slice A2 fs.length c2] w fun e w' => ∃ v, e = .returned (.tuple #[.int .i64 (psOut t xs fs 61).m, v, .int .i64 (pEnd t xs fs)]) ∧ w'.ownsRow w.heap.size 44 2 v (pSp t xs fs).length (cellsS (pSp t xs fs)) ∧ Up w w' := by
  have HP := Aside0.mk (preP t xs fs he)
  have HR := Aside0.mk hr
  have HR2 := Aside0.mk hr2
  have hml := CF_len hr
  have hml2 := CF_len hr2
  have ht0 : tarE t = 0 := (tarE_zero t).2 HP.out.t
  have hb1 : (tarE t != 0) = false := by simp [ht0]
  have hn6 := HP.out.n
  have hb4 : ((fs.length : Int) != (xs.length : Int)) = false := by simp [HP.out.f]
  have H3 : Aside0 ((xs.any fun x => !wkB x) = false) := ⟨by
    rw [List.any_eq_false]
    intro x hx
    have := List.all_eq_true.1 HP.out.x x hx
    simp [this]⟩
  clear he hr hr2 ht0
  go_enter Try.func24, Try.ntmps24
  go_wp2_with (first | (go_at_call 18; (with_reducible refine (check _ _).mono ?_); rintro e w' ⟨rfl, hb⟩; have hbA := Aside0.mk hb; obtain ⟨hcA, hfA⟩ := hb.old; have hz := hb.le; (try simp at hz); (try have hz0 : w.heap.size < w'.heap.size := by omega); (try have hzb : w.heap.size + 1 < w'.heap.size := by omega); (try have hzc : w.heap.size + 2 < w'.heap.size := by omega); clear hb) | (go_at_call 66; (with_reducible refine ((H3.out ▸ containsJob _ _ _ _ (C_up HR.out upA) hc)).mono ?_); rintro e w' ⟨rfl, hb⟩; have hbA := Aside0.mk hb; obtain ⟨hcA, hfA⟩ := hb.old; have hz := hb.le; (try simp at hz); (try have hz0 : w.heap.size < w'.heap.size := by omega); (try have hzb : w.heap.size + 1 < w'.heap.size := by omega); (try have hzc : w.heap.size + 2 < w'.heap.size := by omega); clear hb))
  have HU0 : Aside0 (Up w w') := ⟨upA⟩
  repeat clear hcA hfA
  obtain ⟨B, hB⟩ : ∃ B, w'.heap.size = B := ⟨_, rfl⟩
  have hBw : w.heap.size ≤ B := by have := HU0.out.le; omega
  rw [hB]
  go_loopw [44] (fun i wr => ∃ (k : Nat) (v : Value), k ≤ xs.length ∧ i = .int .i64 k ∧ Aside0 (Bx wr B #[.int .i64 t.c, .int .i64 t.h, .int .i64 t.p, .int .i64 t.l, .int .i64 t.f, v, .slice A2 fs.length c2] 131) ∧ Aside0 (wr.ownsRow w.heap.size 124 3 v k ((xs.take k).flatMap encWk)) ∧ Aside0 (Up w wr)) (fun i _ => xs.length - (intOf i).toNat)
  case atStart =>
    refine ⟨0, _, Nat.zero_le _, rfl, ⟨?_⟩, ⟨⟨by simp, .inl ⟨rfl, rfl⟩⟩⟩, ⟨HU0.out.alloc _⟩⟩
    subst hB
    exact Bx.new _ _ _
  case round =>
    obtain ⟨k, v, hk, rfl, hBx, hO, hU⟩ := hrel
    by_cases hlt : k < xs.length
    · obtain ⟨ad, e, hx0, hx1, hx2⟩ := at_Wk (C_up HR.out hU.out) k (by omega) (by omega)
      subst e
      simp only [Int.toNat_natCast] at hx0 hx1 hx2
      have hi0 : (0 : Int) ≤ (k : Int) := by omega
      have hi1 : (k : Int) < (xs.length : Int) := by omega
      have hBz := hBx.out.lt
      have hu1 := Try.underlying124
      have hu2 := Try.underlying25
      have hq : ∀ (C : Obj) o, (wr.alloc C).cell? ⟨B, o, none⟩ = (#[.int .i64 t.c, .int .i64 t.h, .int .i64 t.p, .int .i64 t.l, .int .i64 t.f, v, .slice A2 fs.length c2] : Array Value)[o]? := fun C o => (hBx.out.up ((Up.refl wr).alloc C)).cell o
      have HO2 := Aside0.mk (own_up hO.out ((Up.refl wr).alloc (.cells #[.int .i64 (rdWk xs k).q, .int .i64 (rdWk xs k).o, .int .i64 (rdWk xs k).l] 25)))
      have HU2 : Aside0 (Up w (wr.alloc (.cells #[.int .i64 (rdWk xs k).q, .int .i64 (rdWk xs k).o, .int .i64 (rdWk xs k).l] 25))) := ⟨hU.out.alloc _⟩
      have HB2 := Aside0.mk (hBx.out.up ((Up.refl wr).alloc (.cells #[.int .i64 (rdWk xs k).q, .int .i64 (rdWk xs k).o, .int .i64 (rdWk xs k).l] 25)))
      go_wp2_with (at_builtin; refine print_append_cells (w0 := w) w.heap.size rfl _ _ 129 124 _ 3 24 rfl Try.underlying129 info_job rfl (by decide) (by decide) v k _ [.int .i64 (rdWk xs k).q, .int .i64 (rdWk xs k).o, .int .i64 (rdWk xs k).l] rfl (by go_simp) rfl ?q1 HO2.out HU2.out HU2.out.le ?q2 ?_)
      case q1 => intro u hu; simp at hu; rcases hu with rfl | rfl | rfl <;> rfl
      case q2 => omega
      intro v1 w1 hown hb1 hgrow hat
      obtain ⟨A1, cA, rfl, _, _⟩ := ownF_slice hown
      have HB3 := HB2.out.grown HO2.out (by decide) hgrow
      have hq1 := HB3.cell
      have hf1 := HB3.frozen
      have HB3A := Aside0.mk HB3
      have HOW := Aside0.mk hown
      have HUP : Aside0 (Up w w1) := ⟨hb1⟩
      clear hown hb1 hgrow hat HB3 hq hO hU hBx
      go_wp2_with fail
      go_roundw
      case rel =>
        refine ⟨k + 1, .slice A1 (k + 1) cA, by omega, by go_num, ⟨?_⟩, ⟨?_⟩, ⟨?_⟩⟩
        · have := HB3A.out.set 5 (.slice A1 (k + 1) cA)
          simpa using this
        · have h := own_far HOW.out HB3A.out (by decide) 5 (.slice A1 (k + 1) cA)
          have e : (xs.take (k + 1)).flatMap encWk = (xs.take k).flatMap encWk ++ [.int .i64 (rdWk xs k).q, .int .i64 (rdWk xs k).o, .int .i64 (rdWk xs k).l] := by
            rw [List.take_succ_eq_append_getElem hlt, List.flatMap_append]
            simp [encWk, rdWk, hlt]
          rw [e]
          exact h
        · exact HUP.out.set _ _ hBw
      case measure => simp [intOf]; omega
    · obtain rfl : k = xs.length := by omega
      have hown := hO.out
      rw [List.take_length] at hown
      obtain ⟨AJ, cJ, rfl, hcJ, hCJ⟩ := own_Kd kWk encWk kWk_mk (fun _ => rfl) hown hml
      have HCJ := Aside0.mk hCJ
      clear hown hCJ hO
      have hZ := hBx.out.lt
      obtain ⟨wj, hwj⟩ : ∃ wj, wj = wr := ⟨_, rfl⟩
      rw [← hwj] at HCJ hBx hU hZ
      clear HR
      go_wp2_with fail
      go_loopw [6, 7, 56] (fun v6 v7 i wr => ∃ (h : Nat) (v : Value), h ≤ 61 ∧ v7 = v ∧ i = .int .i64 h ∧ v6 = .int .i64 (psOut t xs fs h).m ∧ Aside0 (PrV wr wj.heap.size v (psOut t xs fs h).s) ∧ Aside0 (Up wj wr)) (fun _ _ i _ => 61 - (intOf i).toNat)
      case atStart => exact ⟨0, _, by omega, rfl, rfl, rfl, ⟨.inl ⟨rfl, rfl⟩⟩, ⟨by rw [hwj]; exact Up.refl _⟩⟩
      case round =>
        obtain ⟨h, v, hh, rfl, rfl, rfl, hPr, hUj⟩ := hrel
        clear hwj
        by_cases hh1 : h < 61
        · have HSO := Aside0.mk (psOut_succ t xs fs h)
          have hobd := psOut_bd t xs fs h
          have hd0 : decide ((h : Int) < 61) = true := by simp; omega
          go_wp2_with fail
          go_loopw [6, 7, 59] (fun v6 v7 i wr => ∃ (p : Nat) (v : Value), p ≤ 61 ∧ v7 = v ∧ i = .int .i64 p ∧ v6 = .int .i64 (psIn t xs fs h (psOut t xs fs h) p).m ∧ Aside0 (PrV wr wj.heap.size v (psIn t xs fs h (psOut t xs fs h) p).s) ∧ Aside0 (Up wj wr)) (fun _ _ i _ => 61 - (intOf i).toNat)
          case atStart => exact ⟨0, _, by omega, rfl, rfl, rfl, hPr, hUj⟩
          case round =>
            obtain ⟨p, v, hp, rfl, rfl, rfl, hPr, hUj⟩ := hrel
            by_cases hp1 : p < 61
            · have hq : ∀ o, wr.cell? ⟨B, o, none⟩ = (#[.int .i64 t.c, .int .i64 t.h, .int .i64 t.p, .int .i64 t.l, .int .i64 t.f, .slice AJ xs.length cJ, .slice A2 fs.length c2] : Array Value)[o]? := (hBx.out.up hUj.out).cell
              have hcall := cloths_ t AJ cJ xs A2 c2 fs h p wr (C_up HCJ.out hUj.out) hcJ (C_up HR2.out (hU.out.then hUj.out)) hc2 HP.out.f HP.out.t HP.out.x ⟨by omega, by omega⟩ ⟨by omega, by omega⟩
              have hd1 : decide ((p : Int) < 61) = true := by simp; omega
              have hibd := psIn_bd t xs fs h (psOut t xs fs h) p
              have hcb := clothsL_bd t h p xs fs 0 60 (by omega) (by omega)
              have HSI := Aside0.mk (psIn_succ t xs fs h (psOut t xs fs h) p)
              have HST : Aside0 (psStep t xs fs h p (psIn t xs fs h (psOut t xs fs h) p) = if (clothsL t h p xs fs 0 60).2 < (clothsL t h p xs fs 0 60).1 then (psIn t xs fs h (psOut t xs fs h) p) else ⟨(psIn t xs fs h (psOut t xs fs h) p).m + ((clothsL t h p xs fs 0 60).2 - (clothsL t h p xs fs 0 60).1 + 1), joinS (psIn t xs fs h (psOut t xs fs h) p).s ⟨(clothsL t h p xs fs 0 60).1, (clothsL t h p xs fs 0 60).2⟩ ⟨h, h⟩ ⟨p, p⟩⟩) := ⟨rfl⟩
              generalize psIn t xs fs h (psOut t xs fs h) p = q at *
              generalize (clothsL t h p xs fs 0 60).1 = lo at *
              generalize (clothsL t h p xs fs 0 60).2 = hi at *
              by_cases hgt : hi < lo
              · rw [if_pos hgt] at HST
                go_wp2_with fail
                refine hcall.mono ?_
                clear hcall
                rintro e w' ⟨rfl, hb⟩
                have HB := Aside0.mk hb
                clear hb
                go_wp2_with fail
                go_roundw
                case rel => exact ⟨p + 1, _, by omega, rfl, by go_num, by rw [HSI.out, HST.out], ⟨by rw [HSI.out, HST.out]; exact hPr.out.up HB.out⟩, ⟨hUj.out.then HB.out⟩⟩
                case measure => simp [intOf]; omega
              · rw [if_neg hgt] at HST
                have hgt2 : lo ≤ hi := by omega
                go_wp2_with fail
                refine hcall.mono ?_
                clear hcall
                rintro e w' ⟨rfl, hb⟩
                have HB := Aside0.mk hb
                have hz := hb.le
                have hzj := hUj.out.le
                have q36 : ∀ (w : World) (a : Option Addr) (n c n' c' : Nat), (binOp .eql 36 (.slice a n c) (.slice none n' c')).run Try.prog w = .ok (.bool a.isNone) w := fun w a n c n' c' => Lib.run_eql_slice_nil w _ _ a n c n' c' Try.underlying36
                clear hb hq
                rcases hPr.out with ⟨hs0, hv0⟩ | ⟨g, x, y, z, hv0, hg, hs0, hBg⟩
                · subst hv0
                  have HS0 := Aside0.mk hs0
                  clear hs0
                  have HN := Aside0.mk (Bx.new w' (sp6 ⟨lo, hi⟩ ⟨h, h⟩ ⟨p, p⟩) 44)
                  obtain ⟨N, hN⟩ : ∃ N, w'.heap.size = N := ⟨_, rfl⟩
                  rw [hN] at HN
                  have hNj : wj.heap.size ≤ N := by omega
                  go_wp2_with fail
                  go_loopw [93] (fun i wr => ∃ k : Int, 0 ≤ k ∧ k ≤ 3 ∧ i = .int .i64 k ∧ Aside0 (Bx wr N (sp6 ⟨lo, hi⟩ ⟨h, h⟩ ⟨p, p⟩) 44) ∧ Aside0 (Up wj wr)) (fun i _ => (3 - intOf i).toNat)
                  case atStart => exact ⟨0, by omega, by omega, rfl, HN, ⟨(hUj.out.then HB.out).alloc _⟩⟩
                  case round =>
                    obtain ⟨k, hk0, hk3, rfl, hBN, hUN⟩ := hrel
                    by_cases hk : k < 3
                    · have hz2 := hBN.out.lt
                      have hqN : ∀ o, wr.cell? ⟨N, o, none⟩ = (#[.int .i64 lo, .int .i64 hi, .int .i64 h, .int .i64 h, .int .i64 p, .int .i64 p] : Array Value)[o]? := hBN.out.cell
                      have hqC : ∀ (C : Obj) o, (wr.alloc C).cell? ⟨N, o, none⟩ = (#[.int .i64 lo, .int .i64 hi, .int .i64 h, .int .i64 h, .int .i64 p, .int .i64 p] : Array Value)[o]? := fun C o => (hBN.out.up ((Up.refl wr).alloc C)).cell o
                      have hfC : ∀ (C : Obj) o, (wr.alloc C).frozen? ⟨N, o, none⟩ = false := fun C o => (hBN.out.up ((Up.refl wr).alloc C)).frozen o
                      have hu3 := Try.underlying44
                      obtain rfl | rfl | rfl : k = 0 ∨ k = 1 ∨ k = 2 := by omega
                      · skip
                        go_wp2_with fail
                        have hqa := hqC (.cells #[.int .i64 (lo), .int .i64 (hi)] 44)
                        have hfa := hfC (.cells #[.int .i64 (lo), .int .i64 (hi)] 44)
                        have hqs : ∀ o, (wr.alloc (.cells #[.int .i64 (lo), .int .i64 (hi)] 44)).cell? ⟨wr.heap.size, o, none⟩ = (#[.int .i64 (lo), .int .i64 (hi)] : Array Value)[o]? := fun o => by simp [go_sem]
                        have hUa : Aside0 (Up wr (wr.alloc (.cells #[.int .i64 (lo), .int .i64 (hi)] 44))) := ⟨(Up.refl wr).alloc _⟩
                        generalize wr.alloc (.cells #[.int .i64 (lo), .int .i64 (hi)] 44) = Wa at *
                        generalize wr.heap.size = Sz at *
                        clear hqC hfC
                        go_still_tail 20, (by kernel_rfl)
                        go_wp2_with fail
                        go_roundw
                        case rel => exact ⟨1, by omega, by omega, rfl, ⟨by have h9 := ((hBN.out.up hUa.out).set 0 (.int .i64 (lo))).set 1 (.int .i64 (hi)); exact (show Bx _ _ (sp6 ⟨lo, hi⟩ ⟨h, h⟩ ⟨p, p⟩) _ from h9).up ((Up.refl _).drew)⟩, ⟨(((hUN.out.then hUa.out).set _ _ hNj).set _ _ hNj).drew⟩⟩
                        case measure => simp [intOf]
                      · skip
                        go_wp2_with fail
                        have hqa := hqC (.cells #[.int .i64 (h), .int .i64 (h)] 44)
                        have hfa := hfC (.cells #[.int .i64 (h), .int .i64 (h)] 44)
                        have hqs : ∀ o, (wr.alloc (.cells #[.int .i64 (h), .int .i64 (h)] 44)).cell? ⟨wr.heap.size, o, none⟩ = (#[.int .i64 (h), .int .i64 (h)] : Array Value)[o]? := fun o => by simp [go_sem]
                        have hUa : Aside0 (Up wr (wr.alloc (.cells #[.int .i64 (h), .int .i64 (h)] 44))) := ⟨(Up.refl wr).alloc _⟩
                        generalize wr.alloc (.cells #[.int .i64 (h), .int .i64 (h)] 44) = Wa at *
                        generalize wr.heap.size = Sz at *
                        clear hqC hfC
                        go_still_tail 20, (by kernel_rfl)
                        go_wp2_with fail
                        go_roundw
                        case rel => exact ⟨2, by omega, by omega, rfl, ⟨by have h9 := ((hBN.out.up hUa.out).set 2 (.int .i64 (h))).set 3 (.int .i64 (h)); exact (show Bx _ _ (sp6 ⟨lo, hi⟩ ⟨h, h⟩ ⟨p, p⟩) _ from h9).up ((Up.refl _).drew)⟩, ⟨(((hUN.out.then hUa.out).set _ _ hNj).set _ _ hNj).drew⟩⟩
                        case measure => simp [intOf]
                      · skip
                        go_wp2_with fail
                        have hqa := hqC (.cells #[.int .i64 (p), .int .i64 (p)] 44)
                        have hfa := hfC (.cells #[.int .i64 (p), .int .i64 (p)] 44)
                        have hqs : ∀ o, (wr.alloc (.cells #[.int .i64 (p), .int .i64 (p)] 44)).cell? ⟨wr.heap.size, o, none⟩ = (#[.int .i64 (p), .int .i64 (p)] : Array Value)[o]? := fun o => by simp [go_sem]
                        have hUa : Aside0 (Up wr (wr.alloc (.cells #[.int .i64 (p), .int .i64 (p)] 44))) := ⟨(Up.refl wr).alloc _⟩
                        generalize wr.alloc (.cells #[.int .i64 (p), .int .i64 (p)] 44) = Wa at *
                        generalize wr.heap.size = Sz at *
                        clear hqC hfC
                        go_still_tail 20, (by kernel_rfl)
                        go_wp2_with fail
                        go_roundw
                        case rel => exact ⟨3, by omega, by omega, rfl, ⟨by have h9 := ((hBN.out.up hUa.out).set 4 (.int .i64 (p))).set 5 (.int .i64 (p)); exact (show Bx _ _ (sp6 ⟨lo, hi⟩ ⟨h, h⟩ ⟨p, p⟩) _ from h9).up ((Up.refl _).drew)⟩, ⟨(((hUN.out.then hUa.out).set _ _ hNj).set _ _ hNj).drew⟩⟩
                        case measure => simp [intOf]
                    · obtain rfl : k = 3 := by omega
                      go_wp2_with fail
                      go_roundw
                      case rel =>
                        refine ⟨p + 1, _, by omega, rfl, by go_num, by rw [HSI.out, HST.out], ⟨?_⟩, hUN⟩
                        rw [HSI.out, HST.out]
                        exact .inr ⟨N, ⟨lo, hi⟩, ⟨h, h⟩, ⟨p, p⟩, rfl, hNj, by rw [HS0.out]; rfl, hBN.out⟩
                      case measure => simp [intOf]; omega
                · subst hv0
                  have HS0 := Aside0.mk hs0
                  clear hs0
                  have HN := Aside0.mk (Bx.new w' (sp6 ⟨lo, hi⟩ ⟨h, h⟩ ⟨p, p⟩) 44)
                  have HG : Aside0 (Bx (w'.alloc (.cells (sp6 ⟨lo, hi⟩ ⟨h, h⟩ ⟨p, p⟩) 44)) g (sp6 x y z) 44) := ⟨(hBg.up HB.out).up ((Up.refl _).alloc _)⟩
                  have hgl := hBg.lt
                  obtain ⟨N, hN⟩ : ∃ N, w'.heap.size = N := ⟨_, rfl⟩
                  rw [hN] at HN
                  have hNj : wj.heap.size ≤ N := by omega
                  have hNg : N ≠ g := by omega
                  clear hBg
                  go_wp2_with fail
                  go_loopw [93] (fun i wr => ∃ k : Int, 0 ≤ k ∧ k ≤ 3 ∧ i = .int .i64 k ∧ Aside0 (Bx wr g (joinK k x y z ⟨lo, hi⟩ ⟨h, h⟩ ⟨p, p⟩) 44) ∧ Aside0 (Bx wr N (sp6 ⟨lo, hi⟩ ⟨h, h⟩ ⟨p, p⟩) 44) ∧ Aside0 (Up wj wr)) (fun i _ => (3 - intOf i).toNat)
                  case atStart => exact ⟨0, by omega, by omega, rfl, HG, HN, ⟨(hUj.out.then HB.out).alloc _⟩⟩
                  case round =>
                    obtain ⟨k, hk0, hk3, rfl, hBG, hBN, hUN⟩ := hrel
                    by_cases hk : k < 3
                    · have hz2 := hBN.out.lt
                      have hz3 := hBG.out.lt
                      have hqN : ∀ o, wr.cell? ⟨N, o, none⟩ = (#[.int .i64 lo, .int .i64 hi, .int .i64 h, .int .i64 h, .int .i64 p, .int .i64 p] : Array Value)[o]? := hBN.out.cell
                      have hu3 := Try.underlying44
                      obtain rfl | rfl | rfl : k = 0 ∨ k = 1 ∨ k = 2 := by omega
                      · have hBk : Bx wr g (sp6 x y z) 44 := by have h9 := hBG.out; simpa [joinK] using h9
                        have hqC : ∀ (C : Obj) o, (wr.alloc C).cell? ⟨g, o, none⟩ = (#[.int .i64 x.lo, .int .i64 x.hi, .int .i64 y.lo, .int .i64 y.hi, .int .i64 z.lo, .int .i64 z.hi] : Array Value)[o]? := fun C o => (hBk.up ((Up.refl wr).alloc C)).cell o
                        have hfC : ∀ (C : Obj) o, (wr.alloc C).frozen? ⟨g, o, none⟩ = false := fun C o => (hBk.up ((Up.refl wr).alloc C)).frozen o
                        have HBK := Aside0.mk hBk
                        clear hBk
                        go_wp2_with fail
                        have hqa := hqC (.cells #[.int .i64 (lo), .int .i64 (hi)] 44)
                        have hfa := hfC (.cells #[.int .i64 (lo), .int .i64 (hi)] 44)
                        have hqs : ∀ o, (wr.alloc (.cells #[.int .i64 (lo), .int .i64 (hi)] 44)).cell? ⟨wr.heap.size, o, none⟩ = (#[.int .i64 (lo), .int .i64 (hi)] : Array Value)[o]? := fun o => by simp [go_sem]
                        have hUa : Aside0 (Up wr (wr.alloc (.cells #[.int .i64 (lo), .int .i64 (hi)] 44))) := ⟨(Up.refl wr).alloc _⟩
                        generalize wr.alloc (.cells #[.int .i64 (lo), .int .i64 (hi)] 44) = Wa at *
                        generalize wr.heap.size = Sz at *
                        clear hqC hfC
                        go_still_tail 20, (by kernel_rfl)
                        go_wp2_with fail
                        go_roundw
                        case rel =>
                          have h9 := ((HBK.out.up hUa.out).set 0 (.int .i64 (min x.lo lo))).set 1 (.int .i64 (max x.hi hi))
                          have h8 : joinK 1 x y z ⟨lo, hi⟩ ⟨h, h⟩ ⟨p, p⟩ = sp6 ⟨min x.lo lo, max x.hi hi⟩ y z := by simp [joinK]
                          refine ⟨1, by omega, by omega, rfl, ⟨by rw [h8]; exact (show Bx _ _ (sp6 ⟨min x.lo lo, max x.hi hi⟩ y z) _ from h9).up ((Up.refl _).drew)⟩, ⟨(((hBN.out.up hUa.out).far hNg _ _).far hNg _ _).up ((Up.refl _).drew)⟩, ⟨(((hUN.out.then hUa.out).set _ _ hg).set _ _ hg).drew⟩⟩
                        case measure => simp [intOf]
                      · have hBk : Bx wr g (sp6 ⟨min x.lo lo, max x.hi hi⟩ y z) 44 := by have h9 := hBG.out; simpa [joinK] using h9
                        have hqC : ∀ (C : Obj) o, (wr.alloc C).cell? ⟨g, o, none⟩ = (#[.int .i64 (min x.lo lo), .int .i64 (max x.hi hi), .int .i64 y.lo, .int .i64 y.hi, .int .i64 z.lo, .int .i64 z.hi] : Array Value)[o]? := fun C o => (hBk.up ((Up.refl wr).alloc C)).cell o
                        have hfC : ∀ (C : Obj) o, (wr.alloc C).frozen? ⟨g, o, none⟩ = false := fun C o => (hBk.up ((Up.refl wr).alloc C)).frozen o
                        have HBK := Aside0.mk hBk
                        clear hBk
                        go_wp2_with fail
                        have hqa := hqC (.cells #[.int .i64 (h), .int .i64 (h)] 44)
                        have hfa := hfC (.cells #[.int .i64 (h), .int .i64 (h)] 44)
                        have hqs : ∀ o, (wr.alloc (.cells #[.int .i64 (h), .int .i64 (h)] 44)).cell? ⟨wr.heap.size, o, none⟩ = (#[.int .i64 (h), .int .i64 (h)] : Array Value)[o]? := fun o => by simp [go_sem]
                        have hUa : Aside0 (Up wr (wr.alloc (.cells #[.int .i64 (h), .int .i64 (h)] 44))) := ⟨(Up.refl wr).alloc _⟩
                        generalize wr.alloc (.cells #[.int .i64 (h), .int .i64 (h)] 44) = Wa at *
                        generalize wr.heap.size = Sz at *
                        clear hqC hfC
                        go_still_tail 20, (by kernel_rfl)
                        go_wp2_with fail
                        go_roundw
                        case rel =>
                          have h9 := ((HBK.out.up hUa.out).set 2 (.int .i64 (min y.lo h))).set 3 (.int .i64 (max y.hi h))
                          have h8 : joinK 2 x y z ⟨lo, hi⟩ ⟨h, h⟩ ⟨p, p⟩ = sp6 ⟨min x.lo lo, max x.hi hi⟩ ⟨min y.lo h, max y.hi h⟩ z := by simp [joinK]
                          refine ⟨2, by omega, by omega, rfl, ⟨by rw [h8]; exact (show Bx _ _ (sp6 ⟨min x.lo lo, max x.hi hi⟩ ⟨min y.lo h, max y.hi h⟩ z) _ from h9).up ((Up.refl _).drew)⟩, ⟨(((hBN.out.up hUa.out).far hNg _ _).far hNg _ _).up ((Up.refl _).drew)⟩, ⟨(((hUN.out.then hUa.out).set _ _ hg).set _ _ hg).drew⟩⟩
                        case measure => simp [intOf]
                      · have hBk : Bx wr g (sp6 ⟨min x.lo lo, max x.hi hi⟩ ⟨min y.lo h, max y.hi h⟩ z) 44 := by have h9 := hBG.out; simpa [joinK] using h9
                        have hqC : ∀ (C : Obj) o, (wr.alloc C).cell? ⟨g, o, none⟩ = (#[.int .i64 (min x.lo lo), .int .i64 (max x.hi hi), .int .i64 (min y.lo h), .int .i64 (max y.hi h), .int .i64 z.lo, .int .i64 z.hi] : Array Value)[o]? := fun C o => (hBk.up ((Up.refl wr).alloc C)).cell o
                        have hfC : ∀ (C : Obj) o, (wr.alloc C).frozen? ⟨g, o, none⟩ = false := fun C o => (hBk.up ((Up.refl wr).alloc C)).frozen o
                        have HBK := Aside0.mk hBk
                        clear hBk
                        go_wp2_with fail
                        have hqa := hqC (.cells #[.int .i64 (p), .int .i64 (p)] 44)
                        have hfa := hfC (.cells #[.int .i64 (p), .int .i64 (p)] 44)
                        have hqs : ∀ o, (wr.alloc (.cells #[.int .i64 (p), .int .i64 (p)] 44)).cell? ⟨wr.heap.size, o, none⟩ = (#[.int .i64 (p), .int .i64 (p)] : Array Value)[o]? := fun o => by simp [go_sem]
                        have hUa : Aside0 (Up wr (wr.alloc (.cells #[.int .i64 (p), .int .i64 (p)] 44))) := ⟨(Up.refl wr).alloc _⟩
                        generalize wr.alloc (.cells #[.int .i64 (p), .int .i64 (p)] 44) = Wa at *
                        generalize wr.heap.size = Sz at *
                        clear hqC hfC
                        go_still_tail 20, (by kernel_rfl)
                        go_wp2_with fail
                        go_roundw
                        case rel =>
                          have h9 := ((HBK.out.up hUa.out).set 4 (.int .i64 (min z.lo p))).set 5 (.int .i64 (max z.hi p))
                          have h8 : joinK 3 x y z ⟨lo, hi⟩ ⟨h, h⟩ ⟨p, p⟩ = sp6 ⟨min x.lo lo, max x.hi hi⟩ ⟨min y.lo h, max y.hi h⟩ ⟨min z.lo p, max z.hi p⟩ := by simp [joinK]
                          refine ⟨3, by omega, by omega, rfl, ⟨by rw [h8]; exact (show Bx _ _ (sp6 ⟨min x.lo lo, max x.hi hi⟩ ⟨min y.lo h, max y.hi h⟩ ⟨min z.lo p, max z.hi p⟩) _ from h9).up ((Up.refl _).drew)⟩, ⟨(((hBN.out.up hUa.out).far hNg _ _).far hNg _ _).up ((Up.refl _).drew)⟩, ⟨(((hUN.out.then hUa.out).set _ _ hg).set _ _ hg).drew⟩⟩
                        case measure => simp [intOf]
                    · obtain rfl : k = 3 := by omega
                      have hBk : Bx wr g (sp6 ⟨min x.lo lo, max x.hi hi⟩ ⟨min y.lo h, max y.hi h⟩ ⟨min z.lo p, max z.hi p⟩) 44 := by have h9 := hBG.out; simpa [joinK] using h9
                      have HBK := Aside0.mk hBk
                      clear hBk hBG
                      go_wp2_with fail
                      go_roundw
                      case rel =>
                        refine ⟨p + 1, _, by omega, rfl, by go_num, by rw [HSI.out, HST.out], ⟨?_⟩, hUN⟩
                        rw [HSI.out, HST.out]
                        exact .inr ⟨g, _, _, _, rfl, hg, by rw [HS0.out]; rfl, HBK.out⟩
                      case measure => simp [intOf]; omega
            · obtain rfl : p = 61 := by omega
              have hd2 : decide (((61 : Nat) : Int) < 61) = false := by simp
              go_wp2_with fail
              go_roundw
              case rel => exact ⟨h + 1, _, by omega, rfl, by go_num, by rw [HSO.out], ⟨by rw [HSO.out]; exact hPr.out⟩, hUj⟩
              case measure => simp [intOf]; omega
        · obtain rfl : h = 61 := by omega
          have hd2 : decide (((61 : Nat) : Int) < 61) = false := by simp
          have hzj := hU.out.le
          by_cases hm : (psOut t xs fs 61).m = 0
          · have hbm : ((psOut t xs fs 61).m == 0) = true := by simp [hm]
            have hE : pEnd t xs fs = 9 := by simp [pEnd, hm]
            have hS : pSp t xs fs = [] := by simp [pSp, hm]
            have HM := Aside0.mk hm
            have HE := Aside0.mk hE
            have HS := Aside0.mk hS
            clear hm hE hS
            go_wp2_with fail
            go_ret3
            exact ⟨.slice none 0 0, by simp [HM.out, HE.out], by rw [HS.out]; exact ⟨rfl, .inl ⟨rfl, rfl⟩⟩, hU.out.then hUj.out⟩
          · have hbm : ((psOut t xs fs 61).m == 0) = false := by simp [hm]
            have hE : pEnd t xs fs = 0 := by simp [pEnd, hm]
            have hS : pSp t xs fs = (psOut t xs fs 61).s := by simp [pSp, hm]
            have HE := Aside0.mk hE
            have HS := Aside0.mk hS
            clear hm hE hS
            go_wp2_with fail
            go_ret3
            exact ⟨_, by simp [HE.out]; rfl, by rw [HS.out]; exact hPr.out.own hzj, hU.out.then hUj.out⟩
end Go.Proofs.Ytdlekcdedahbhaa
namespace Go.Proofs.Ytdlekcdedahbhaa
open Go.RowKit Go.Shelf Go.Proofs.YtdlekcdedahbhaaW.PrintWords
set_option linter.unusedVariables false
theorem prices_ (t : Tar) (A : Option Addr) (c : Nat) (xs : List Wk) (A2 : Option Addr) (c2 : Nat) (fs : List Int) (w : World) (hr : Kd.C kWk w A xs.length xs) (hc : xs.length ≤ c)
    (hr2 : Kd.C (Kd.int .i64) w A2 fs.length fs) (hc2 : fs.length ≤ c2) :
    Calls Try.prog 24 #[.agg #[.int .i64 t.c, .int .i64 t.h, .int .i64 t.p, .int .i64 t.l, .int .i64 t.f], .slice A xs.length c, .slice A2 fs.length c2] w fun e w' => ∃ v, e = .returned (.tuple #[.int .i64 (pricesM t xs fs), v, .int .i64 (pricesE t xs fs)]) ∧ w'.ownsRow w.heap.size 44 2 v (pricesS t xs fs).length (cellsS (pricesS t xs fs)) ∧ Up w w' := by
  by_cases he : pricesE0 t xs fs = 0
  · refine (pricesOk t A c xs A2 c2 fs w hr hc hr2 hc2 he).mono ?_
    rintro e w' ⟨v, rfl, ho, hu⟩
    have h1 : pricesM t xs fs = (psOut t xs fs 61).m := by simp [pricesM, he]
    have h2 : pricesE t xs fs = pEnd t xs fs := by simp [pricesE, pEnd, he]
    have h3 : pricesS t xs fs = pSp t xs fs := by
      unfold pricesS pSp
      rw [h2]
      unfold pEnd
      by_cases hm : (psOut t xs fs 61).m = 0
      · simp [hm]
      · simp [hm]
    rw [h1, h2, h3]
    exact ⟨v, rfl, ho, hu⟩
  · refine (pricesErr t A c xs A2 c2 fs w hr hc hr2 hc2 he).mono ?_
    rintro e w' ⟨rfl, hu⟩
    have h1 : pricesM t xs fs = 0 := by simp [pricesM, he]
    have h2 : pricesE t xs fs = pricesE0 t xs fs := by simp [pricesE, he]
    have h3 : pricesS t xs fs = [] := by
      unfold pricesS
      rw [h2, if_neg he]
    rw [h1, h2, h3]
    exact ⟨_, rfl, own_nil _ _ _ _, hu⟩
end Go.Proofs.Ytdlekcdedahbhaa
namespace Go.Proofs.Ytdlekcdedahbhaa
open Go.RowKit Go.Shelf Go.Proofs.YtdlekcdedahbhaaW.PrintWords
set_option linter.unusedVariables false
set_option linter.unusedSimpArgs false
theorem info_int1 : (Try.prog.info? 3).map (fun i => (i.zero, i.size, i.bytes)) = some (some (.int .i64 0), 1, 8) := by kernel_rfl
theorem made6 : madeCells (Value.int .i64 0).cells (Int.toNat 6 * 1) = #[.int .i64 0, .int .i64 0, .int .i64 0, .int .i64 0, .int .i64 0, .int .i64 0] := by
  first | rfl | kernel_rfl | (apply Array.ext_getElem?; intro i; simp [madeCells, Value.cells]; done)
theorem make_ints6 (W : World) : (Instr.makeSlice 35 (.int .i64 6) (.int .i64 6)).run Try.prog W = .ok (.slice (some ⟨W.heap.size, 0, none⟩) 6 6) (W.alloc (.cells #[.int .i64 (z_Acc).a0, .int .i64 (z_Acc).a1, .int .i64 (z_Acc).a2, .int .i64 (z_Acc).a3, .int .i64 (z_Acc).a4, .int .i64 (z_Acc).a5] 3)) := by
  obtain ⟨i0, hi0, hk0, hk1, hk2⟩ := info_parts info_int1
  have h := run_make (P := Try.prog) W 35 3 i0 _ Try.underlying35 hi0 hk0 .i64 .i64 6 6 (by omega) (by omega) (by rw [hk2]; omega) (by omega)
  rw [hk1, made6] at h
  exact h
def balR (l : List Ent) : Acc := l.foldl (fun a x => if 0 < x.a then afterA a x else a) z_Acc
theorem balR_take (l : List Ent) (k : Nat) (h : k < l.length) : balR (l.take (k + 1)) = if 0 < (rdEnt l k).a then afterA (balR (l.take k)) (rdEnt l k) else balR (l.take k) := by
  have e : l[k] = rdEnt l k := by simp [rdEnt, h]
  rw [List.take_succ_eq_append_getElem h, balR, List.foldl_append, e]
  rfl
theorem balR_bd (l : List Ent) (hl : l.all entB = true) : ∀ k : Nat, k ≤ l.length → AccB (200 * (k : Int)) (balR (l.take k))
  | 0, _ => by simp [balR, AccB, z_Acc]
  | k + 1, h => by
    have h1 := balR_bd l hl k (by omega)
    have hen := (entB_iff _).1 (List.all_eq_true.1 hl _ (rdEnt_mem l k (by omega) (by omega)))
    rw [balR_take l k (by omega)]
    split
    · exact (h1.after (m := 100) (rdEnt l k) (by omega)).mono (by omega)
    · exact h1.mono (by omega)
theorem at_Ent_lt {w : World} {ad : Addr} {n : Nat} {xs : List Ent} (h : Kd.C kEnt w (some ad) n xs) (i : Nat) (hi : i < n) : (ad.add (i * 3)).block < w.heap.size := by
  obtain ⟨ad2, e, h0, _⟩ := at_Ent h (i : Int) (by omega) (by omega)
  cases e
  exact World.block_lt_of_cell? _ _ h0
set_option maxRecDepth 100000 in
set_option maxHeartbeats 4000000 in
theorem refBal_ (A : Option Addr) (c : Nat) (l : List Ent) (w : World) (hr : Kd.C kEnt w A l.length l) (hc : l.length ≤ c) (hl : l.all entB = true) (hn : l.length ≤ 1000) :
    Calls Try.prog 32 #[.slice A l.length c] w fun e w' => ∃ v, e = .returned v ∧ w'.ownsRow w.heap.size 3 1 v 6 (nums .i64 (accL (balR l))) ∧ Up w w' := by
  have hmk := fun W : World => make_ints6 W
  have HR := Aside0.mk hr
  have hm := CF_len hr
  have HL := Aside0.mk hl
  clear hr hl
  go_enter Try.func32, Try.ntmps32
  go_wp2_with fail
  go_loopw [4] (fun i wr => ∃ k : Nat, k ≤ l.length ∧ i = .int .i64 (k : Int) ∧ Aside0 (Bx wr w.heap.size #[.int .i64 (balR (l.take k)).a0, .int .i64 (balR (l.take k)).a1, .int .i64 (balR (l.take k)).a2, .int .i64 (balR (l.take k)).a3, .int .i64 (balR (l.take k)).a4, .int .i64 (balR (l.take k)).a5] 3) ∧ Aside0 (Up w wr)) (fun i _ => l.length - (intOf i).toNat)
  case atStart => exact ⟨0, Nat.zero_le _, rfl, ⟨Bx.new w _ _⟩, ⟨upA⟩⟩
  case round =>
    obtain ⟨k, hk, rfl, hB, hU⟩ := hrel
    clear hmk
    by_cases hlt : k < l.length
    · obtain ⟨ad, e, hx0, hx1, hx2⟩ := at_Ent (C_up HR.out hU.out) k (by omega) (by omega)
      cases e
      simp only [Int.toNat_natCast] at hx0 hx1 hx2
      have hi0 : (0 : Int) ≤ (k : Int) := by omega
      have hi1 : (k : Int) < (l.length : Int) := by omega
      have hT := Aside0.mk (balR_take l k hlt)
      have hbd := balR_bd l HL.out k (by omega)
      have hen := (entB_iff _).1 (List.all_eq_true.1 HL.out _ (rdEnt_mem l k (by omega) (by omega)))
      have hz := hB.out.lt
      have hel := at_Ent_lt HR.out k (by omega)
      have hu := Try.underlying101
      have HRR : Aside0 (∀ W, Up w W → W.cell? (ad.add (k * 3)) = some (.int .i64 (rdEnt l k).f) ∧ W.cell? ⟨(ad.add (k * 3)).block, (ad.add (k * 3)).off + 1, none⟩ = some (.int .i64 (rdEnt l k).t) ∧ W.cell? ⟨(ad.add (k * 3)).block, (ad.add (k * 3)).off + 2, none⟩ = some (.int .i64 (rdEnt l k).a)) := ⟨fun W hW => by
        obtain ⟨ad2, e2, g0, g1, g2⟩ := at_Ent (C_up HR.out hW) k (by omega) (by omega)
        cases e2
        simp only [Int.toNat_natCast] at g0 g1 g2
        exact ⟨g0, g1, g2⟩⟩
      generalize balR (l.take k) = a at *
      generalize rdEnt l k = x at *
      obtain ⟨f, t, d⟩ := x
      simp only at hen hx0 hx1 hx2 HRR
      obtain ⟨i, rfl⟩ : ∃ i : Nat, f = (i : Int) := ⟨f.toNat, by omega⟩
      obtain ⟨j, rfl⟩ : ∃ j : Nat, t = (j : Int) := ⟨t.toNat, by omega⟩
      have hb1 := hbd.get (by omega) i
      have hB2 := hbd.add i (-d) (m := 1000) (by omega)
      have hb2 := hB2.get (by omega) j
      have hw1 : IntKind.i64.wrap (a.get i - d) = a.get i + -d := by rw [IntWalk.i64_in _ (by omega)]; omega
      have hw2 : IntKind.i64.wrap ((a.add i (-d)).get j + d) = (a.add i (-d)).get j + d := IntWalk.i64_in _ (by omega)
      have hi6 : (i : Int) < 6 := by omega
      have hj6 : (j : Int) < 6 := by omega
      have hi0' : 0 ≤ (i : Int) := by omega
      have hj0 : 0 ≤ (j : Int) := by omega
      have HB1 := Aside0.mk (ac_get a i (by omega))
      have HB2 := Aside0.mk (ac_get (a.add i (-d)) j (by omega))
      have HS1 := Aside0.mk (ac_set a i (by omega) (-d))
      have HS2 := Aside0.mk (ac_set (a.add i (-d)) j (by omega) d)
      have hc0 : wr.cell? ⟨w.heap.size, i, none⟩ = some (.int .i64 (a.get i)) := (hB.out.cell i).trans HB1.out
      have hf0 := hB.out.frozen
      clear hB2 hbd
      by_cases hd : 0 < d
      · have hdd : decide (d > 0) = true := by simp; omega
        rw [if_pos hd] at hT
        go_wp2_with fail
        go_still_tail 15, (by kernel_rfl)
        go_wp2_with fail
        have r0 : Bx ((wr.setCell ⟨w.heap.size, i, none⟩ (.int .i64 (a.get i + -d))).drew) w.heap.size #[.int .i64 (a.add i (-d)).a0, .int .i64 (a.add i (-d)).a1, .int .i64 (a.add i (-d)).a2, .int .i64 (a.add i (-d)).a3, .int .i64 (a.add i (-d)).a4, .int .i64 (a.add i (-d)).a5] 3 := by
          have h9 := (hB.out.set i (.int .i64 (a.get i + -d))).up ((Up.refl _).drew)
          rwa [HS1.out] at h9
        have HU1 : Aside0 (Up w ((wr.setCell ⟨w.heap.size, i, none⟩ (.int .i64 (a.get i + -d))).drew)) := ⟨(hU.out.set _ _ (Nat.le_refl _)).drew⟩
        clear hc0 hf0 hx0 hx1 hx2
        obtain ⟨hx0, hx1, hx2⟩ := HRR.out _ HU1.out
        generalize ((wr.setCell ⟨w.heap.size, i, none⟩ (.int .i64 (a.get i + -d))).drew) = W1 at *
        have hc0 : W1.cell? ⟨w.heap.size, j, none⟩ = some (.int .i64 ((a.add i (-d)).get j)) := (r0.cell j).trans HB2.out
        have hf0 := r0.frozen
        have R0 := Aside0.mk r0
        clear r0
        go_still_tail 15, (by kernel_rfl)
        go_wp2_with fail
        have s0 : Bx ((W1.setCell ⟨w.heap.size, j, none⟩ (.int .i64 ((a.add i (-d)).get j + d))).drew) w.heap.size #[.int .i64 ((a.add i (-d)).add j d).a0, .int .i64 ((a.add i (-d)).add j d).a1, .int .i64 ((a.add i (-d)).add j d).a2, .int .i64 ((a.add i (-d)).add j d).a3, .int .i64 ((a.add i (-d)).add j d).a4, .int .i64 ((a.add i (-d)).add j d).a5] 3 := by
          have h9 := (R0.out.set j (.int .i64 ((a.add i (-d)).get j + d))).up ((Up.refl _).drew)
          rwa [HS2.out] at h9
        go_roundw
        case rel =>
          refine ⟨k + 1, by omega, by go_num, ⟨?_⟩, ⟨(HU1.out.set _ _ (Nat.le_refl _)).drew⟩⟩
          rw [hT.out]
          exact s0
        case measure => simp [intOf]; omega
      · have hdd : decide (d > 0) = false := by simp; omega
        rw [if_neg hd] at hT
        go_wp2_with fail
        go_roundw
        case rel => exact ⟨k + 1, by omega, by go_num, ⟨by rw [hT.out]; exact hB.out⟩, hU⟩
        case measure => simp [intOf]; omega
    · obtain rfl : k = l.length := by omega
      have hB2 := hB.out
      rw [List.take_length] at hB2
      have HB := Aside0.mk hB2
      clear hB2
      go_wp2_with fail
      go_ret
      exact ⟨_, rfl, ⟨rfl, .inr ⟨w.heap.size, 6, _, rfl, Nat.le_refl _, HB.out, Nat.le_refl _, by decide, rfl, rfl⟩⟩, hU.out⟩
set_option maxRecDepth 100000 in
set_option maxHeartbeats 4000000 in
theorem lawBal_ (A : Option Addr) (c : Nat) (l : List Ent) (w : World) (hr : Kd.C kEnt w A l.length l) (hc : l.length ≤ c) (hl : l.all entB = true) (hn : l.length ≤ 1000) :
    Calls Try.prog 55 #[.slice A l.length c] w fun e w' => ∃ v, e = .returned v ∧ w'.ownsRow w.heap.size 3 1 v 6 (nums .i64 (accL (allA l))) ∧ Up w w' := by
  have hmk := fun W : World => make_ints6 W
  have HR := Aside0.mk hr
  have hm := CF_len hr
  have HL := Aside0.mk hl
  clear hr hl
  go_enter Try.func55, Try.ntmps55
  go_wp2_with fail
  go_loopw [4] (fun i wr => ∃ k : Nat, k ≤ l.length ∧ i = .int .i64 (k : Int) ∧ Aside0 (Bx wr w.heap.size #[.int .i64 (allA (l.take k)).a0, .int .i64 (allA (l.take k)).a1, .int .i64 (allA (l.take k)).a2, .int .i64 (allA (l.take k)).a3, .int .i64 (allA (l.take k)).a4, .int .i64 (allA (l.take k)).a5] 3) ∧ Aside0 (Up w wr)) (fun i _ => l.length - (intOf i).toNat)
  case atStart => exact ⟨0, Nat.zero_le _, rfl, ⟨Bx.new w _ _⟩, ⟨upA⟩⟩
  case round =>
    obtain ⟨k, hk, rfl, hB, hU⟩ := hrel
    clear hmk
    by_cases hlt : k < l.length
    · obtain ⟨ad, e, hx0, hx1, hx2⟩ := at_Ent (C_up HR.out hU.out) k (by omega) (by omega)
      cases e
      simp only [Int.toNat_natCast] at hx0 hx1 hx2
      have hi0 : (0 : Int) ≤ (k : Int) := by omega
      have hi1 : (k : Int) < (l.length : Int) := by omega
      have hT := Aside0.mk (allA_take l k hlt)
      have hbd := allA_bd l HL.out k (by omega)
      have hen := (entB_iff _).1 (List.all_eq_true.1 HL.out _ (rdEnt_mem l k (by omega) (by omega)))
      have hz := hB.out.lt
      have hel := at_Ent_lt HR.out k (by omega)
      have hu := Try.underlying101
      have HRR : Aside0 (∀ W, Up w W → W.cell? (ad.add (k * 3)) = some (.int .i64 (rdEnt l k).f) ∧ W.cell? ⟨(ad.add (k * 3)).block, (ad.add (k * 3)).off + 1, none⟩ = some (.int .i64 (rdEnt l k).t) ∧ W.cell? ⟨(ad.add (k * 3)).block, (ad.add (k * 3)).off + 2, none⟩ = some (.int .i64 (rdEnt l k).a)) := ⟨fun W hW => by
        obtain ⟨ad2, e2, g0, g1, g2⟩ := at_Ent (C_up HR.out hW) k (by omega) (by omega)
        cases e2
        simp only [Int.toNat_natCast] at g0 g1 g2
        exact ⟨g0, g1, g2⟩⟩
      generalize allA (l.take k) = a at *
      generalize rdEnt l k = x at *
      obtain ⟨f, t, d⟩ := x
      simp only at hen hx0 hx1 hx2 HRR
      obtain ⟨i, rfl⟩ : ∃ i : Nat, f = (i : Int) := ⟨f.toNat, by omega⟩
      obtain ⟨j, rfl⟩ : ∃ j : Nat, t = (j : Int) := ⟨t.toNat, by omega⟩
      have hb1 := hbd.get (by omega) i
      have hB2 := hbd.add i (-d) (m := 1000) (by omega)
      have hb2 := hB2.get (by omega) j
      have hw1 : IntKind.i64.wrap (a.get i - d) = a.get i + -d := by rw [IntWalk.i64_in _ (by omega)]; omega
      have hw2 : IntKind.i64.wrap ((a.add i (-d)).get j + d) = (a.add i (-d)).get j + d := IntWalk.i64_in _ (by omega)
      have hi6 : (i : Int) < 6 := by omega
      have hj6 : (j : Int) < 6 := by omega
      have hi0' : 0 ≤ (i : Int) := by omega
      have hj0 : 0 ≤ (j : Int) := by omega
      have HB1 := Aside0.mk (ac_get a i (by omega))
      have HB2 := Aside0.mk (ac_get (a.add i (-d)) j (by omega))
      have HS1 := Aside0.mk (ac_set a i (by omega) (-d))
      have HS2 := Aside0.mk (ac_set (a.add i (-d)) j (by omega) d)
      have hc0 : wr.cell? ⟨w.heap.size, i, none⟩ = some (.int .i64 (a.get i)) := (hB.out.cell i).trans HB1.out
      have hf0 := hB.out.frozen
      clear hB2 hbd
      go_wp2_with fail
      go_still_tail 15, (by kernel_rfl)
      go_wp2_with fail
      have r0 : Bx ((wr.setCell ⟨w.heap.size, i, none⟩ (.int .i64 (a.get i + -d))).drew) w.heap.size #[.int .i64 (a.add i (-d)).a0, .int .i64 (a.add i (-d)).a1, .int .i64 (a.add i (-d)).a2, .int .i64 (a.add i (-d)).a3, .int .i64 (a.add i (-d)).a4, .int .i64 (a.add i (-d)).a5] 3 := by
        have h9 := (hB.out.set i (.int .i64 (a.get i + -d))).up ((Up.refl _).drew)
        rwa [HS1.out] at h9
      have HU1 : Aside0 (Up w ((wr.setCell ⟨w.heap.size, i, none⟩ (.int .i64 (a.get i + -d))).drew)) := ⟨(hU.out.set _ _ (Nat.le_refl _)).drew⟩
      clear hc0 hf0 hx0 hx1 hx2
      obtain ⟨hx0, hx1, hx2⟩ := HRR.out _ HU1.out
      generalize ((wr.setCell ⟨w.heap.size, i, none⟩ (.int .i64 (a.get i + -d))).drew) = W1 at *
      have hc0 : W1.cell? ⟨w.heap.size, j, none⟩ = some (.int .i64 ((a.add i (-d)).get j)) := (r0.cell j).trans HB2.out
      have hf0 := r0.frozen
      have R0 := Aside0.mk r0
      clear r0
      go_still_tail 15, (by kernel_rfl)
      go_wp2_with fail
      have s0 : Bx ((W1.setCell ⟨w.heap.size, j, none⟩ (.int .i64 ((a.add i (-d)).get j + d))).drew) w.heap.size #[.int .i64 ((a.add i (-d)).add j d).a0, .int .i64 ((a.add i (-d)).add j d).a1, .int .i64 ((a.add i (-d)).add j d).a2, .int .i64 ((a.add i (-d)).add j d).a3, .int .i64 ((a.add i (-d)).add j d).a4, .int .i64 ((a.add i (-d)).add j d).a5] 3 := by
        have h9 := (R0.out.set j (.int .i64 ((a.add i (-d)).get j + d))).up ((Up.refl _).drew)
        rwa [HS2.out] at h9
      go_roundw
      case rel =>
        refine ⟨k + 1, by omega, by go_num, ⟨?_⟩, ⟨(HU1.out.set _ _ (Nat.le_refl _)).drew⟩⟩
        rw [hT.out]
        exact s0
      case measure => simp [intOf]; omega
    · obtain rfl : k = l.length := by omega
      have hB2 := hB.out
      rw [List.take_length] at hB2
      have HB := Aside0.mk hB2
      clear hB2
      go_wp2_with fail
      go_ret
      exact ⟨_, rfl, ⟨rfl, .inr ⟨w.heap.size, 6, _, rfl, Nat.le_refl _, HB.out, Nat.le_refl _, by decide, rfl, rfl⟩⟩, hU.out⟩
end Go.Proofs.Ytdlekcdedahbhaa
namespace Go.Proofs.Ytdlekcdedahbhaa.D
open Go.RowKit Go.Proofs.YtdlekcdedahbhaaW.PrintWords Go.Proofs.YtdlekcdedahbhaaW.PrintLast Go.Proofs.YtdlekcdedahbhaaW.PrintMore
attribute [local go_sem] max2_int min2_int max_two min_two max_three min_three max_four min_four   -- for this text's walks alone
set_option linter.unusedVariables false
set_option linter.unusedSimpArgs false
def errW : Option Int → Value
  | none => .nilIface
  | some c => .iface 0 (.int .i64 c)
theorem errW_none : errW none = .nilIface := rfl
theorem errW_some (c : Int) : errW (some c) = .iface 0 (.int .i64 c) := rfl
theorem info3 : (Try.prog.info? 3).map (fun i => (i.zero, i.size, i.bytes)) = some (some (.int .i64 0), 1, 8) := by kernel_rfl
theorem info101 : (Try.prog.info? 101).map (fun i => (i.zero, i.size, i.bytes)) = some (some (.agg #[(.int .i64 0), (.int .i64 0), (.int .i64 0)]), 3, 24) := by kernel_rfl
def rd_L1 (xs : List (List Int)) (i : Int) : (List Int) := xs.getD i.toNat ([] : List Int)
theorem at_L1 {w : World} {A : Option Addr} {n : Nat} {xs : List (List Int)} (h : Kd.C (Kd.slice 3 (Kd.int .i64)) w A n xs) (i : Int) (h0 : 0 ≤ i) (h1 : i < n) : ∃ ad A0 c0, A = some ad ∧ w.cell? (ad.add i.toNat) = some (.slice A0 (rd_L1 xs i).length c0) ∧ (rd_L1 xs i).length ≤ c0 ∧ (Kd.int .i64).C w A0 (rd_L1 xs i).length (rd_L1 xs i) := by
  obtain ⟨ad, c, e, _, hK, hc0⟩ := Kd.C_get h ([] : List Int) i h0 h1
  have hc : ∀ j u, c[j]? = some u → w.cell? (ad.add (i.toNat * 1 + j)) = some u := hc0
  obtain ⟨A0, c0, rfl, l0, g0⟩ := hK
  exact ⟨ad, A0, c0, e, by have hq := hc 0 _ rfl; rwa [Nat.mul_one, Nat.add_zero] at hq, l0, g0⟩
structure S101 where
  f0 : Int
  f1 : Int
  f2 : Int
def z101 : S101 := ⟨(0 : Int), (0 : Int), (0 : Int)⟩
def k101 : Kd S101 := Kd.iso (Kd.pair (Kd.int .i64) (Kd.pair (Kd.int .i64) (Kd.int .i64))) (fun x : S101 => (x.f0, x.f1, x.f2))
theorem k101_open {w : World} {x : S101} {cs : List Value} (h : k101.K w x cs) : cs = [.int .i64 x.f0, .int .i64 x.f1, .int .i64 x.f2] := by
  obtain ⟨_, _, rfl, rfl, ⟨_, _, rfl, rfl, rfl⟩⟩ := h
  exact rfl
theorem k101_openM {w : World} {base : Nat} {ok : Nat → Prop} {x : S101} {cs : List Value} (h : k101.M w base ok x cs) : cs = [.int .i64 x.f0, .int .i64 x.f1, .int .i64 x.f2] := by
  obtain ⟨_, _, rfl, rfl, ⟨_, _, rfl, rfl, rfl⟩⟩ := h
  exact rfl
theorem k101_mk (w : World) (x : S101)  : k101.K w x [.int .i64 x.f0, .int .i64 x.f1, .int .i64 x.f2] := ⟨[.int .i64 x.f0], [.int .i64 x.f1, .int .i64 x.f2], rfl, rfl, ⟨[.int .i64 x.f1], [.int .i64 x.f2], rfl, rfl, rfl⟩⟩
theorem k101_mkM (w : World) (base : Nat) (ok : Nat → Prop) (x : S101)  : k101.M w base ok x [.int .i64 x.f0, .int .i64 x.f1, .int .i64 x.f2] := ⟨[.int .i64 x.f0], [.int .i64 x.f1, .int .i64 x.f2], rfl, rfl, ⟨[.int .i64 x.f1], [.int .i64 x.f2], rfl, rfl, rfl⟩⟩
def rd_T101 (xs : List S101) (i : Int) : S101 := xs.getD i.toNat z101
theorem at_T101 {w : World} {A : Option Addr} {n : Nat} {xs : List S101} (h : Kd.C k101 w A n xs) (i : Int) (h0 : 0 ≤ i) (h1 : i < n) : ∃ ad , A = some ad ∧ w.cell? (ad.add (i.toNat * 3)) = some (.int .i64 (rd_T101 xs i).f0) ∧ w.cell? ⟨(ad.add (i.toNat * 3)).block, (ad.add (i.toNat * 3)).off + 1, none⟩ = some (.int .i64 (rd_T101 xs i).f1) ∧ w.cell? ⟨(ad.add (i.toNat * 3)).block, (ad.add (i.toNat * 3)).off + 2, none⟩ = some (.int .i64 (rd_T101 xs i).f2) := by
  obtain ⟨ad, c, e, _, hK, hc0⟩ := Kd.C_get h z101 i h0 h1
  have hc : ∀ j u, c[j]? = some u → w.cell? (ad.add (i.toNat * 3 + j)) = some u := hc0
  obtain rfl := k101_open hK
  exact ⟨ad, e, hc 0 _ rfl, by rw [← add_field _ _ 1 (by omega)]; exact hc 1 _ rfl, by rw [← add_field _ _ 2 (by omega)]; exact hc 2 _ rfl⟩
end Go.Proofs.Ytdlekcdedahbhaa.D
namespace Go.Proofs.Ytdlekcdedahbhaa.D
open Go.RowKit Go.Proofs.YtdlekcdedahbhaaW.PrintWords Go.Proofs.YtdlekcdedahbhaaW.PrintLast Go.Proofs.YtdlekcdedahbhaaW.PrintMore
attribute [local go_sem] max2_int min2_int max_two min_two max_three min_three max_four min_four   -- for this text's walks alone
set_option linter.unusedVariables false
set_option linter.unusedSimpArgs false
def fee_within.f (a0 : Int) (a1 : Int) (l2 : List Int) : Option (Bool) := some (inB a0 a1 l2)
theorem fee_within.calls (a0 : Int) (a1 : Int) (A2 : Option Addr) (c2 : Nat) (l2 : List Int) (r : Bool) (w : World) (hr2 : Kd.C (Kd.int .i64) w A2 l2.length l2) (hc2 : l2.length ≤ c2) (h : fee_within.f a0 a1 l2 = some r) :
    Calls Try.prog 58 #[.int .i64 a0, .int .i64 a1, .slice A2 l2.length c2] w fun e w' => e = .returned (.bool r) ∧ Below w.heap.size w w' := by
  simp only [fee_within.f, Option.some.injEq] at h
  obtain rfl := h
  exact within a0 a1 A2 c2 _ l2 w rfl hr2 hc2
mutual
def fee_Dividend.l0 : Nat → List Int → Int → Int → List Int → Int → Int → Option (List Int × Int × Int)
  | 0, _, _, _, _, _, _ => none
  | k + 1, x0, x1, x7, x29, x30, x31 => if x31 < x30 then (if 0 ≤ x31 then (if x31 < (x29.length : Int) then (fee_Dividend.l0 k x0 x1 (wrap64 (x7 + (rd x29 x31))) x29 x30 (wrap64 (x31 + 1))) else (none)) else (none)) else (fee_Dividend.l1 k x1 ([] : List Int) x1 x7 x0 (x0.length : Int) 0)
def fee_Dividend.l1 : Nat → Int → List Int → Int → Int → List Int → Int → Int → Option (List Int × Int × Int)
  | 0, _, _, _, _, _, _, _ => none
  | k + 1, x1, x4, x5, x7, x40, x41, x42 => if x42 < x41 then (if 0 ≤ x42 then (if x42 < (x40.length : Int) then (if x7 = 0 then (none) else (if x4.length < 17592186044416 then (fee_Dividend.l1 k x1 (x4 ++ [wrap64 (Int.tdiv (wrap64 (x1 * (rd x40 x42))) x7)]) (wrap64 (x5 - (wrap64 (Int.tdiv (wrap64 (x1 * (rd x40 x42))) x7)))) x7 x40 x41 (wrap64 (x42 + 1))) else (none))) else (none)) else (none)) else (some (x4, x5, 0))
end
def fee_Dividend.f (k : Nat) (l0 : List Int) (a1 : Int) : Option (List Int × Int × Int) := if (l0.length : Int) > 6 then (some (([] : List Int), 0, 5)) else (if (l0.length : Int) = 0 then (some (([] : List Int), 0, 7)) else ((fee_within.f 1 1000 l0).bind fun t101 => (if t101 = true then ((fee_within.f (-100000) 100000 (([a1] : List Int))).bind fun t105 => (if t105 = true then (fee_Dividend.l0 k l0 a1 0 l0 (l0.length : Int) 0) else (some (([] : List Int), 0, 3)))) else (some (([] : List Int), 0, 2)))))
set_option maxHeartbeats 8000000 in
set_option maxRecDepth 100000 in
theorem fee_Dividend.calls (k : Nat) (A0 : Option Addr) (c0 : Nat) (l0 : List Int) (a1 : Int) (r1 : List Int) (r2 : Int) (r3 : Int) (w : World) (hr0 : Kd.C (Kd.int .i64) w A0 l0.length l0) (hc0 : l0.length ≤ c0) (h : fee_Dividend.f k l0 a1 = some (r1, r2, r3)) :
    Calls Try.prog 45 #[.slice A0 l0.length c0, .int .i64 a1] w fun e w' => ∃ v0_ : Value, e = .returned (.tuple #[v0_, .int .i64 r2, .int .i64 r3]) ∧ Kd.R (Kd.int .i64) 3 w' w.heap.size (fun _ => True) v0_ r1 ∧ Below w.heap.size w w' := by
  have HR0 := Aside0.mk hr0
  have HC0 := Aside0.mk hc0
  clear hr0 hc0
  have HB := Aside0.mk (Below.refl w.heap.size w)
  have H : (if (l0.length : Int) > 6 then (some (([] : List Int), 0, 5)) else (if (l0.length : Int) = 0 then (some (([] : List Int), 0, 7)) else ((fee_within.f 1 1000 l0).bind fun t101 => (if t101 = true then ((fee_within.f (-100000) 100000 (([a1] : List Int))).bind fun t105 => (if t105 = true then (fee_Dividend.l0 k l0 a1 0 l0 (l0.length : Int) 0) else (some (([] : List Int), 0, 3)))) else (some (([] : List Int), 0, 2)))))) = some (r1, r2, r3) := h
  clear h
  by_cases c3 : (l0.length : Int) > 6
  · rw [if_pos c3] at H
    have c3b0 : decide (6 < (l0.length : Int)) = true := decide_eq_true c3
    have c3b1 : decide (6 < l0.length) = true := decide_eq_true (by omega)
    clear c3
    simp only [Option.some.injEq, Prod.mk.injEq] at H
    obtain ⟨rfl, rfl, rfl⟩ := H
    go_enter Try.func45, Try.ntmps45
    go_wp2
    go_ret3
    exact ⟨_, by first | rfl | (simp [errW_none, errW_some] <;> rfl) | (simp [*, errW_none, errW_some] <;> rfl), by first | exact Kd.R_nil _ _ _ _ _ | exact Kd.N_nil _ _ _ _ _ | exact Kd.V_nil _ _ _ _ _ | exact Kd.Q_nil _ _ _ _ _ | exact Kd.S_nil _ _ _ _ _, by repeat (first | (with_reducible first | exact HB.out | apply below_alloc | apply pw_below_drewN | apply below_drew1) | exact HB.out)⟩
  · rw [if_neg c3] at H
    have c3b0 : decide (6 < (l0.length : Int)) = false := decide_eq_false c3
    have c3b1 : decide (6 < l0.length) = false := decide_eq_false (by omega)
    clear c3
    by_cases c4 : (l0.length : Int) = 0
    · rw [if_pos c4] at H
      have c4b0 : ((l0.length : Int) == 0) = true := beq_iff_eq.mpr c4
      have c4b1 : ((l0.length : Int) != 0) = false := bne_eq_false_iff_eq.mpr c4
      clear c4
      simp only [Option.some.injEq, Prod.mk.injEq] at H
      obtain ⟨rfl, rfl, rfl⟩ := H
      go_enter Try.func45, Try.ntmps45
      go_wp2
      go_ret3
      exact ⟨_, by first | rfl | (simp [errW_none, errW_some] <;> rfl) | (simp [*, errW_none, errW_some] <;> rfl), by first | exact Kd.R_nil _ _ _ _ _ | exact Kd.N_nil _ _ _ _ _ | exact Kd.V_nil _ _ _ _ _ | exact Kd.Q_nil _ _ _ _ _ | exact Kd.S_nil _ _ _ _ _, by repeat (first | (with_reducible first | exact HB.out | apply below_alloc | apply pw_below_drewN | apply below_drew1) | exact HB.out)⟩
    · rw [if_neg c4] at H
      have c4b0 : ((l0.length : Int) == 0) = false := beq_eq_false_iff_ne.mpr c4
      have c4b1 : ((l0.length : Int) != 0) = true := bne_iff_ne.mpr c4
      have c4b2 : ¬ (l0 = []) := fun h_ => c4 (by rw [h_]; rfl)
      replace H := Option.bind_eq_some_iff.mp H
      obtain ⟨t101, A50, H⟩ := H
      replace H : (if t101 = true then ((fee_within.f (-100000) 100000 (([a1] : List Int))).bind fun t105 => (if t105 = true then (fee_Dividend.l0 k l0 a1 0 l0 (l0.length : Int) 0) else (some (([] : List Int), 0, 3)))) else (some (([] : List Int), 0, 2))) = some (r1, r2, r3) := H
      have A5 := Aside0.mk A50
      clear A50
      by_cases c6 : t101 = true
      · subst c6
        have H1 : ((fee_within.f (-100000) 100000 (([a1] : List Int))).bind fun t105 => (if t105 = true then (fee_Dividend.l0 k l0 a1 0 l0 (l0.length : Int) 0) else (some (([] : List Int), 0, 3)))) = some (r1, r2, r3) := by rw [if_pos rfl] at H; exact H
        clear H
        have H := H1
        clear H1
        obtain ⟨y102, hy102⟩ : ∃ y_ : List Int, y_ = (([a1] : List Int)) := ⟨_, rfl⟩
        replace H : ((fee_within.f (-100000) 100000 y102).bind fun t105 => (if t105 = true then (fee_Dividend.l0 k l0 a1 0 l0 (l0.length : Int) 0) else (some (([] : List Int), 0, 3)))) = some (r1, r2, r3) := by first | (rw [hy102]; with_reducible exact H) | (have H2_ := (Option.bind_some _ _).symm.trans H; rw [hy102]; with_reducible exact H2_) | (have H2_ := (Option.bind_some _ _).symm.trans H; with_reducible exact H2_) | with_reducible exact H | (rw [hy102]; exact H) | exact H
        have Ny102 := Aside0.mk hy102
        clear hy102
        replace H := Option.bind_eq_some_iff.mp H
        obtain ⟨t105, A70, H⟩ := H
        replace H : (if t105 = true then (fee_Dividend.l0 k l0 a1 0 l0 (l0.length : Int) 0) else (some (([] : List Int), 0, 3))) = some (r1, r2, r3) := H
        have A7 := Aside0.mk A70
        clear A70
        by_cases c8 : t105 = true
        · subst c8
          have H1 : (fee_Dividend.l0 k l0 a1 0 l0 (l0.length : Int) 0) = some (r1, r2, r3) := by rw [if_pos rfl] at H; exact H
          clear H
          have H := H1
          clear H1
          have H' := Aside0.mk H
          clear H
          go_enter Try.func45, Try.ntmps45
          go_wp2_with (first | ((with_reducible refine gate_callee (f := 58) rfl ?_); refine goesL_ (some 22) rfl rfl Try.func58 (by kernel_rfl) rfl #[.int .i64 1, .int .i64 1000, .slice A0 l0.length c0] rfl (by (try simp only [List.map_toArray, List.map_cons, List.map_nil]); first | done | rfl | (simp only [List.length_drop, List.length_take]; rfl)) ?_; (with_reducible refine (fee_within.calls 1 1000 _ _ l0 true _ ?side1 ?side2 A5.out).mono ?_); (case side1 => repeat (first | exact HR0.out | (with_reducible refine Kd.C_alloc ?_ _) | (with_reducible refine Kd.C_drewN ?_ _) | (with_reducible refine Kd.C_drew ?_))); (case side2 => exact HC0.out); rintro e w9 ⟨rfl, hb⟩; refine ⟨_, rfl, ?_⟩; have n0_ := Aside0.mk (below_step (by repeat (first | (with_reducible first | exact HB.out | apply below_alloc | apply pw_below_drewN | apply below_drew1) | exact HB.out)) hb); clear HB; have HB := n0_; clear n0_; (try clear hb); (try clear hb2); (try clear hk); (try clear hi)) | ((with_reducible refine gate_dst (N := 26) rfl ?_); refine Kd.R_lit (Kd.int .i64) _ 3 ?hg (N := 26) ?hd (xs := ([a1] : List Int)) (inner := [.int .i64 a1]) (ok := fun _ => True) (okp := fun _ => True) ?hr ?hp (fun _ hk => hk) trivial (Below.refl _ _) (Nat.le_refl _) (by simp) ?_; (case hd => rfl); (case hg => rfl); (case hr => first | (go_simp; done) | (go_simp; rfl)); (case hp => exact (Reps.one (show Kd.M (Kd.int .i64) _ _ _ a1 [.int .i64 a1] from rfl) (Reps.none _ _))); intro v103 w10 ho11 hb hg_ hnew_; clear hg_ hnew_; (first | rw [← Ny102.out] at ho11 | (simp only [Int.reduceToNat] at ho11; rw [← Ny102.out] at ho11)); have n0_ := Aside0.mk (Kd.R_lower ho11 (below_size (by repeat (first | (with_reducible first | exact HB.out | apply below_alloc | apply pw_below_drewN | apply below_drew1) | exact HB.out)))); have n1_ := Aside0.mk (below_step (by repeat (first | (with_reducible first | exact HB.out | apply below_alloc | apply pw_below_drewN | apply below_drew1) | exact HB.out)) hb); clear HB; have HO104 := n0_; have HB := n1_; clear n0_ n1_; clear hb ho11; obtain ⟨Ao12, co12, eo12⟩ := Kd.R_slice HO104.out; subst eo12) | ((with_reducible refine gate_callee (f := 58) rfl ?_); refine goesL_ (some 27) rfl rfl Try.func58 (by kernel_rfl) rfl #[.int .i64 (-100000), .int .i64 100000, .slice Ao12 y102.length co12] rfl (by (try simp only [List.map_toArray, List.map_cons, List.map_nil]); first | done | rfl | (simp only [List.length_drop, List.length_take]; rfl)) ?_; (with_reducible refine (fee_within.calls (-100000) 100000 _ _ y102 true _ ?side1 ?side2 A7.out).mono ?_); (case side1 => repeat (first | exact (Kd.R_reads' HO104.out).2.2 | (with_reducible refine Kd.C_alloc ?_ _) | (with_reducible refine Kd.C_drewN ?_ _) | (with_reducible refine Kd.C_drew ?_))); (case side2 => exact (Kd.R_reads' HO104.out).2.1); rintro e w13 ⟨rfl, hb⟩; refine ⟨_, rfl, ?_⟩; have n0_ := Aside0.mk (Kd.R_below (by (with_reducible repeat (first | apply Kd.R_alloc | apply Kd.R_drewN | apply Kd.R_drew)); exact HO104.out) hb); have n1_ := Aside0.mk (below_step (by repeat (first | (with_reducible first | exact HB.out | apply below_alloc | apply pw_below_drewN | apply below_drew1) | exact HB.out)) hb); clear HO104; clear HB; have HO104 := n0_; have HB := n1_; clear n0_ n1_; (try clear hb); (try clear hb2); (try clear hk); (try clear hi)))
          go_loopg [7, 31] k (fun kq v7 v31 w' => ∃ (x7_1 : Int) (x31_1 : Int), v7 = .int .i64 x7_1 ∧ v31 = .int .i64 x31_1 ∧ Aside0 (fee_Dividend.l0 kq l0 a1 x7_1 l0 (l0.length : Int) x31_1 = some (r1, r2, r3)) ∧ Aside0 (kq ≤ k) ∧ Aside0 (Below w.heap.size w w'))
          case atStart => exact ⟨(0), (0), (by first | rfl | (simp; done) | (simp [*]; done)), (by first | rfl | (simp; done) | (simp [*]; done)), H', ⟨Nat.le_refl _⟩, ⟨by repeat (first | (with_reducible first | exact HB.out | apply below_alloc | apply pw_below_drewN | apply below_drew1) | exact HB.out)⟩⟩
          case round =>
            clear H'
            try clear p2
            try clear c3
            try clear c3b0
            try clear c3b1
            try clear c4
            try clear c4b0
            try clear c4b1
            try clear c4b2
            try clear c5
            try clear c6
            try clear c8
            obtain ⟨x7_1, x31_1, rfl, rfl, HA, HK1, HB⟩ := hrel
            cases gk with
            | zero => exact absurd HA.out (by simp [fee_Dividend.l0])
            | succ k1 =>
              have H := HA.out
              clear HA
              simp only [fee_Dividend.l0] at H
              by_cases c14 : x31_1 < (l0.length : Int)
              · rw [if_pos c14] at H
                have c14b0 : decide (x31_1 < (l0.length : Int)) = true := decide_eq_true c14
                clear c14
                by_cases c15 : 0 ≤ x31_1
                · rw [if_pos c15] at H
                  have c15b0 : decide (0 ≤ x31_1) = true := decide_eq_true c15
                  clear c15
                  by_cases c16 : x31_1 < (l0.length : Int)
                  · rw [if_pos c16] at H
                    have c16b0 : decide (x31_1 < (l0.length : Int)) = true := decide_eq_true c16
                    clear c16
                    have H' := Aside0.mk H
                    clear H
                    have p106 : 0 ≤ (x31_1 : Int) := of_decide_eq_true (by first | (with_reducible assumption) | assumption)
                    have q106 : x31_1 < (l0.length : Int) := of_decide_eq_true (by first | (with_reducible assumption) | assumption)
                    obtain ⟨ad106, e106, hx106_0⟩ := Kd.at_int HR0.out x31_1 p106 q106
                    cases e106
                    replace hx106_0 := (HB.out.cell (World.block_lt_of_cell? w _ hx106_0)).trans hx106_0
                    replace p106 := eq_true p106
                    replace q106 := eq_true q106
                    go_wp2
                    go_roundg k1
                    case measure => have := HK1.out; omega
                    case rel => exact ⟨(wrap64 (x7_1 + (rd l0 x31_1))), (wrap64 (x31_1 + 1)), (by first | rfl | (simp; done) | (simp [*]; done)), (by first | rfl | (simp; done) | (simp [*]; done)), H', ⟨by have := HK1.out; omega⟩, ⟨by repeat (first | (with_reducible first | exact HB.out | apply below_alloc | apply pw_below_drewN | apply below_drew1) | exact HB.out)⟩⟩
                  · rw [if_neg c16] at H
                    exact absurd H (by simp)
                · rw [if_neg c15] at H
                  exact absurd H (by simp)
              · rw [if_neg c14] at H
                have c14b0 : decide (x31_1 < (l0.length : Int)) = false := decide_eq_false c14
                clear c14
                have H' := Aside0.mk H
                clear H
                go_wp2
                go_loopg [4, 5, 42] k1 (fun kq v4 v5 v42 w' => ∃ (x4_2 : List Int) (x5_2 : Int) (x42_2 : Int), v5 = .int .i64 x5_2 ∧ v42 = .int .i64 x42_2 ∧ Aside0 (fee_Dividend.l1 kq a1 x4_2 x5_2 x7_1 l0 (l0.length : Int) x42_2 = some (r1, r2, r3)) ∧ Aside0 (kq ≤ k1) ∧ Aside0 (Kd.R (Kd.int .i64) 3 w' w.heap.size (fun _ => True) v4 x4_2) ∧ Aside0 (Below w.heap.size w w'))
                case atStart => exact ⟨(([] : List Int)), (a1), (0), (by first | rfl | (simp; done) | (simp [*]; done)), (by first | rfl | (simp; done) | (simp [*]; done)), H', ⟨Nat.le_refl _⟩, ⟨by first | exact Kd.R_nil _ _ _ _ _ | exact Kd.N_nil _ _ _ _ _ | exact Kd.V_nil _ _ _ _ _ | exact Kd.Q_nil _ _ _ _ _ | exact Kd.S_nil _ _ _ _ _⟩, ⟨by repeat (first | (with_reducible first | exact HB.out | apply below_alloc | apply pw_below_drewN | apply below_drew1) | exact HB.out)⟩⟩
                case round =>
                  clear H'
                  try clear c1
                  try clear p1
                  try clear q1
                  try clear hx1
                  try clear p2
                  try clear c3
                  try clear c3b0
                  try clear c3b1
                  try clear c4
                  try clear c4b0
                  try clear c4b1
                  try clear c4b2
                  try clear c5
                  try clear c6
                  try clear p6
                  try clear c8
                  try clear p10
                  try clear q10
                  try clear hx10
                  try clear c14
                  try clear c14b0
                  try clear c15
                  try clear c15b0
                  try clear c16
                  try clear c16b0
                  try clear hx106_0
                  try clear p106
                  try clear p2
                  try clear q106
                  obtain ⟨x4_2, x5_2, x42_2, rfl, rfl, HA, HK2, HO_4, HB⟩ := hrel
                  cases gk with
                  | zero => exact absurd HA.out (by simp [fee_Dividend.l1])
                  | succ k2 =>
                    have H := HA.out
                    clear HA
                    simp only [fee_Dividend.l1] at H
                    by_cases c17 : x42_2 < (l0.length : Int)
                    · rw [if_pos c17] at H
                      have c17b0 : decide (x42_2 < (l0.length : Int)) = true := decide_eq_true c17
                      clear c17
                      by_cases c18 : 0 ≤ x42_2
                      · rw [if_pos c18] at H
                        have c18b0 : decide (0 ≤ x42_2) = true := decide_eq_true c18
                        clear c18
                        by_cases c19 : x42_2 < (l0.length : Int)
                        · rw [if_pos c19] at H
                          have c19b0 : decide (x42_2 < (l0.length : Int)) = true := decide_eq_true c19
                          clear c19
                          by_cases c20 : x7_1 = 0
                          · rw [if_pos c20] at H
                            exact absurd H (by simp)
                          · rw [if_neg c20] at H
                            have c20b0 : (x7_1 == 0) = false := beq_eq_false_iff_ne.mpr c20
                            have c20b1 : (x7_1 != 0) = true := bne_iff_ne.mpr c20
                            by_cases c21 : x4_2.length < 17592186044416
                            · rw [if_pos c21] at H
                              have LMc21 := Aside0.mk c21
                              clear c21
                              obtain ⟨y108, hy108⟩ : ∃ y_ : List Int, y_ = (x4_2 ++ [wrap64 (Int.tdiv (wrap64 (a1 * (rd l0 x42_2))) x7_1)]) := ⟨_, rfl⟩
                              replace H : (fee_Dividend.l1 k2 a1 y108 (wrap64 (x5_2 - (wrap64 (Int.tdiv (wrap64 (a1 * (rd l0 x42_2))) x7_1)))) x7_1 l0 (l0.length : Int) (wrap64 (x42_2 + 1))) = some (r1, r2, r3) := by first | (rw [hy108]; with_reducible exact H) | (have H2_ := (Option.bind_some _ _).symm.trans H; rw [hy108]; with_reducible exact H2_) | (have H2_ := (Option.bind_some _ _).symm.trans H; with_reducible exact H2_) | with_reducible exact H | (rw [hy108]; exact H) | exact H
                              have Ny108 := Aside0.mk hy108
                              clear hy108
                              have H' := Aside0.mk H
                              clear H
                              have p107 : 0 ≤ (x42_2 : Int) := of_decide_eq_true (by first | (with_reducible assumption) | assumption)
                              have q107 : x42_2 < (l0.length : Int) := of_decide_eq_true (by first | (with_reducible assumption) | assumption)
                              obtain ⟨ad107, e107, hx107_0⟩ := Kd.at_int HR0.out x42_2 p107 q107
                              cases e107
                              replace hx107_0 := (HB.out.cell (World.block_lt_of_cell? w _ hx107_0)).trans hx107_0
                              replace p107 := eq_true p107
                              replace q107 := eq_true q107
                              go_wp2_with (first | ((with_reducible refine gate_builtin (b := .append) (xs := #[.tmp 46, .tmp 52]) rfl ?_); at_builtin; refine Kd.R_append (Kd.int .i64) (w0 := w) w.heap.size rfl (.tmp 46) (.tmp 52) 35 3 (.int .i64 0) 8 rfl Try.underlying35 info3 rfl (by decide) (by omega) u4 x4_2 (wrap64 (Int.tdiv (wrap64 (a1 * (rd l0 x42_2))) x7_1)) [.int .i64 (wrap64 (Int.tdiv (wrap64 (a1 * (rd l0 x42_2))) x7_1))] (fun _ => True) (fun _ => False) rfl rfl ?aP (fun _ hk => hk.elim) ?aF ?aO ?aB ?aS ?aL ?_; (case aP => exact rfl); (case aB => exact (by repeat (first | (with_reducible first | exact HB.out | apply below_alloc | apply pw_below_drewN | apply below_drew1) | exact HB.out))); (case aF => exact (fun _ _ => trivial)); (case aO => exact (by (with_reducible repeat (first | apply Kd.R_alloc | apply Kd.R_drewN | apply Kd.R_drew)); exact HO_4.out)); (case aS => exact (below_size (by repeat (first | (with_reducible first | exact HB.out | apply below_alloc | apply pw_below_drewN | apply below_drew1) | exact HB.out)))); (case aL => have := LMc21.out; omega); intro v109 w22 ho hb hg hat; rw [← Ny108.out] at ho; have n0_ := Aside0.mk (hb); have n1_ := Aside0.mk (ho); clear HB; clear HO_4; have HB := n0_; have HO110 := n1_; clear n0_ n1_; clear ho hb hg hat))
                              go_roundg k2
                              case measure => have := HK1.out; have := HK2.out; omega
                              case rel => exact ⟨(y108), (wrap64 (x5_2 - (wrap64 (Int.tdiv (wrap64 (a1 * (rd l0 x42_2))) x7_1)))), (wrap64 (x42_2 + 1)), (by first | rfl | (simp; done) | (simp [*]; done)), (by first | rfl | (simp; done) | (simp [*]; done)), H', ⟨by have := HK1.out; have := HK2.out; omega⟩, ⟨by (with_reducible repeat (first | apply Kd.R_alloc | apply Kd.R_drewN | apply Kd.R_drew)); exact HO110.out⟩, ⟨by repeat (first | (with_reducible first | exact HB.out | apply below_alloc | apply pw_below_drewN | apply below_drew1) | exact HB.out)⟩⟩
                            · rw [if_neg c21] at H
                              exact absurd H (by simp)
                        · rw [if_neg c19] at H
                          exact absurd H (by simp)
                      · rw [if_neg c18] at H
                        exact absurd H (by simp)
                    · rw [if_neg c17] at H
                      have c17b0 : decide (x42_2 < (l0.length : Int)) = false := decide_eq_false c17
                      clear c17
                      simp only [Option.some.injEq, Prod.mk.injEq] at H
                      obtain ⟨rfl, rfl, rfl⟩ := H
                      go_wp2
                      go_ret3
                      exact ⟨_, by first | rfl | (simp [errW_none, errW_some] <;> rfl) | (simp [*, errW_none, errW_some] <;> rfl), by (with_reducible repeat (first | apply Kd.R_alloc | apply Kd.R_drewN | apply Kd.R_drew)); exact HO_4.out, by repeat (first | (with_reducible first | exact HB.out | apply below_alloc | apply pw_below_drewN | apply below_drew1) | exact HB.out)⟩
        · replace c8 := Bool.eq_false_iff.mpr c8
          subst c8
          have H1 : (some (([] : List Int), 0, 3)) = some (r1, r2, r3) := by rw [if_neg (show ¬ (false = true) by decide)] at H; exact H
          clear H
          have H := H1
          clear H1
          simp only [Option.some.injEq, Prod.mk.injEq] at H
          obtain ⟨rfl, rfl, rfl⟩ := H
          go_enter Try.func45, Try.ntmps45
          go_wp2_with (first | ((with_reducible refine gate_callee (f := 58) rfl ?_); refine goesL_ (some 22) rfl rfl Try.func58 (by kernel_rfl) rfl #[.int .i64 1, .int .i64 1000, .slice A0 l0.length c0] rfl (by (try simp only [List.map_toArray, List.map_cons, List.map_nil]); first | done | rfl | (simp only [List.length_drop, List.length_take]; rfl)) ?_; (with_reducible refine (fee_within.calls 1 1000 _ _ l0 true _ ?side1 ?side2 A5.out).mono ?_); (case side1 => repeat (first | exact HR0.out | (with_reducible refine Kd.C_alloc ?_ _) | (with_reducible refine Kd.C_drewN ?_ _) | (with_reducible refine Kd.C_drew ?_))); (case side2 => exact HC0.out); rintro e w23 ⟨rfl, hb⟩; refine ⟨_, rfl, ?_⟩; have n0_ := Aside0.mk (below_step (by repeat (first | (with_reducible first | exact HB.out | apply below_alloc | apply pw_below_drewN | apply below_drew1) | exact HB.out)) hb); clear HB; have HB := n0_; clear n0_; (try clear hb); (try clear hb2); (try clear hk); (try clear hi)) | ((with_reducible refine gate_dst (N := 26) rfl ?_); refine Kd.R_lit (Kd.int .i64) _ 3 ?hg (N := 26) ?hd (xs := ([a1] : List Int)) (inner := [.int .i64 a1]) (ok := fun _ => True) (okp := fun _ => True) ?hr ?hp (fun _ hk => hk) trivial (Below.refl _ _) (Nat.le_refl _) (by simp) ?_; (case hd => rfl); (case hg => rfl); (case hr => first | (go_simp; done) | (go_simp; rfl)); (case hp => exact (Reps.one (show Kd.M (Kd.int .i64) _ _ _ a1 [.int .i64 a1] from rfl) (Reps.none _ _))); intro v103 w24 ho25 hb hg_ hnew_; clear hg_ hnew_; (first | rw [← Ny102.out] at ho25 | (simp only [Int.reduceToNat] at ho25; rw [← Ny102.out] at ho25)); have n0_ := Aside0.mk (Kd.R_lower ho25 (below_size (by repeat (first | (with_reducible first | exact HB.out | apply below_alloc | apply pw_below_drewN | apply below_drew1) | exact HB.out)))); have n1_ := Aside0.mk (below_step (by repeat (first | (with_reducible first | exact HB.out | apply below_alloc | apply pw_below_drewN | apply below_drew1) | exact HB.out)) hb); clear HB; have HO104 := n0_; have HB := n1_; clear n0_ n1_; clear hb ho25; obtain ⟨Ao26, co26, eo26⟩ := Kd.R_slice HO104.out; subst eo26) | ((with_reducible refine gate_callee (f := 58) rfl ?_); refine goesL_ (some 27) rfl rfl Try.func58 (by kernel_rfl) rfl #[.int .i64 (-100000), .int .i64 100000, .slice Ao26 y102.length co26] rfl (by (try simp only [List.map_toArray, List.map_cons, List.map_nil]); first | done | rfl | (simp only [List.length_drop, List.length_take]; rfl)) ?_; (with_reducible refine (fee_within.calls (-100000) 100000 _ _ y102 false _ ?side1 ?side2 A7.out).mono ?_); (case side1 => repeat (first | exact (Kd.R_reads' HO104.out).2.2 | (with_reducible refine Kd.C_alloc ?_ _) | (with_reducible refine Kd.C_drewN ?_ _) | (with_reducible refine Kd.C_drew ?_))); (case side2 => exact (Kd.R_reads' HO104.out).2.1); rintro e w27 ⟨rfl, hb⟩; refine ⟨_, rfl, ?_⟩; have n0_ := Aside0.mk (Kd.R_below (by (with_reducible repeat (first | apply Kd.R_alloc | apply Kd.R_drewN | apply Kd.R_drew)); exact HO104.out) hb); have n1_ := Aside0.mk (below_step (by repeat (first | (with_reducible first | exact HB.out | apply below_alloc | apply pw_below_drewN | apply below_drew1) | exact HB.out)) hb); clear HO104; clear HB; have HO104 := n0_; have HB := n1_; clear n0_ n1_; (try clear hb); (try clear hb2); (try clear hk); (try clear hi)))
          go_ret3
          exact ⟨_, by first | rfl | (simp [errW_none, errW_some] <;> rfl) | (simp [*, errW_none, errW_some] <;> rfl), by first | exact Kd.R_nil _ _ _ _ _ | exact Kd.N_nil _ _ _ _ _ | exact Kd.V_nil _ _ _ _ _ | exact Kd.Q_nil _ _ _ _ _ | exact Kd.S_nil _ _ _ _ _, by repeat (first | (with_reducible first | exact HB.out | apply below_alloc | apply pw_below_drewN | apply below_drew1) | exact HB.out)⟩
      · replace c6 := Bool.eq_false_iff.mpr c6
        subst c6
        have H1 : (some (([] : List Int), 0, 2)) = some (r1, r2, r3) := by rw [if_neg (show ¬ (false = true) by decide)] at H; exact H
        clear H
        have H := H1
        clear H1
        simp only [Option.some.injEq, Prod.mk.injEq] at H
        obtain ⟨rfl, rfl, rfl⟩ := H
        go_enter Try.func45, Try.ntmps45
        go_wp2_with (first | ((with_reducible refine gate_callee (f := 58) rfl ?_); refine goesL_ (some 22) rfl rfl Try.func58 (by kernel_rfl) rfl #[.int .i64 1, .int .i64 1000, .slice A0 l0.length c0] rfl (by (try simp only [List.map_toArray, List.map_cons, List.map_nil]); first | done | rfl | (simp only [List.length_drop, List.length_take]; rfl)) ?_; (with_reducible refine (fee_within.calls 1 1000 _ _ l0 false _ ?side1 ?side2 A5.out).mono ?_); (case side1 => repeat (first | exact HR0.out | (with_reducible refine Kd.C_alloc ?_ _) | (with_reducible refine Kd.C_drewN ?_ _) | (with_reducible refine Kd.C_drew ?_))); (case side2 => exact HC0.out); rintro e w28 ⟨rfl, hb⟩; refine ⟨_, rfl, ?_⟩; have n0_ := Aside0.mk (below_step (by repeat (first | (with_reducible first | exact HB.out | apply below_alloc | apply pw_below_drewN | apply below_drew1) | exact HB.out)) hb); clear HB; have HB := n0_; clear n0_; (try clear hb); (try clear hb2); (try clear hk); (try clear hi)))
        go_ret3
        exact ⟨_, by first | rfl | (simp [errW_none, errW_some] <;> rfl) | (simp [*, errW_none, errW_some] <;> rfl), by first | exact Kd.R_nil _ _ _ _ _ | exact Kd.N_nil _ _ _ _ _ | exact Kd.V_nil _ _ _ _ _ | exact Kd.Q_nil _ _ _ _ _ | exact Kd.S_nil _ _ _ _ _, by repeat (first | (with_reducible first | exact HB.out | apply below_alloc | apply pw_below_drewN | apply below_drew1) | exact HB.out)⟩
def rf_Ints.l0 : Nat → List Int → List Int → Int → Option (Bool)
  | 0, _, _, _ => none
  | k + 1, x0, x1, x5 => if x5 < (x0.length : Int) then (if 0 ≤ x5 then (if x5 < (x1.length : Int) then (if (rd x0 x5) = (rd x1 x5) then (rf_Ints.l0 k x0 x1 (wrap64 (x5 + 1))) else (some false)) else (none)) else (none)) else (some true)
def rf_Ints.f (k : Nat) (l0 : List Int) (l1 : List Int) : Option (Bool) := if (l0.length : Int) = (l1.length : Int) then (rf_Ints.l0 k l0 l1 0) else (some false)
set_option maxHeartbeats 8000000 in
set_option maxRecDepth 100000 in
theorem rf_Ints.calls (k : Nat) (A0 : Option Addr) (c0 : Nat) (l0 : List Int) (A1 : Option Addr) (c1 : Nat) (l1 : List Int) (r : Bool) (w : World) (hr0 : Kd.C (Kd.int .i64) w A0 l0.length l0) (hc0 : l0.length ≤ c0) (hr1 : Kd.C (Kd.int .i64) w A1 l1.length l1) (hc1 : l1.length ≤ c1) (h : rf_Ints.f k l0 l1 = some r) :
    Calls Try.prog 25 #[.slice A0 l0.length c0, .slice A1 l1.length c1] w fun e w' => e = .returned (.bool r) ∧ Drawn0 w w' := by
  have HR0 := Aside0.mk hr0
  have HC0 := Aside0.mk hc0
  clear hr0 hc0
  have HR1 := Aside0.mk hr1
  have HC1 := Aside0.mk hc1
  clear hr1 hc1
  have H : (if (l0.length : Int) = (l1.length : Int) then (rf_Ints.l0 k l0 l1 0) else (some false)) = some r := h
  clear h
  by_cases c3 : (l0.length : Int) = (l1.length : Int)
  · rw [if_pos c3] at H
    have c3b0 : ((l0.length : Int) == (l1.length : Int)) = true := beq_iff_eq.mpr c3
    have c3b1 : ((l0.length : Int) != (l1.length : Int)) = false := bne_eq_false_iff_eq.mpr c3
    have c3b2 : (l0.length == l1.length) = true := by first | simpa using c3 | (simp at c3 ⊢; omega)
    clear c3
    have H' := Aside0.mk H
    clear H
    go_enter Try.func25, Try.ntmps25
    go_wp2
    repeat (go_quiet (fail); try go_wp2)
    go_loopg [5] k (fun kq v5 w' => ∃ (x5_1 : Int), v5 = .int .i64 x5_1 ∧ Aside0 (rf_Ints.l0 kq l0 l1 x5_1 = some r) ∧ Aside0 (kq ≤ k) ∧ Drawn0 w w')
    case atStart => exact ⟨(0), (by first | rfl | (simp; done) | (simp [*]; done)), H', ⟨Nat.le_refl _⟩, by repeat (first | exact Drawn0.refl _ | apply Drawn0.step)⟩
    case round =>
      clear H'
      try clear c1
      try clear c2
      try clear p2
      try clear c3
      try clear c3b0
      try clear c3b1
      try clear c3b2
      obtain ⟨x5_1, rfl, HA, HK1, ⟨m1, rfl⟩⟩ := hrel
      cases gk with
      | zero => exact absurd HA.out (by simp [rf_Ints.l0])
      | succ k1 =>
        have H := HA.out
        clear HA
        simp only [rf_Ints.l0] at H
        by_cases c4 : x5_1 < (l0.length : Int)
        · rw [if_pos c4] at H
          have c4b0 : decide (x5_1 < (l0.length : Int)) = true := decide_eq_true c4
          clear c4
          by_cases c5 : 0 ≤ x5_1
          · rw [if_pos c5] at H
            have c5b0 : decide (0 ≤ x5_1) = true := decide_eq_true c5
            clear c5
            by_cases c6 : x5_1 < (l1.length : Int)
            · rw [if_pos c6] at H
              have c6b0 : decide (x5_1 < (l1.length : Int)) = true := decide_eq_true c6
              clear c6
              by_cases c7 : (rd l0 x5_1) = (rd l1 x5_1)
              · rw [if_pos c7] at H
                have c7b0 : ((rd l0 x5_1) == (rd l1 x5_1)) = true := beq_iff_eq.mpr c7
                have c7b1 : ((rd l0 x5_1) != (rd l1 x5_1)) = false := bne_eq_false_iff_eq.mpr c7
                clear c7
                have H' := Aside0.mk H
                clear H
                have p111 : 0 ≤ (x5_1 : Int) := of_decide_eq_true (by first | (with_reducible assumption) | assumption)
                have q111 : x5_1 < (l0.length : Int) := of_decide_eq_true (by first | (with_reducible assumption) | assumption)
                obtain ⟨ad111, e111, hx111_0⟩ := Kd.at_int HR0.out x5_1 p111 q111
                cases e111
                replace p111 := eq_true p111
                replace q111 := eq_true q111
                have p112 : 0 ≤ (x5_1 : Int) := of_decide_eq_true (by first | (with_reducible assumption) | assumption)
                have q112 : x5_1 < (l1.length : Int) := of_decide_eq_true (by first | (with_reducible assumption) | assumption)
                obtain ⟨ad112, e112, hx112_0⟩ := Kd.at_int HR1.out x5_1 p112 q112
                cases e112
                replace p112 := eq_true p112
                replace q112 := eq_true q112
                go_wp2
                repeat (go_quiet (fail); try go_wp2)
                go_roundg k1
                case measure => have := HK1.out; omega
                case rel => exact ⟨(wrap64 (x5_1 + 1)), (by first | rfl | (simp; done) | (simp [*]; done)), H', ⟨by have := HK1.out; omega⟩, by repeat (first | exact Drawn0.refl _ | apply Drawn0.step)⟩
              · rw [if_neg c7] at H
                have c7b0 : ((rd l0 x5_1) == (rd l1 x5_1)) = false := beq_eq_false_iff_ne.mpr c7
                have c7b1 : ((rd l0 x5_1) != (rd l1 x5_1)) = true := bne_iff_ne.mpr c7
                obtain rfl := Option.some.inj H
                have p111 : 0 ≤ (x5_1 : Int) := of_decide_eq_true (by first | (with_reducible assumption) | assumption)
                have q111 : x5_1 < (l0.length : Int) := of_decide_eq_true (by first | (with_reducible assumption) | assumption)
                obtain ⟨ad111, e111, hx111_0⟩ := Kd.at_int HR0.out x5_1 p111 q111
                cases e111
                replace p111 := eq_true p111
                replace q111 := eq_true q111
                have p112 : 0 ≤ (x5_1 : Int) := of_decide_eq_true (by first | (with_reducible assumption) | assumption)
                have q112 : x5_1 < (l1.length : Int) := of_decide_eq_true (by first | (with_reducible assumption) | assumption)
                obtain ⟨ad112, e112, hx112_0⟩ := Kd.at_int HR1.out x5_1 p112 q112
                cases e112
                replace p112 := eq_true p112
                replace q112 := eq_true q112
                go_wp2
                repeat (go_quiet (fail); try go_wp2)
                go_ret
                exact ⟨by first | rfl | (simp; done) | (simp [*]; done), by repeat (first | exact Drawn0.refl _ | apply Drawn0.step)⟩
            · rw [if_neg c6] at H
              exact absurd H (by simp)
          · rw [if_neg c5] at H
            exact absurd H (by simp)
        · rw [if_neg c4] at H
          have c4b0 : decide (x5_1 < (l0.length : Int)) = false := decide_eq_false c4
          clear c4
          obtain rfl := Option.some.inj H
          go_wp2
          repeat (go_quiet (fail); try go_wp2)
          go_ret
          exact ⟨by first | rfl | (simp; done) | (simp [*]; done), by repeat (first | exact Drawn0.refl _ | apply Drawn0.step)⟩
  · rw [if_neg c3] at H
    have c3b0 : ((l0.length : Int) == (l1.length : Int)) = false := beq_eq_false_iff_ne.mpr c3
    have c3b1 : ((l0.length : Int) != (l1.length : Int)) = true := bne_iff_ne.mpr c3
    have c3b2 : (l0.length == l1.length) = false := by first | simpa using c3 | (simp at c3 ⊢; omega)
    obtain rfl := Option.some.inj H
    go_enter Try.func25, Try.ntmps25
    go_wp2
    repeat (go_quiet (fail); try go_wp2)
    go_ret
    exact ⟨by first | rfl | (simp; done) | (simp [*]; done), by repeat (first | exact Drawn0.refl _ | apply Drawn0.step)⟩
def lw_ledger.f  : Option ((List (S101))) := some (([(⟨1, 0, 39⟩ : S101), (⟨2, 0, 20⟩ : S101), (⟨0, 3, 25⟩ : S101)] : List (S101)))
set_option maxHeartbeats 8000000 in
set_option maxRecDepth 100000 in
theorem lw_ledger.calls  (r : List (S101)) (w : World) (h : lw_ledger.f  = some r) :
    Calls Try.prog 64 #[] w fun e w' => ∃ v0_ : Value, e = .returned (v0_) ∧ Kd.R k101 101 w' w.heap.size (fun _ => True) v0_ r ∧ Below w.heap.size w w' := by
  have hu101 := Try.underlying101
  have HB := Aside0.mk (Below.refl w.heap.size w)
  have H : (some (([(⟨1, 0, 39⟩ : S101), (⟨2, 0, 20⟩ : S101), (⟨0, 3, 25⟩ : S101)] : List (S101)))) = some r := h
  clear h
  obtain ⟨y113, hy113⟩ : ∃ y_ : List (S101), y_ = (([(⟨1, 0, 39⟩ : S101), (⟨2, 0, 20⟩ : S101), (⟨0, 3, 25⟩ : S101)] : List (S101))) := ⟨_, rfl⟩
  replace H : (some y113) = some r := by first | (rw [hy113]; with_reducible exact H) | (have H2_ := (Option.bind_some _ _).symm.trans H; rw [hy113]; with_reducible exact H2_) | (have H2_ := (Option.bind_some _ _).symm.trans H; with_reducible exact H2_) | with_reducible exact H | (rw [hy113]; exact H) | exact H
  have Ny113 := Aside0.mk hy113
  clear hy113
  obtain rfl := Option.some.inj H
  go_enter Try.func64, Try.ntmps64
  go_wp2_with (first | ((with_reducible refine gate_dst (N := 4) rfl ?_); refine Kd.R_lit k101 _ 101 ?hg (N := 4) ?hd (xs := ([(⟨1, 0, 39⟩ : S101), (⟨2, 0, 20⟩ : S101), (⟨0, 3, 25⟩ : S101)] : List (S101))) (inner := [.int .i64 1, .int .i64 0, .int .i64 39, .int .i64 2, .int .i64 0, .int .i64 20, .int .i64 0, .int .i64 3, .int .i64 25]) (ok := fun _ => True) (okp := fun _ => True) ?hr ?hp (fun _ hk => hk) trivial (Below.refl _ _) (Nat.le_refl _) (by simp) ?_; (case hd => rfl); (case hg => rfl); (case hr => first | (go_simp; done) | (go_simp; rfl)); (case hp => exact (Reps.c3 (show Kd.M k101 _ _ _ (⟨1, 0, 39⟩ : S101) [.int .i64 1, .int .i64 0, .int .i64 39] from (k101_mkM _ _ _ (⟨1, 0, 39⟩ : S101) )) (Reps.c3 (show Kd.M k101 _ _ _ (⟨2, 0, 20⟩ : S101) [.int .i64 2, .int .i64 0, .int .i64 20] from (k101_mkM _ _ _ (⟨2, 0, 20⟩ : S101) )) (Reps.c3 (show Kd.M k101 _ _ _ (⟨0, 3, 25⟩ : S101) [.int .i64 0, .int .i64 3, .int .i64 25] from (k101_mkM _ _ _ (⟨0, 3, 25⟩ : S101) )) (Reps.none _ _))))); intro v114 w1 ho2 hb hg_ hnew_; clear hg_ hnew_; (first | rw [← Ny113.out] at ho2 | (simp only [Int.reduceToNat] at ho2; rw [← Ny113.out] at ho2)); have n0_ := Aside0.mk (Kd.R_lower ho2 (below_size (by repeat (first | (with_reducible first | exact HB.out | apply below_alloc | apply pw_below_drewN | apply below_drew1) | exact HB.out)))); have n1_ := Aside0.mk (below_step (by repeat (first | (with_reducible first | exact HB.out | apply below_alloc | apply pw_below_drewN | apply below_drew1) | exact HB.out)) hb); clear HB; have HO115 := n0_; have HB := n1_; clear n0_ n1_; clear hb ho2))
  go_ret
  exact ⟨_, by first | rfl | (simp [errW_none, errW_some] <;> rfl) | (simp [*, errW_none, errW_some] <;> rfl), by (with_reducible repeat (first | apply Kd.R_alloc | apply Kd.R_drewN | apply Kd.R_drew)); exact HO115.out, by repeat (first | (with_reducible first | exact HB.out | apply below_alloc | apply pw_below_drewN | apply below_drew1) | exact HB.out)⟩
def lw_tariff.f  : Option (Int × Int × Int × Int × Int) := some (12, 5, 2, 20, 3)
set_option maxHeartbeats 8000000 in
set_option maxRecDepth 100000 in
theorem lw_tariff.calls  (r1 : Int) (r2 : Int) (r3 : Int) (r4 : Int) (r5 : Int) (w : World) (h : lw_tariff.f  = some (r1, r2, r3, r4, r5)) :
    Calls Try.prog 63 #[] w fun e w' => e = .returned (.agg #[.int .i64 r1, .int .i64 r2, .int .i64 r3, .int .i64 r4, .int .i64 r5]) ∧ Below w.heap.size w w' := by
  have hu23 := Try.underlying23
  have HB := Aside0.mk (Below.refl w.heap.size w)
  have H : (some (12, 5, 2, 20, 3)) = some (r1, r2, r3, r4, r5) := h
  clear h
  simp only [Option.some.injEq, Prod.mk.injEq] at H
  obtain ⟨rfl, rfl, rfl, rfl, rfl⟩ := H
  go_enter Try.func63, Try.ntmps63
  go_wp2_with (first | ((with_reducible refine gate_dst (N := 0) rfl ?_); refine box_event ?hg (N := 0) ?hd (cs := #[.int .i64 0, .int .i64 0, .int .i64 0, .int .i64 0, .int .i64 0]) (t := 23) ?hr ?_; (case hd => rfl); (case hg => rfl); (case hr => first | (go_simp; done) | (go_simp; rfl)); intro gb116 hg w1 hbox hb; have n0_ := Aside0.mk (below_step (by repeat (first | (with_reducible first | exact HB.out | apply below_alloc | apply pw_below_drewN | apply below_drew1) | exact HB.out)) hb); have n1_ := Aside0.mk (hbox); have n2_ := Aside0.mk ((by rw [hg]; exact (below_size (by repeat (first | (with_reducible first | exact HB.out | apply below_alloc | apply pw_below_drewN | apply below_drew1) | exact HB.out))) : w.heap.size ≤ gb116)); have n3_ := Aside0.mk ((by rw [hg]; exact (below_size (by repeat (first | (with_reducible first | exact HB.out | apply below_alloc | apply pw_below_drewN | apply below_drew1) | exact HB.out))) : w.heap.size ≤ gb116)); clear HB; have HB := n0_; have BK116 := n1_; have GW116 := n2_; have GE116 := n3_; clear n0_ n1_ n2_ n3_; clear hb hbox hg; have hcz2_0 : w1.cell? ⟨gb116, 0, none⟩ = some (.int .i64 0) := (blk_cell BK116.out 0).trans rfl; have hcz2_1 : w1.cell? ⟨gb116, 1, none⟩ = some (.int .i64 0) := (blk_cell BK116.out 1).trans rfl; have hcz2_2 : w1.cell? ⟨gb116, 2, none⟩ = some (.int .i64 0) := (blk_cell BK116.out 2).trans rfl; have hcz2_3 : w1.cell? ⟨gb116, 3, none⟩ = some (.int .i64 0) := (blk_cell BK116.out 3).trans rfl; have hcz2_4 : w1.cell? ⟨gb116, 4, none⟩ = some (.int .i64 0) := (blk_cell BK116.out 4).trans rfl; have hfz2_0 := blk_frozen BK116.out 0; have hfz2_1 := blk_frozen BK116.out 1; have hfz2_2 := blk_frozen BK116.out 2; have hfz2_3 := blk_frozen BK116.out 3; have hfz2_4 := blk_frozen BK116.out 4))
  refine bodyPost_ret (results_cell_row rfl _ _ gb116 23 #[.int .i64 12, .int .i64 5, .int .i64 2, .int .i64 20, .int .i64 3] (0, 0) _ rfl (by (with_reducible repeat (first | refine blk_drewN ?_ _ | refine blk_drew ?_ | refine blk_alloc ?_ _)); refine blk_put (cs := #[.int .i64 12, .int .i64 5, .int .i64 2, .int .i64 20, .int .i64 0]) ?_ 4 _ rfl; (with_reducible repeat (first | refine blk_drewN ?_ _ | refine blk_drew ?_ | refine blk_alloc ?_ _)); refine blk_put (cs := #[.int .i64 12, .int .i64 5, .int .i64 2, .int .i64 0, .int .i64 0]) ?_ 3 _ rfl; (with_reducible repeat (first | refine blk_drewN ?_ _ | refine blk_drew ?_ | refine blk_alloc ?_ _)); refine blk_put (cs := #[.int .i64 12, .int .i64 5, .int .i64 0, .int .i64 0, .int .i64 0]) ?_ 2 _ rfl; (with_reducible repeat (first | refine blk_drewN ?_ _ | refine blk_drew ?_ | refine blk_alloc ?_ _)); refine blk_put (cs := #[.int .i64 12, .int .i64 0, .int .i64 0, .int .i64 0, .int .i64 0]) ?_ 1 _ rfl; (with_reducible repeat (first | refine blk_drewN ?_ _ | refine blk_drew ?_ | refine blk_alloc ?_ _)); refine blk_put (cs := #[.int .i64 0, .int .i64 0, .int .i64 0, .int .i64 0, .int .i64 0]) ?_ 0 _ rfl; (with_reducible repeat (first | refine blk_drewN ?_ _ | refine blk_drew ?_ | refine blk_alloc ?_ _)); exact BK116.out) Try.underlying23 rfl (by kernel_rfl)) rfl ?_
  exact ⟨by first | rfl | (simp [errW_none, errW_some] <;> rfl) | (simp [*, errW_none, errW_some] <;> rfl), by repeat (first | (with_reducible first | exact HB.out | apply below_alloc | apply pw_below_drewN | apply below_drew1 | refine below_set ?_ GE116.out) | exact HB.out)⟩
end Go.Proofs.Ytdlekcdedahbhaa.D
namespace Go.Proofs.Ytdlekcdedahbhaa.D
open Go.RowKit Go.Proofs.YtdlekcdedahbhaaW.PrintWords Go.Proofs.YtdlekcdedahbhaaW.PrintLast Go.Proofs.YtdlekcdedahbhaaW.PrintMore
attribute [local go_sem] max2_int min2_int max_two min_two max_three min_three max_four min_four   -- for this text's walks alone
set_option linter.unusedVariables false
set_option linter.unusedSimpArgs false
end Go.Proofs.Ytdlekcdedahbhaa.D
namespace Go.Proofs.Ytdlekcdedahbhaa
open Go.RowKit Go.Shelf Go.Proofs.YtdlekcdedahbhaaW.PrintWords
set_option linter.unusedVariables false
set_option linter.unusedSimpArgs false
theorem C_newK {α : Type} (d : Kd α) (enc : α → List Value) (hK : ∀ w x, d.K w x (enc x)) (hl : ∀ x, (enc x).length = d.sz) (w : World) (T : TypeId) (xs : List α) (cs : Array Value) (n b : Nat) (hb : b = w.heap.size) (hcs : cs = (xs.flatMap enc).toArray) (hn : n = xs.length) (hm : xs.length ≤ 9223372036854775807) :
    Kd.C d (w.alloc (.cells cs T)) (some ⟨b, 0, none⟩) n xs := by
  subst hcs hn hb
  refine ⟨rfl, hm, fun hp => ⟨_, rfl, fun j x hj => ⟨enc x, hl x, hK _ x, fun i u hu => ?_⟩⟩⟩
  have hi : i < d.sz := by rw [← hl x]; exact (List.getElem?_eq_some_iff.1 hu).1
  rw [add_plain, (Bx.new w _ T).cell, List.getElem?_toArray, flat_get enc d.sz hl xs j x i hj hi]
  exact hu
def encWk2 (x : Wk) : List Value := [.int .i64 x.q, .int .i64 x.o, .int .i64 x.l]
def encDue (x : Due) : List Value := [.int .i64 x.c, .int .i64 x.a]
def encInt (x : Int) : List Value := [.int .i64 x]
def exLed : List Ent := [⟨1, 0, 39⟩, ⟨2, 0, 20⟩, ⟨0, 3, 25⟩]
theorem kTariff (w : World) : Calls Try.prog 63 #[] w fun e w' => e = .returned (.agg #[.int .i64 12, .int .i64 5, .int .i64 2, .int .i64 20, .int .i64 3]) ∧ Up w w' :=
  D.lw_tariff.calls 12 5 2 20 3 w rfl
theorem kLedger (w : World) : Calls Try.prog 64 #[] w fun e w' => ∃ A c, e = .returned (.slice A 3 c) ∧ 3 ≤ c ∧ Kd.C kEnt w' A 3 exLed ∧ Up w w' := by
  go_enter Try.func64, Try.ntmps64
  go_wp2_with fail
  go_ret
  exact ⟨_, _, rfl, Nat.le_refl _, C_newK kEnt encEnt kEnt_mk (fun _ => rfl) w 101 exLed _ 3 _ rfl rfl rfl (by decide), upA⟩
theorem kFee (w : World) : Calls Try.prog 19 #[.agg #[.int .i64 12, .int .i64 5, .int .i64 2, .int .i64 20, .int .i64 3], .agg #[.int .i64 9, .int .i64 40, .int .i64 2]] w fun e w' => e = .returned (.tuple #[.int .i64 39, .int .i64 0]) ∧ Up w w' := by
  have h := fee_ ⟨12, 5, 2, 20, 3⟩ ⟨9, 40, 2⟩ w
  rw [show feeI ⟨12, 5, 2, 20, 3⟩ ⟨9, 40, 2⟩ = 39 by kernel_rfl, show feeE ⟨12, 5, 2, 20, 3⟩ ⟨9, 40, 2⟩ = 0 by kernel_rfl] at h
  exact h
def exWk : List Wk := [⟨4, 16, 0⟩, ⟨8, 16, 0⟩, ⟨4, 32, 0⟩]
theorem exPricesS : pricesS ⟨12, 5, 2, 0, 0⟩ exWk [19, 24, 21] = [⟨12, 12⟩, ⟨5, 5⟩, ⟨2, 2⟩] := by kernel_rfl
theorem exPricesM : pricesM ⟨12, 5, 2, 0, 0⟩ exWk [19, 24, 21] = 1 := by kernel_rfl
theorem exPricesE : pricesE ⟨12, 5, 2, 0, 0⟩ exWk [19, 24, 21] = 0 := by kernel_rfl
theorem kPrices (w : World) (b b2 : Nat) (hb : b = w.heap.size) (hb2 : b2 = w.heap.size + 1) :
    Calls Try.prog 24 #[.agg #[.int .i64 12, .int .i64 5, .int .i64 2, .int .i64 0, .int .i64 0], .slice (some ⟨b, 0, none⟩) 3 3, .slice (some ⟨b2, 0, none⟩) 3 3] ((w.alloc (.cells #[.int .i64 4, .int .i64 16, .int .i64 0, .int .i64 8, .int .i64 16, .int .i64 0, .int .i64 4, .int .i64 32, .int .i64 0] 25)).alloc (.cells #[.int .i64 19, .int .i64 24, .int .i64 21] 3)) fun e w' => ∃ A' c', e = .returned (.tuple #[.int .i64 1, .slice A' 3 c', .int .i64 0]) ∧ 3 ≤ c' ∧ Kd.C kSp w' A' 3 [⟨12, 12⟩, ⟨5, 5⟩, ⟨2, 2⟩] ∧ Up w w' := by
  subst hb hb2
  refine (prices_ ⟨12, 5, 2, 0, 0⟩ (some ⟨w.heap.size, 0, none⟩) 3 exWk (some ⟨w.heap.size + 1, 0, none⟩) 3 [19, 24, 21] _ (C_up (C_newK kWk encWk2 kWk_mk (fun _ => rfl) w 25 exWk _ 3 _ rfl rfl rfl (by decide)) ((Up.refl _).alloc _)) (by decide) ?_ (by decide)).mono ?_
  · exact C_newK (Kd.int .i64) encInt (fun _ _ => rfl) (fun _ => rfl) (w.alloc _) 3 [19, 24, 21] _ 3 _ (by simp) rfl rfl (by decide)
  · rintro e w' ⟨v, rfl, h1, h⟩
    rw [exPricesS] at h1
    obtain ⟨A', c', rfl, h3, h4⟩ := own_C_Sp h1 (by decide)
    rw [exPricesM, exPricesE]
    exact ⟨A', c', rfl, h3, h4, (((Up.refl w).alloc _).alloc _).then h⟩
theorem exBal : balS exLed = [34, -39, -20, 25, 0, 0] ∧ readE exLed = 0 := ⟨by kernel_rfl, by kernel_rfl⟩
theorem kBalances (A : Option Addr) (c : Nat) (w : World) (hC : Kd.C kEnt w A 3 exLed) (hc : 3 ≤ c) :
    Calls Try.prog 29 #[.slice A 3 c] w fun e w' => ∃ A' c', e = .returned (.tuple #[.slice A' 6 c', .int .i64 0]) ∧ 6 ≤ c' ∧ Kd.C (Kd.int .i64) w' A' 6 [34, -39, -20, 25, 0, 0] ∧ Up w w' := by
  refine (balances_ A c exLed w hC hc).mono ?_
  rintro e w' ⟨v, rfl, h1, h2⟩
  rw [exBal.1] at h1
  obtain ⟨A', c', rfl, h3, h4⟩ := own_C_int h1 (by decide)
  rw [exBal.2]
  exact ⟨A', c', rfl, h3, h4, h2⟩
def exDue : List Due := [⟨1, 39⟩, ⟨2, 20⟩, ⟨2, 20⟩]
theorem exBook : bookM exDue exLed = [2] ∧ bookX exDue exLed = [2] ∧ bookE exDue exLed = 0 := ⟨by kernel_rfl, by kernel_rfl, by kernel_rfl⟩
theorem kBooked (A1 A : Option Addr) (c : Nat) (w : World) (h1 : Kd.C kDue w A1 3 exDue) (hC : Kd.C kEnt w A 3 exLed) (hc : 3 ≤ c) :
    Calls Try.prog 33 #[.slice A1 3 3, .slice A 3 c] w fun e w' => ∃ A' c' A'' c'', e = .returned (.tuple #[.slice A' 1 c', .slice A'' 1 c'', .int .i64 0]) ∧ 1 ≤ c' ∧ 1 ≤ c'' ∧ Kd.C (Kd.int .i64) w' A' 1 [2] ∧ Kd.C (Kd.int .i64) w' A'' 1 [2] ∧ Up w w' := by
  refine (booked_ A1 3 exDue A c exLed w h1 (by decide) hC hc).mono ?_
  rintro e w' ⟨v, u, rfl, g1, g2, g3, _⟩
  rw [exBook.1] at g1
  rw [exBook.2.1] at g2
  obtain ⟨A', c', rfl, h3, h4⟩ := own_C_int g1 (by decide)
  obtain ⟨A'', c'', rfl, h5, h6⟩ := own_C_int g2 (by decide)
  rw [exBook.2.2]
  exact ⟨A', c', A'', c'', rfl, h3, h5, h4, h6, g3⟩
theorem exSlips : slipsL exLed [34, -39, 0, 25, -20, 0] = [⟨1, 3, 4⟩] ∧ slipsE exLed [34, -39, 0, 25, -20, 0] = 0 := ⟨by kernel_rfl, by kernel_rfl⟩
theorem kSlips (A A2 : Option Addr) (c : Nat) (w : World) (hC : Kd.C kEnt w A 3 exLed) (hc : 3 ≤ c) (h2 : Kd.C (Kd.int .i64) w A2 6 [34, -39, 0, 25, -20, 0]) :
    Calls Try.prog 36 #[.slice A 3 c, .slice A2 6 6] w fun e w' => ∃ g c', e = .returned (.tuple #[.slice (some ⟨g, 0, none⟩) 1 c', .int .i64 0]) ∧ w'.cell? ⟨g, 0, none⟩ = some (.int .i64 1) ∧ w'.cell? ⟨g, 1, none⟩ = some (.int .i64 3) ∧ w'.cell? ⟨g, 2, none⟩ = some (.int .i64 4) ∧ Up w w' := by
  refine (slips_ A c exLed A2 6 [34, -39, 0, 25, -20, 0] w hC hc h2 (by decide)).mono ?_
  rintro e w' ⟨v, rfl, g1, g3⟩
  rw [exSlips.1] at g1
  rw [exSlips.2]
  rcases g1.2 with ⟨_, h0⟩ | ⟨g, cap, cur, rfl, hb, hg, hcap, _, hsz, htk⟩
  · simp at h0
  · have hget : ∀ k, k < 3 → cur[k]? = (([⟨1, 3, 4⟩] : List Slp).flatMap encSlp)[k]? := by
      intro k hk
      rw [← htk]
      simp [List.getElem?_take, hk]
    refine ⟨g, cap, rfl, ?_, ?_, ?_, g3⟩
    · simp [World.cell?, hg, hget 0 (by omega), encSlp]
    · simp [World.cell?, hg, hget 1 (by omega), encSlp]
    · simp [World.cell?, hg, hget 2 (by omega), encSlp]
def exBlot : List Ent := [⟨1, 0, -1⟩, ⟨0, 1, -1⟩]
theorem exFill : fillS exBlot [39, -39, 0, 0, 0, 0] = [⟨39, 100⟩, ⟨0, 61⟩] ∧ fillE exBlot [39, -39, 0, 0, 0, 0] = 0 := ⟨by kernel_rfl, by kernel_rfl⟩
theorem kFill (w : World) (b b2 : Nat) (hb : b = w.heap.size) (hb2 : b2 = w.heap.size + 1) :
    Calls Try.prog 39 #[.slice (some ⟨b, 0, none⟩) 2 2, .slice (some ⟨b2, 0, none⟩) 6 6] ((w.alloc (.cells #[.int .i64 1, .int .i64 0, .int .i64 (-1), .int .i64 0, .int .i64 1, .int .i64 (-1)] 101)).alloc (.cells #[.int .i64 39, .int .i64 (-39), .int .i64 0, .int .i64 0, .int .i64 0, .int .i64 0] 3)) fun e w' => ∃ A' c', e = .returned (.tuple #[.slice A' 2 c', .int .i64 0]) ∧ 2 ≤ c' ∧ Kd.C kSp w' A' 2 [⟨39, 100⟩, ⟨0, 61⟩] ∧ Up w w' := by
  subst hb hb2
  refine (fill_ (some ⟨w.heap.size, 0, none⟩) 2 exBlot (some ⟨w.heap.size + 1, 0, none⟩) 6 [39, -39, 0, 0, 0, 0] _ (C_up (C_newK kEnt encEnt kEnt_mk (fun _ => rfl) w 101 exBlot _ 2 _ rfl rfl rfl (by decide)) ((Up.refl _).alloc _)) (by decide) ?_ (by decide)).mono ?_
  · exact C_newK (Kd.int .i64) encInt (fun _ _ => rfl) (fun _ => rfl) (w.alloc _) 3 [39, -39, 0, 0, 0, 0] _ 6 _ (by simp) rfl rfl (by decide)
  · rintro e w' ⟨v, rfl, h1, h⟩
    rw [exFill.1] at h1
    obtain ⟨A', c', rfl, h3, h4⟩ := own_C_Sp h1 (by decide)
    rw [exFill.2]
    exact ⟨A', c', rfl, h3, h4, (((Up.refl w).alloc _).alloc _).then h⟩
theorem exSettle : settleN [5, 7, -5, 0, -7, 0] = 2 ∧ settleG [5, 7, -5, 0, -7, 0] = [0, 1, 0, -1, 1, -1] ∧ settleE [5, 7, -5, 0, -7, 0] = 0 := ⟨by kernel_rfl, by kernel_rfl, by kernel_rfl⟩
theorem kSettle (w : World) (b : Nat) (hb : b = w.heap.size) :
    Calls Try.prog 42 #[.slice (some ⟨b, 0, none⟩) 6 6] (w.alloc (.cells #[.int .i64 5, .int .i64 7, .int .i64 (-5), .int .i64 0, .int .i64 (-7), .int .i64 0] 3)) fun e w' => ∃ A' c', e = .returned (.tuple #[.int .i64 2, .slice A' 6 c', .int .i64 0]) ∧ 6 ≤ c' ∧ Kd.C (Kd.int .i64) w' A' 6 [0, 1, 0, -1, 1, -1] ∧ Up w w' := by
  subst hb
  refine (settle_ (some ⟨w.heap.size, 0, none⟩) 6 [5, 7, -5, 0, -7, 0] _ (C_newK (Kd.int .i64) encInt (fun _ _ => rfl) (fun _ => rfl) w 3 [5, 7, -5, 0, -7, 0] _ 6 _ rfl rfl rfl (by decide)) (by decide)).mono ?_
  rintro e w' ⟨v, rfl, h1, h⟩
  rw [exSettle.2.1] at h1
  obtain ⟨A', c', rfl, h3, h4⟩ := own_C_int h1 (by decide)
  rw [exSettle.1, exSettle.2.2]
  exact ⟨A', c', rfl, h3, h4, ((Up.refl w).alloc _).then h⟩
theorem kDividend (w : World) (b : Nat) (hb : b = w.heap.size) :
    Calls Try.prog 45 #[.slice (some ⟨b, 0, none⟩) 3 3, .int .i64 (-100)] (w.alloc (.cells #[.int .i64 1, .int .i64 1, .int .i64 1] 3)) fun e w' => ∃ A' c', e = .returned (.tuple #[.slice A' 3 c', .int .i64 (-1), .int .i64 0]) ∧ 3 ≤ c' ∧ Kd.C (Kd.int .i64) w' A' 3 [-33, -33, -33] ∧ Up w w' := by
  subst hb
  refine (D.fee_Dividend.calls 20 (some ⟨w.heap.size, 0, none⟩) 3 [1, 1, 1] (-100) [-33, -33, -33] (-1) 0 _ (C_newK (Kd.int .i64) encInt (fun _ _ => rfl) (fun _ => rfl) w 3 [1, 1, 1] _ 3 _ rfl rfl rfl (by decide)) (by decide) (by kernel_rfl)).mono ?_
  rintro e w' ⟨v, rfl, h1, h⟩
  obtain ⟨A', c', rfl, h3, h4⟩ := Kd.R_reads h1
  exact ⟨A', c', rfl, h3, h4, ((Up.refl w).alloc _).then h⟩
theorem kInts (A : Option Addr) (c : Nat) (A2 : Option Addr) (c2 n : Nat) (xs : List Int) (hn : n = xs.length) (w : World) (hr : Kd.C (Kd.int .i64) w A n xs) (hc : n ≤ c) (hr2 : Kd.C (Kd.int .i64) w A2 n xs) (hc2 : n ≤ c2) (h : D.rf_Ints.f 20 xs xs = some true) :
    Calls Try.prog 25 #[.slice A n c, .slice A2 n c2] w fun e w' => e = .returned (.bool true) ∧ Up w w' := by
  subst hn
  exact (D.rf_Ints.calls 20 A c xs A2 c2 xs true w hr hc hr2 hc2 h).mono fun e w' h => ⟨h.1, Up.ofDrawn h.2⟩
theorem kInts6 (A : Option Addr) (c b : Nat) (a0 a1 a2 a3 a4 a5 : Int) (w : World) (hb : b = w.heap.size) (hr : Kd.C (Kd.int .i64) w A 6 [a0, a1, a2, a3, a4, a5]) (hc : 6 ≤ c) (h : D.rf_Ints.f 20 [a0, a1, a2, a3, a4, a5] [a0, a1, a2, a3, a4, a5] = some true) :
    Calls Try.prog 25 #[.slice A 6 c, .slice (some ⟨b, 0, none⟩) 6 6] (w.alloc (.cells #[.int .i64 a0, .int .i64 a1, .int .i64 a2, .int .i64 a3, .int .i64 a4, .int .i64 a5] 3)) fun e w' => e = .returned (.bool true) ∧ Up w w' :=
  (kInts A c _ 6 6 [a0, a1, a2, a3, a4, a5] rfl _ (C_up hr ((Up.refl w).alloc _)) hc (C_newK (Kd.int .i64) encInt (fun _ _ => rfl) (fun _ => rfl) w 3 _ _ 6 _ hb rfl rfl (by simp)) (by decide) h).mono fun e w' h => ⟨h.1, ((Up.refl w).alloc _).then h.2⟩
theorem kInts3 (A : Option Addr) (c b : Nat) (a0 a1 a2 : Int) (w : World) (hb : b = w.heap.size) (hr : Kd.C (Kd.int .i64) w A 3 [a0, a1, a2]) (hc : 3 ≤ c) (h : D.rf_Ints.f 20 [a0, a1, a2] [a0, a1, a2] = some true) :
    Calls Try.prog 25 #[.slice A 3 c, .slice (some ⟨b, 0, none⟩) 3 3] (w.alloc (.cells #[.int .i64 a0, .int .i64 a1, .int .i64 a2] 3)) fun e w' => e = .returned (.bool true) ∧ Up w w' :=
  (kInts A c _ 3 3 [a0, a1, a2] rfl _ (C_up hr ((Up.refl w).alloc _)) hc (C_newK (Kd.int .i64) encInt (fun _ _ => rfl) (fun _ => rfl) w 3 _ _ 3 _ hb rfl rfl (by simp)) (by decide) h).mono fun e w' h => ⟨h.1, ((Up.refl w).alloc _).then h.2⟩
theorem kInts1 (A : Option Addr) (c b : Nat) (a0 : Int) (w : World) (hb : b = w.heap.size) (hr : Kd.C (Kd.int .i64) w A 1 [a0]) (hc : 1 ≤ c) (h : D.rf_Ints.f 20 [a0] [a0] = some true) :
    Calls Try.prog 25 #[.slice A 1 c, .slice (some ⟨b, 0, none⟩) 1 1] (w.alloc (.cells #[.int .i64 a0] 3)) fun e w' => e = .returned (.bool true) ∧ Up w w' :=
  (kInts A c _ 1 1 [a0] rfl _ (C_up hr ((Up.refl w).alloc _)) hc (C_newK (Kd.int .i64) encInt (fun _ _ => rfl) (fun _ => rfl) w 3 _ _ 1 _ hb rfl rfl (by simp)) (by decide) h).mono fun e w' h => ⟨h.1, ((Up.refl w).alloc _).then h.2⟩
theorem kBookedL (A : Option Addr) (c b : Nat) (w : World) (hD : Kd.C kDue w (some ⟨b, 0, none⟩) 3 exDue) (hC : Kd.C kEnt w A 3 exLed) (hc : 3 ≤ c) :
    Calls Try.prog 33 #[.slice (some ⟨b, 0, none⟩) 3 3, .slice A 3 c] w fun e w' => ∃ A' c' A'' c'', e = .returned (.tuple #[.slice A' 1 c', .slice A'' 1 c'', .int .i64 0]) ∧ 1 ≤ c' ∧ 1 ≤ c'' ∧ Kd.C (Kd.int .i64) w' A' 1 [2] ∧ Kd.C (Kd.int .i64) w' A'' 1 [2] ∧ Up w w' := kBooked _ A c w hD hC hc
theorem kSlipsL (A : Option Addr) (c b : Nat) (w : World) (hb : b = w.heap.size) (hC : Kd.C kEnt w A 3 exLed) (hc : 3 ≤ c) :
    Calls Try.prog 36 #[.slice A 3 c, .slice (some ⟨b, 0, none⟩) 6 6] (w.alloc (.cells #[.int .i64 34, .int .i64 (-39), .int .i64 0, .int .i64 25, .int .i64 (-20), .int .i64 0] 3)) fun e w' => ∃ g c', e = .returned (.tuple #[.slice (some ⟨g, 0, none⟩) 1 c', .int .i64 0]) ∧ w'.cell? ⟨g, 0, none⟩ = some (.int .i64 1) ∧ w'.cell? ⟨g, 1, none⟩ = some (.int .i64 3) ∧ w'.cell? ⟨g, 2, none⟩ = some (.int .i64 4) ∧ Up w w' :=
  (kSlips A _ c _ (C_up hC ((Up.refl w).alloc _)) hc (C_newK (Kd.int .i64) encInt (fun _ _ => rfl) (fun _ => rfl) w 3 [34, -39, 0, 25, -20, 0] _ 6 _ hb rfl rfl (by decide))).mono fun e w' ⟨g, c', h1, h2, h3, h4, h5⟩ => ⟨g, c', h1, h2, h3, h4, ((Up.refl w).alloc _).then h5⟩
theorem C_due (w : World) : Kd.C kDue (w.alloc (.cells #[.int .i64 1, .int .i64 39, .int .i64 2, .int .i64 20, .int .i64 2, .int .i64 20] 58)) (some ⟨w.heap.size, 0, none⟩) 3 exDue := C_newK kDue encDue kDue_mk (fun _ => rfl) w 58 exDue _ 3 _ rfl rfl rfl (by decide)
theorem atP {w : World} {A : Option Addr} (h : Kd.C kSp w A 3 [⟨12, 12⟩, ⟨5, 5⟩, ⟨2, 2⟩]) : ∃ ad : Addr, A = some ad ∧ w.cell? ⟨ad.block, ad.off + 2, none⟩ = some (.int .i64 5) ∧ w.cell? ⟨ad.block, ad.off + 3, none⟩ = some (.int .i64 5) := at_Sp h 1 (by decide) (by decide)
theorem atF {w : World} {A : Option Addr} (h : Kd.C kSp w A 2 [⟨39, 100⟩, ⟨0, 61⟩]) : ∃ ad : Addr, A = some ad ∧ w.cell? ⟨ad.block, ad.off + 2, none⟩ = some (.int .i64 0) ∧ w.cell? ⟨ad.block, ad.off + 3, none⟩ = some (.int .i64 61) := at_Sp h 1 (by decide) (by decide)
theorem iB : D.rf_Ints.f 20 [34, -39, -20, 25, 0, 0] [34, -39, -20, 25, 0, 0] = some true := by kernel_rfl
theorem iK : D.rf_Ints.f 20 [2] [2] = some true := by kernel_rfl
theorem iG : D.rf_Ints.f 20 [0, 1, 0, -1, 1, -1] [0, 1, 0, -1, 1, -1] = some true := by kernel_rfl
theorem iD : D.rf_Ints.f 20 [-33, -33, -33] [-33, -33, -33] = some true := by kernel_rfl
theorem nes (w : World) : (binOp .neq 44 (.agg #[.int .i64 5, .int .i64 5]) (.agg #[.int .i64 5, .int .i64 5])).run Try.prog w = .ok (.bool false) w := by kernel_rfl
theorem nep (w : World) : (binOp .neq 70 (.agg #[.int .i64 1, .int .i64 3, .int .i64 4]) (.agg #[.int .i64 1, .int .i64 3, .int .i64 4])).run Try.prog w = .ok (.bool false) w := by kernel_rfl
theorem eqs (w : World) : (binOp .eql 44 (.agg #[.int .i64 0, .int .i64 61]) (.agg #[.int .i64 0, .int .i64 61])).run Try.prog w = .ok (.bool true) w := by kernel_rfl
set_option maxRecDepth 100000 in
set_option maxHeartbeats 8000000 in
theorem known_ (w : World) : Calls Try.prog 22 #[] w fun e w' => e = .returned (.bool true) ∧ Up w w' := by
  go_enter Try.func22, Try.ntmps22
  go_wp2_with (first | (go_at_call 63; (with_reducible refine (kTariff _).mono ?_); rintro e w' ⟨rfl, hb⟩; have hbA := Aside0.mk hb; have hz := hb.le; (try simp at hz); clear hb) | (go_at_call 19; (with_reducible refine (kFee _).mono ?_); rintro e w' ⟨rfl, hb⟩; have hbA := Aside0.mk hb; have hz := hb.le; (try simp at hz); clear hb) | (go_at_call 24; (with_reducible refine (kPrices _ _ _ (by simp) (by simp)).mono ?_); rintro e wP ⟨AP, cP, rfl, hcP, hCP, hb⟩; have HCP := Aside0.mk hCP; have hbA := Aside0.mk hb; have hz := hb.le; (try simp at hz); clear hb hCP) | (go_at_call 64; (with_reducible refine (kLedger _).mono ?_); rintro e w' ⟨AL, cL, rfl, hcL, hCL, hb⟩; have HCL := Aside0.mk hCL; have hbA := Aside0.mk hb; have hz := hb.le; (try simp at hz); clear hb hCL) | (go_at_call 29; (with_reducible refine (kBalances _ _ _ HCL.out hcL).mono ?_); rintro e wB ⟨AB, cB, rfl, hcB, hCB, hb⟩; have HCB := Aside0.mk hCB; have hbA := Aside0.mk hb; have hz := hb.le; (try simp at hz); clear hb hCB) | (go_at_call 33; (with_reducible refine (kBookedL _ _ _ _ (C_up (C_due wB) upA) HCL.out hcL).mono ?_); rintro e wK ⟨AK, cK, AX, cX, rfl, hcK, hcX, hCK, hCX, hb⟩; have HCK := Aside0.mk hCK; have HCX := Aside0.mk hCX; have hbA := Aside0.mk hb; have hz := hb.le; (try simp at hz); clear hb hCK hCX) | (go_at_call 36; (with_reducible refine (kSlipsL _ _ _ _ (by simp) HCL.out hcL).mono ?_); rintro e wS ⟨gS, cS, rfl, hs0, hs1, hs2, hb⟩; have HS0 := Aside0.mk hs0; have HS1 := Aside0.mk hs1; have HS2 := Aside0.mk hs2; have hbA := Aside0.mk hb; have hz := hb.le; (try simp at hz); clear hb hs0 hs1 hs2) | (go_at_call 39; (with_reducible refine (kFill _ _ _ (by simp) (by simp)).mono ?_); rintro e wF ⟨AF, cF, rfl, hcF, hCF, hb⟩; have HCF := Aside0.mk hCF; have hbA := Aside0.mk hb; have hz := hb.le; (try simp at hz); clear hb hCF) | (go_at_call 42; (with_reducible refine (kSettle _ _ (by simp)).mono ?_); rintro e wG ⟨AG, cG, rfl, hcG, hCG, hb⟩; have HCG := Aside0.mk hCG; have hbA := Aside0.mk hb; have hz := hb.le; (try simp at hz); clear hb hCG) | (go_at_call 45; (with_reducible refine (kDividend _ _ (by simp)).mono ?_); rintro e wD ⟨AD, cD, rfl, hcD, hCD, hb⟩; have HCD := Aside0.mk hCD; have hbA := Aside0.mk hb; have hz := hb.le; (try simp at hz); clear hb hCD; obtain ⟨adP, eP, hp0, hp1⟩ := atP (C_up (w1 := wD) HCP.out upA); cases eP; obtain ⟨adF, eF, hf0, hf1⟩ := atF (C_up (w1 := wD) HCF.out upA); cases eF; have hs0 := Up.cell (w1 := wD) upA HS0.out; have hs1 := Up.cell (w1 := wD) upA HS1.out; have hs2 := Up.cell (w1 := wD) upA HS2.out; have hnes := nes; have hnep := nep; have heqs := eqs) | (go_at_call 25; (with_reducible refine (kInts6 AB cB _ _ _ _ _ _ _ _ (by simp) (C_up HCB.out upA) hcB iB).mono ?_); rintro e wI ⟨rfl, hb⟩; replace hs0 := hb.cell hs0; replace hs1 := hb.cell hs1; replace hs2 := hb.cell hs2; replace hf0 := hb.cell hf0; replace hf1 := hb.cell hf1; have hbA := Aside0.mk hb; have hz := hb.le; (try simp at hz); clear hb) | (go_at_call 25; (with_reducible refine (kInts1 AK cK _ _ _ (by simp) (C_up HCK.out upA) hcK iK).mono ?_); rintro e wI ⟨rfl, hb⟩; replace hs0 := hb.cell hs0; replace hs1 := hb.cell hs1; replace hs2 := hb.cell hs2; replace hf0 := hb.cell hf0; replace hf1 := hb.cell hf1; have hbA := Aside0.mk hb; have hz := hb.le; (try simp at hz); clear hb) | (go_at_call 25; (with_reducible refine (kInts1 AX cX _ _ _ (by simp) (C_up HCX.out upA) hcX iK).mono ?_); rintro e wI ⟨rfl, hb⟩; replace hs0 := hb.cell hs0; replace hs1 := hb.cell hs1; replace hs2 := hb.cell hs2; replace hf0 := hb.cell hf0; replace hf1 := hb.cell hf1; have hbA := Aside0.mk hb; have hz := hb.le; (try simp at hz); clear hb) | (go_at_call 25; (with_reducible refine (kInts6 AG cG _ _ _ _ _ _ _ _ (by simp) (C_up HCG.out upA) hcG iG).mono ?_); rintro e wI ⟨rfl, hb⟩; replace hs0 := hb.cell hs0; replace hs1 := hb.cell hs1; replace hs2 := hb.cell hs2; replace hf0 := hb.cell hf0; replace hf1 := hb.cell hf1; have hbA := Aside0.mk hb; have hz := hb.le; (try simp at hz); clear hb) | (go_at_call 25; (with_reducible refine (kInts3 AD cD _ _ _ _ _ (by simp) (C_up HCD.out upA) hcD iD).mono ?_); rintro e wI ⟨rfl, hb⟩; replace hs0 := hb.cell hs0; replace hs1 := hb.cell hs1; replace hs2 := hb.cell hs2; replace hf0 := hb.cell hf0; replace hf1 := hb.cell hf1; have hbA := Aside0.mk hb; have hz := hb.le; (try simp at hz); clear hb) | fail)
  go_ret
  exact ⟨rfl, upA⟩
end Go.Proofs.Ytdlekcdedahbhaa
