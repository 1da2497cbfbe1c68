/- The walks of this program's functions. No condition. -/
import Derived.Test.YtdlekcdedahbhaaProg
import Derived.Test.YtdlekcdedahbhaaWWords
import Derived.Outline
import Derived.RangeFuncNested
import Derived.RangeFuncBound
import Derived.RangeFuncCalls
import Derived.RangeFuncLeaves
import Derived.Shelf.Abstract
import Derived.TacticsInMore
import Derived.LoopNIn
import Derived.LoopIn
import Derived.OwnWalkIn
import Derived.Deep.RegionHeld3
import Derived.Laws.Slices
import Derived.WalkSpells
import Derived.Deep.RegionLaw
import Derived.Deep.AppendLies
import Derived.BigQuiet
import Derived.StillTailTactics
import Derived.Test.YtdlekcdedahbhaaWEqStruct
import Derived.WideKeyEntry
import Derived.ChangeKeysEq
import Derived.Stop.RegionWithIn
set_option linter.unusedVariables false
set_option linter.unusedSimpArgs false
namespace Go.Proofs.Ytdlekcdedahbhaa
open Go.RowKit Go.Proofs.YtdlekcdedahbhaaW.PrintWords
def Up (w w' : World) : Prop := Below w.heap.size w w'
theorem Up.refl (w : World) : Up w w := Below.refl _ _
theorem Up.then {w w1 w2 : World} (h : Up w w1) (k : Up w1 w2) : Up w w2 := below_then h h.size k
theorem Up.alloc {w w1 : World} (h : Up w w1) (o : Obj) : Up w (w1.alloc o) := Below.alloc h h.size o
theorem Up.drew {w w1 : World} (h : Up w w1) : Up w w1.drew := below_drew h
theorem Up.drewN {w w1 : World} (h : Up w w1) (n : Nat) : Up w (w1.drewN n) := pw_below_drewN h n
theorem Up.set {w w1 : World} (h : Up w w1) (p : Addr) (v : Value) (hp : w.heap.size ≤ p.block) : Up w (w1.setCell p v) := Below.setCell h hp v
theorem Up.cell {w w1 : World} (h : Up w w1) {a : Addr} {v : Value} (hc : w.cell? a = some v) : w1.cell? a = some v := pw_cell_below h hc
theorem Up.old {w w1 : World} (h : Up w w1) : (∀ b o, b < w.heap.size → w1.cell? ⟨b, o, none⟩ = w.cell? ⟨b, o, none⟩) ∧ (∀ b o, b < w.heap.size → w1.frozen? ⟨b, o, none⟩ = w.frozen? ⟨b, o, none⟩) :=
  ⟨fun b o hb => Below.cell (p := ⟨b, o, none⟩) h hb, fun b o hb => Below.frozen (p := ⟨b, o, none⟩) h hb⟩
theorem Up.le {w w1 : World} (h : Up w w1) : w.heap.size ≤ w1.heap.size := h.size
theorem Up.ofDrawn {w w1 : World} (h : Drawn0 w w1) : Up w w1 := h.below
theorem upA {w w' : World} (h : Up w w' := by repeat' (first | (with_reducible exact Up.refl _) | (with_reducible refine Up.alloc ?_ _) | (with_reducible refine Up.drewN ?_ _) | (with_reducible refine Up.drew ?_) | (with_reducible refine Up.set ?_ _ _ ?_) | (with_reducible refine Up.then ?_ (Aside0.out (by assumption))) | omega | (simp; done) | (simp; omega))) : Up w w' := h
theorem C_up {α : Type} {d : Kd α} {w w1 : World} {A : Option Addr} {n : Nat} {xs : List α} (h : Kd.C d w A n xs) (hb : Up w w1) : Kd.C d w1 A n xs := Kd.C_below h hb
theorem CF_len {α : Type} {d : Kd α} {w : World} {A : Option Addr} {n : Nat} {xs : List α} (h : Kd.C d w A n xs) : n ≤ 9223372036854775807 := h.2.1
theorem C_new (w : World) (t : TypeId) (xs : List Int) (cs : Array Value) (n : Nat) (hcs : cs = (xs.map (Value.int .i64)).toArray) (hn : n = xs.length) (hm : xs.length ≤ 9223372036854775807) :
    Kd.C (Kd.int .i64) (w.alloc (.cells cs t)) (some ⟨w.heap.size, 0, none⟩) n xs := by
  subst hcs hn
  refine Kd.C_of_reads (d := (0 : Int)) (h1 := fun _ => rfl) ⟨rfl, hm, fun _ => ⟨_, rfl, fun j hj => ?_⟩⟩
  rw [add_plain]
  simp [List.getD_eq_getElem?_getD, hj]
structure Sp where
  lo : Int
  hi : Int
  deriving DecidableEq
def z_Sp : Sp := ⟨0, 0⟩
def kSp : Kd Sp := Kd.iso (Kd.pair (Kd.int .i64) (Kd.int .i64)) (fun x : Sp => (x.lo, x.hi))
theorem kSp_open {w : World} {x : Sp} {cs : List Value} (h : kSp.K w x cs) : cs = [.int .i64 x.lo, .int .i64 x.hi] := by
  obtain ⟨_, _, rfl, rfl, rfl⟩ := h
  exact rfl
theorem kSp_openM {w : World} {base : Nat} {ok : Nat → Prop} {x : Sp} {cs : List Value} (h : kSp.M w base ok x cs) : cs = [.int .i64 x.lo, .int .i64 x.hi] := by
  obtain ⟨_, _, rfl, rfl, rfl⟩ := h
  exact rfl
theorem kSp_mk (w : World) (x : Sp) : kSp.K w x [.int .i64 x.lo, .int .i64 x.hi] := ⟨[.int .i64 x.lo], [.int .i64 x.hi], rfl, rfl, rfl⟩
theorem kSp_mkM (w : World) (base : Nat) (ok : Nat → Prop) (x : Sp) : kSp.M w base ok x [.int .i64 x.lo, .int .i64 x.hi] := ⟨[.int .i64 x.lo], [.int .i64 x.hi], rfl, rfl, rfl⟩
def rdS (xs : List Sp) (i : Int) : Sp := xs.getD i.toNat z_Sp
theorem at_Sp {w : World} {A : Option Addr} {n : Nat} {xs : List Sp} (h : Kd.C kSp w A n xs) (i : Int) (h0 : 0 ≤ i) (h1 : i < n) : ∃ ad, A = some ad ∧ w.cell? (ad.add (i.toNat * 2)) = some (.int .i64 (rdS xs i).lo) ∧ w.cell? ⟨(ad.add (i.toNat * 2)).block, (ad.add (i.toNat * 2)).off + 1, none⟩ = some (.int .i64 (rdS xs i).hi) := by
  obtain ⟨ad, c, e, _, hK, hc0⟩ := Kd.C_get h z_Sp i h0 h1
  have hc : ∀ j u, c[j]? = some u → w.cell? (ad.add (i.toNat * 2 + j)) = some u := hc0
  obtain rfl := kSp_open hK
  exact ⟨ad, e, hc 0 _ rfl, by rw [← add_field _ _ 1 (by omega)]; exact hc 1 _ rfl⟩
theorem bi_max2 (k k' : IntKind) (x y : Int) : Builtin.max2 (.int k x) (.int k' y) = pure (.int k (max x y)) := by
  have : (if x < y then y else x) = max x y := by omega
  simp only [Builtin.max2, gt_iff_lt, this]
theorem bi_min2 (k k' : IntKind) (x y : Int) : Builtin.min2 (.int k x) (.int k' y) = pure (.int k (min x y)) := by
  have : (if y < x then y else x) = min x y := by omega
  simp only [Builtin.min2, this]
theorem bi_max_two (ats : Array TypeId) (ty : TypeId) (a b : Value) : Builtin.max_ ats ty #[a, b] = (Builtin.max2 a b >>= fun s => pure s) := by simp only [Builtin.max_, List.foldlM_cons, List.foldlM_nil]
theorem bi_min_two (ats : Array TypeId) (ty : TypeId) (a b : Value) : Builtin.min_ ats ty #[a, b] = (Builtin.min2 a b >>= fun s => pure s) := by simp only [Builtin.min_, List.foldlM_cons, List.foldlM_nil]
structure Sv (p : Nat → Prop) (w w' : World) : Prop where
  os : w'.os = w.os
  tape : w'.tape = w.tape
  output : w'.output = w.output
  size : w.heap.size ≤ w'.heap.size
  block : ∀ k, p k → w'.heap[k]? = w.heap[k]?
theorem Sv.refl (p : Nat → Prop) (w : World) : Sv p w w := ⟨rfl, rfl, rfl, Nat.le_refl _, fun _ _ => rfl⟩
theorem Sv.trans {p : Nat → Prop} {a b c : World} (h : Sv p a b) (k : Sv p b c) : Sv p a c := ⟨k.os.trans h.os, k.tape.trans h.tape, k.output.trans h.output, Nat.le_trans h.size k.size, fun i hi => (k.block i hi).trans (h.block i hi)⟩
theorem Sv.below {p : Nat → Prop} {a b : World} {B : Nat} (h : Sv p a b) (hp : ∀ k, k < B → p k) : Below B a b := ⟨h.os, h.tape, h.output, h.size, fun k hk => h.block k (hp k hk)⟩
theorem Sv.cell {p : Nat → Prop} {a b : World} (h : Sv p a b) {ad : Addr} {v : Value} (hp : p ad.block) (hc : a.cell? ad = some v) : b.cell? ad = some v := by
  have h1 : Below (ad.block + 1) a b ∨ True := .inr trivial
  have e := h.block ad.block hp
  rw [← hc]
  unfold World.cell?
  rw [e]
theorem Sv.frozen {p : Nat → Prop} {a b : World} (h : Sv p a b) {ad : Addr} (hp : p ad.block) : b.frozen? ad = a.frozen? ad := by
  have e := h.block ad.block hp
  unfold World.frozen?
  rw [e]
theorem Up.sv {w w1 : World} (h : Up w w1) {p : Nat → Prop} (hp : ∀ k, p k → k < w.heap.size) : Sv p w w1 := ⟨h.os, h.tape, h.output, h.size, fun k hk => h.block k (hp k hk)⟩
theorem Sv.put {p : Nat → Prop} (W : World) (l : Nat) (o' : Obj) (hl : ¬ p l) : Sv p W (W.putObj l o') :=
  ⟨rfl, rfl, rfl, by simp, fun k hk => World.putObj_heap_other (fun e => hl (e ▸ hk))⟩
theorem Sv.set {p : Nat → Prop} {a b : World} (h : Sv p a b) (ad : Addr) (v : Value) (hp : ¬ p ad.block) : Sv p a (b.setCell ad v) := by
  have hb := Below.setCell (B := 0) (Below.refl 0 b) (p := ad) (Nat.zero_le _) v
  exact ⟨hb.os.trans h.os, hb.tape.trans h.tape, hb.output.trans h.output, Nat.le_trans h.size hb.size, fun k hk => (Below.heap_setCell b ad v k (fun e => hp (e ▸ hk))).trans (h.block k hk)⟩
theorem Sv.alloc {p : Nat → Prop} {a b : World} (h : Sv p a b) (o : Obj) (hp : ∀ k, p k → k < b.heap.size) : Sv p a (b.alloc o) :=
  h.trans (Up.sv ((Up.refl b).alloc o) hp)
theorem ret_int {k : IntKind} {a b : Int} (h : a = b) : Ending.returned (.int k a) = .returned (.int k b) := by rw [h]
theorem ret_bool {a b : Bool} (h : a = b) : Ending.returned (.bool a) = .returned (.bool b) := by rw [h]
end Go.Proofs.Ytdlekcdedahbhaa
namespace Go.Proofs.Ytdlekcdedahbhaa
open Go.RowKit Go.Proofs.YtdlekcdedahbhaaW.PrintWords
set_option linter.unusedVariables false
set_option linter.unusedSimpArgs false
def idxF {α} (p : α → Bool) : List α → Nat → Int
  | [], _ => -1
  | x :: l, i => if p x then i else idxF p l (i+1)
theorem idxF_neg {α} (p : α → Bool) : ∀ (l : List α) (k : Nat), (0 ≤ idxF p l k ↔ l.any p = true)
  | [], k => by simp [idxF]
  | x :: l, k => by
    unfold idxF
    cases h : p x
    · simpa [h] using idxF_neg p l (k+1)
    · simp [h]
theorem idxF_any {α} (p : α → Bool) (l : List α) : decide (0 ≤ idxF p l 0) = l.any p := by
  have := idxF_neg p l 0
  cases h : l.any p <;> simp_all
theorem idx_int_drop (p : Int → Bool) (l : List Int) (k : Nat) (h : k < l.length) : idxF p (l.drop k) k = if p (rd l k) then (k:Int) else idxF p (l.drop (k+1)) (k+1) := by
  rw [List.drop_eq_getElem_cons h, idxF]; simp [rd, List.getD_eq_getElem?_getD, h]
set_option maxRecDepth 100000 in
theorem index_int (fv : FuncId) (cap : Array Value) (p : Int → Bool) (A : Option Addr) (c : Nat) (l : List Int) (w : World)
    (hr : Kd.C (Kd.int .i64) w A l.length l) (hc : l.length ≤ c)
    (hE : ∀ (args : Array Value) (w : World), (callFunc fv args).run Try.prog w = .ok (.enter fv args) w)
    (hf : ∀ x W, Up w W → Calls Try.prog fv (#[.int .i64 x] ++ cap) W fun e W' => e = .returned (.bool (p x)) ∧ Up W W') :
    Calls Try.prog 97 #[.slice A l.length c, .func (.func fv) #[] cap] w fun e w' => e = .returned (.int .i64 (idxF p l 0)) ∧ Up w w' := by
  have HF := Aside0.mk hf
  have HR := Aside0.mk hr
  have hm := CF_len hr
  clear hf hr
  go_enter Try.func97, Try.ntmps97
  go_wp2
  go_loopw [8] (fun i wr => ∃ k : Nat, k ≤ l.length ∧ i = .int .i64 k ∧ Aside0 (idxF p l 0 = idxF p (l.drop k) k) ∧ Aside0 (Up w wr)) (fun i _ => l.length - (intOf i).toNat)
  case atStart => exact ⟨0, Nat.zero_le _, rfl, ⟨rfl⟩, ⟨Up.refl _⟩⟩
  case round =>
    obtain ⟨k, hk, rfl, he, hb⟩ := hrel
    by_cases hlt : k < l.length
    · obtain ⟨ad, e, hx0⟩ := Kd.at_int (C_up HR.out hb.out) k (by omega) (by omega)
      cases e
      simp only [Int.toNat_natCast] at hx0
      have hcall := HF.out (rd l k) _ hb.out
      cases hp : p (rd l k)
      all_goals
        rw [hp] at hcall
        have he2 := idx_int_drop p l k hlt
        rw [hp] at he2
        have he3 := Aside0.mk (he.out.trans he2)
        clear hp he he2
        go_wp2_with fail
        refine hcall.mono ?_
        clear hcall
        rintro e w' ⟨rfl, hb'⟩
        have hb2 := Aside0.mk (hb.out.then hb')
        clear hb' hb
        go_wp2
      · go_roundw
        case rel => exact ⟨k+1, by omega, by go_num, ⟨by simpa using he3.out⟩, hb2⟩
        case measure => simp [intOf]; omega
      · go_ret
        exact ⟨by rw [he3.out]; rfl, hb2.out⟩
    · go_wp2
      go_ret
      exact ⟨by rw [he.out, List.drop_eq_nil_of_le (by omega)]; rfl, hb.out⟩
theorem contains_int (fv : FuncId) (cap : Array Value) (p : Int → Bool) (A : Option Addr) (c : Nat) (l : List Int) (w : World)
    (hr : Kd.C (Kd.int .i64) w A l.length l) (hc : l.length ≤ c)
    (hE : ∀ (args : Array Value) (w : World), (callFunc fv args).run Try.prog w = .ok (.enter fv args) w)
    (hf : ∀ x W, Up w W → Calls Try.prog fv (#[.int .i64 x] ++ cap) W fun e W' => e = .returned (.bool (p x)) ∧ Up W W') :
    Calls Try.prog 84 #[.slice A l.length c, .func (.func fv) #[] cap] w fun e w' => e = .returned (.bool (l.any p)) ∧ Up w w' := by
  have hcall := index_int fv cap p A c l w hr hc hE hf
  clear hr hf
  have HD : Aside0 (decide (0 ≤ idxF p l 0) = l.any p) := ⟨idxF_any p l⟩
  clear hE
  go_enter Try.func84, Try.ntmps84
  go_wp2_with fail
  refine hcall.mono ?_
  clear hcall
  rintro e w' ⟨rfl, hb'⟩
  have hb2 := Aside0.mk hb'
  clear hb'
  go_wp2
  go_ret
  exact ⟨ret_bool HD.out, hb2.out⟩
theorem within1 (n lo hi : Int) (b1 b2 : Nat) (w : World) (h1 : w.cell? ⟨b1, 0, none⟩ = some (.int .i64 lo)) (h2 : w.cell? ⟨b2, 0, none⟩ = some (.int .i64 hi)) :
    Calls Try.prog 85 #[.int .i64 n, .pointer (some ⟨b1, 0, none⟩), .pointer (some ⟨b2, 0, none⟩)] w fun e w' => e = .returned (.bool (decide (n < lo) || decide (n > hi))) ∧ Up w w' := by
  by_cases c : n < lo
  · have c1 : decide (n < lo) = true := decide_eq_true c
    go_enter Try.func85, Try.ntmps85
    go_wp2
    repeat (go_quiet (fail); try go_wp2)
    go_ret
    exact ⟨by simp [c1], upA⟩
  · have c1 : decide (n < lo) = false := decide_eq_false c
    go_enter Try.func85, Try.ntmps85
    go_wp2
    repeat (go_quiet (fail); try go_wp2)
    go_ret
    exact ⟨by simp, upA⟩
def inB (lo hi : Int) (l : List Int) : Bool := !(l.any fun n => decide (n < lo) || decide (n > hi))
theorem within (lo hi : Int) (A : Option Addr) (c n : Nat) (l : List Int) (w : World) (hn : n = l.length)
    (hr : Kd.C (Kd.int .i64) w A n l) (hc : n ≤ c) :
    Calls Try.prog 58 #[.int .i64 lo, .int .i64 hi, .slice A n c] w fun e w' => e = .returned (.bool (inB lo hi l)) ∧ Up w w' := by
  subst hn
  have hcall := contains_int 85 #[.pointer (some ⟨w.heap.size, 0, none⟩), .pointer (some ⟨w.heap.size + 1, 0, none⟩)] (fun n => decide (n < lo) || decide (n > hi)) A c l
    ((w.alloc (.cells #[.int .i64 lo] 3)).alloc (.cells #[.int .i64 hi] 3)) (C_up hr upA) hc (by intro a w; kernel_rfl)
    (by
      intro x W hb
      exact within1 x lo hi w.heap.size (w.heap.size + 1) W (hb.cell (by simp)) (hb.cell (by simp)))
  clear hr
  go_enter Try.func58, Try.ntmps58
  go_wp2_with fail
  refine hcall.mono ?_
  clear hcall
  rintro e w' ⟨rfl, hb⟩
  replace hb := Aside0.mk hb
  go_wp2
  go_ret
  exact ⟨rfl, upA⟩
theorem withinL1 (lo hi a : Int) (w : World) (b : Nat) (hb : b = w.heap.size) :
    Calls Try.prog 58 #[.int .i64 lo, .int .i64 hi, .slice (some ⟨b, 0, none⟩) 1 1] (w.alloc (.cells #[.int .i64 a] 3)) fun e w' => e = .returned (.bool (inB lo hi [a])) ∧ Up w w' := by
  subst hb
  exact (within lo hi _ 1 1 [a] _ rfl (C_new w 3 [a] _ 1 rfl rfl (by simp)) (Nat.le_refl _)).mono fun e w' h => ⟨h.1, ((Up.refl _).alloc _).then h.2⟩
theorem withinL2 (lo hi a a2 : Int) (w : World) (b : Nat) (hb : b = w.heap.size) :
    Calls Try.prog 58 #[.int .i64 lo, .int .i64 hi, .slice (some ⟨b, 0, none⟩) 2 2] (w.alloc (.cells #[.int .i64 a, .int .i64 a2] 3)) fun e w' => e = .returned (.bool (inB lo hi [a, a2])) ∧ Up w w' := by
  subst hb
  exact (within lo hi _ 2 2 [a, a2] _ rfl (C_new w 3 [a, a2] _ 2 rfl rfl (by simp)) (Nat.le_refl _)).mono fun e w' h => ⟨h.1, ((Up.refl _).alloc _).then h.2⟩
theorem withinL3 (lo hi a a2 a3 : Int) (w : World) (b : Nat) (hb : b = w.heap.size) :
    Calls Try.prog 58 #[.int .i64 lo, .int .i64 hi, .slice (some ⟨b, 0, none⟩) 3 3] (w.alloc (.cells #[.int .i64 a, .int .i64 a2, .int .i64 a3] 3)) fun e w' => e = .returned (.bool (inB lo hi [a, a2, a3])) ∧ Up w w' := by
  subst hb
  exact (within lo hi _ 3 3 [a, a2, a3] _ rfl (C_new w 3 [a, a2, a3] _ 3 rfl rfl (by simp)) (Nat.le_refl _)).mono fun e w' h => ⟨h.1, ((Up.refl _).alloc _).then h.2⟩
theorem withinL4 (lo hi a a2 a3 a4 : Int) (w : World) (b : Nat) (hb : b = w.heap.size) :
    Calls Try.prog 58 #[.int .i64 lo, .int .i64 hi, .slice (some ⟨b, 0, none⟩) 4 4] (w.alloc (.cells #[.int .i64 a, .int .i64 a2, .int .i64 a3, .int .i64 a4] 3)) fun e w' => e = .returned (.bool (inB lo hi [a, a2, a3, a4])) ∧ Up w w' := by
  subst hb
  exact (within lo hi _ 4 4 [a, a2, a3, a4] _ rfl (C_new w 3 [a, a2, a3, a4] _ 4 rfl rfl (by simp)) (Nat.le_refl _)).mono fun e w' h => ⟨h.1, ((Up.refl _).alloc _).then h.2⟩
theorem inB_iff (lo hi : Int) (l : List Int) : inB lo hi l = true ↔ ∀ n ∈ l, lo ≤ n ∧ n ≤ hi := by
  unfold inB
  simp only [Bool.not_eq_true', List.any_eq_false, Bool.or_eq_true, decide_eq_true_eq]
  exact ⟨fun h n hn => by have := h n hn; omega, fun h n hn => by have := h n hn; omega⟩
structure Wk where
  q : Int
  o : Int
  l : Int
  deriving DecidableEq
def z_Wk : Wk := ⟨0, 0, 0⟩
def kWk : Kd Wk := Kd.iso (Kd.pair (Kd.int .i64) (Kd.pair (Kd.int .i64) (Kd.int .i64))) (fun x : Wk => (x.q, x.o, x.l))
theorem kWk_open {w : World} {x : Wk} {cs : List Value} (h : kWk.K w x cs) : cs = [.int .i64 x.q, .int .i64 x.o, .int .i64 x.l] := by
  obtain ⟨_, _, rfl, rfl, _, _, rfl, rfl, rfl⟩ := h
  exact rfl
theorem kWk_mk (w : World) (x : Wk) : kWk.K w x [.int .i64 x.q, .int .i64 x.o, .int .i64 x.l] := ⟨[.int .i64 x.q], [.int .i64 x.o, .int .i64 x.l], rfl, rfl, [.int .i64 x.o], [.int .i64 x.l], rfl, rfl, rfl⟩
theorem kWk_mkM (w : World) (base : Nat) (ok : Nat → Prop) (x : Wk) : kWk.M w base ok x [.int .i64 x.q, .int .i64 x.o, .int .i64 x.l] := ⟨[.int .i64 x.q], [.int .i64 x.o, .int .i64 x.l], rfl, rfl, [.int .i64 x.o], [.int .i64 x.l], rfl, rfl, rfl⟩
def rdWk (xs : List Wk) (i : Int) : Wk := xs.getD i.toNat z_Wk
theorem at_Wk {w : World} {A : Option Addr} {n : Nat} {xs : List Wk} (h : Kd.C kWk w A n xs) (i : Int) (h0 : 0 ≤ i) (h1 : i < n) : ∃ ad, A = some ad ∧ w.cell? (ad.add (i.toNat * 3)) = some (.int .i64 (rdWk xs i).q) ∧ w.cell? ⟨(ad.add (i.toNat * 3)).block, (ad.add (i.toNat * 3)).off + 1, none⟩ = some (.int .i64 (rdWk xs i).o) ∧ w.cell? ⟨(ad.add (i.toNat * 3)).block, (ad.add (i.toNat * 3)).off + 2, none⟩ = some (.int .i64 (rdWk xs i).l) := by
  obtain ⟨ad, c, e, _, hK, hc0⟩ := Kd.C_get h z_Wk i h0 h1
  have hc : ∀ j u, c[j]? = some u → w.cell? (ad.add (i.toNat * 3 + j)) = some u := hc0
  obtain rfl := kWk_open hK
  exact ⟨ad, e, hc 0 _ rfl, by rw [← add_field _ _ 1 (by omega)]; exact hc 1 _ rfl, by rw [← add_field _ _ 2 (by omega)]; exact hc 2 _ rfl⟩
theorem rdWk_mem (xs : List Wk) (i : Int) (h0 : 0 ≤ i) (h1 : i < xs.length) : rdWk xs i ∈ xs := by
  have h2 : i.toNat < xs.length := by omega
  simp [rdWk, List.getD_eq_getElem?_getD, h2]
structure Ent where
  f : Int
  t : Int
  a : Int
  deriving DecidableEq
def z_Ent : Ent := ⟨0, 0, 0⟩
def kEnt : Kd Ent := Kd.iso (Kd.pair (Kd.int .i64) (Kd.pair (Kd.int .i64) (Kd.int .i64))) (fun x : Ent => (x.f, x.t, x.a))
theorem kEnt_open {w : World} {x : Ent} {cs : List Value} (h : kEnt.K w x cs) : cs = [.int .i64 x.f, .int .i64 x.t, .int .i64 x.a] := by
  obtain ⟨_, _, rfl, rfl, _, _, rfl, rfl, rfl⟩ := h
  exact rfl
theorem kEnt_mk (w : World) (x : Ent) : kEnt.K w x [.int .i64 x.f, .int .i64 x.t, .int .i64 x.a] := ⟨[.int .i64 x.f], [.int .i64 x.t, .int .i64 x.a], rfl, rfl, [.int .i64 x.t], [.int .i64 x.a], rfl, rfl, rfl⟩
theorem kEnt_mkM (w : World) (base : Nat) (ok : Nat → Prop) (x : Ent) : kEnt.M w base ok x [.int .i64 x.f, .int .i64 x.t, .int .i64 x.a] := ⟨[.int .i64 x.f], [.int .i64 x.t, .int .i64 x.a], rfl, rfl, [.int .i64 x.t], [.int .i64 x.a], rfl, rfl, rfl⟩
def rdEnt (xs : List Ent) (i : Int) : Ent := xs.getD i.toNat z_Ent
theorem at_Ent {w : World} {A : Option Addr} {n : Nat} {xs : List Ent} (h : Kd.C kEnt w A n xs) (i : Int) (h0 : 0 ≤ i) (h1 : i < n) : ∃ ad, A = some ad ∧ w.cell? (ad.add (i.toNat * 3)) = some (.int .i64 (rdEnt xs i).f) ∧ w.cell? ⟨(ad.add (i.toNat * 3)).block, (ad.add (i.toNat * 3)).off + 1, none⟩ = some (.int .i64 (rdEnt xs i).t) ∧ w.cell? ⟨(ad.add (i.toNat * 3)).block, (ad.add (i.toNat * 3)).off + 2, none⟩ = some (.int .i64 (rdEnt xs i).a) := by
  obtain ⟨ad, c, e, _, hK, hc0⟩ := Kd.C_get h z_Ent i h0 h1
  have hc : ∀ j u, c[j]? = some u → w.cell? (ad.add (i.toNat * 3 + j)) = some u := hc0
  obtain rfl := kEnt_open hK
  exact ⟨ad, e, hc 0 _ rfl, by rw [← add_field _ _ 1 (by omega)]; exact hc 1 _ rfl, by rw [← add_field _ _ 2 (by omega)]; exact hc 2 _ rfl⟩
theorem rdEnt_mem (xs : List Ent) (i : Int) (h0 : 0 ≤ i) (h1 : i < xs.length) : rdEnt xs i ∈ xs := by
  have h2 : i.toNat < xs.length := by omega
  simp [rdEnt, List.getD_eq_getElem?_getD, h2]
structure Due where
  c : Int
  a : Int
  deriving DecidableEq
def z_Due : Due := ⟨0, 0⟩
def kDue : Kd Due := Kd.iso (Kd.pair (Kd.int .i64) (Kd.int .i64)) (fun x : Due => (x.c, x.a))
theorem kDue_open {w : World} {x : Due} {cs : List Value} (h : kDue.K w x cs) : cs = [.int .i64 x.c, .int .i64 x.a] := by
  obtain ⟨_, _, rfl, rfl, rfl⟩ := h
  exact rfl
theorem kDue_mk (w : World) (x : Due) : kDue.K w x [.int .i64 x.c, .int .i64 x.a] := ⟨[.int .i64 x.c], [.int .i64 x.a], rfl, rfl, rfl⟩
theorem kDue_mkM (w : World) (base : Nat) (ok : Nat → Prop) (x : Due) : kDue.M w base ok x [.int .i64 x.c, .int .i64 x.a] := ⟨[.int .i64 x.c], [.int .i64 x.a], rfl, rfl, rfl⟩
def rdDue (xs : List Due) (i : Int) : Due := xs.getD i.toNat z_Due
theorem at_Due {w : World} {A : Option Addr} {n : Nat} {xs : List Due} (h : Kd.C kDue w A n xs) (i : Int) (h0 : 0 ≤ i) (h1 : i < n) : ∃ ad, A = some ad ∧ w.cell? (ad.add (i.toNat * 2)) = some (.int .i64 (rdDue xs i).c) ∧ w.cell? ⟨(ad.add (i.toNat * 2)).block, (ad.add (i.toNat * 2)).off + 1, none⟩ = some (.int .i64 (rdDue xs i).a) := by
  obtain ⟨ad, c, e, _, hK, hc0⟩ := Kd.C_get h z_Due i h0 h1
  have hc : ∀ j u, c[j]? = some u → w.cell? (ad.add (i.toNat * 2 + j)) = some u := hc0
  obtain rfl := kDue_open hK
  exact ⟨ad, e, hc 0 _ rfl, by rw [← add_field _ _ 1 (by omega)]; exact hc 1 _ rfl⟩
theorem rdDue_mem (xs : List Due) (i : Int) (h0 : 0 ≤ i) (h1 : i < xs.length) : rdDue xs i ∈ xs := by
  have h2 : i.toNat < xs.length := by omega
  simp [rdDue, List.getD_eq_getElem?_getD, h2]
structure Tar where
  c : Int
  h : Int
  p : Int
  l : Int
  f : Int
def tarB (t : Tar) : Bool := inB 0 60 [t.c, t.h, t.p, t.f] && inB 0 500 [t.l]
def tarE (t : Tar) : Int := if tarB t then 0 else 2
theorem check (t : Tar) (w : World) :
    Calls Try.prog 18 #[.agg #[.int .i64 t.c, .int .i64 t.h, .int .i64 t.p, .int .i64 t.l, .int .i64 t.f]] w fun e w' => e = .returned (.int .i64 (tarE t)) ∧ Up w w' := by
  go_enter Try.func18, Try.ntmps18
  go_wp2_with (first | (go_at_call 58; (with_reducible refine (withinL4 _ _ _ _ _ _ _ _ (by simp)).mono ?_); rintro e w' ⟨rfl, hb⟩; have hbA := Aside0.mk hb; obtain ⟨hcA, hfA⟩ := hb.old; have hz := hb.le; (try simp at hz); (try have hz0 : w.heap.size < w'.heap.size := by omega); (try have hzb : w.heap.size + 1 < w'.heap.size := by omega); (try have hzc : w.heap.size + 2 < w'.heap.size := by omega); clear hb) | (go_at_call 58; (with_reducible refine (withinL1 _ _ _ _ _ (by simp)).mono ?_); rintro e w' ⟨rfl, hb⟩; have hbA := Aside0.mk hb; obtain ⟨hcA, hfA⟩ := hb.old; have hz := hb.le; (try simp at hz); (try have hz0 : w.heap.size < w'.heap.size := by omega); (try have hzb : w.heap.size + 1 < w'.heap.size := by omega); (try have hzc : w.heap.size + 2 < w'.heap.size := by omega); clear hb))
  all_goals
    go_ret
    exact ⟨ret_int (by first | (simp [tarE, tarB, *]; done) | (simp [tarE, tarB, *] <;> simp_all; done) | ((simp only [tarE, tarB]; (repeat' split)) <;> first | rfl | (exfalso; omega) | (exfalso; simp_all; done) | (exfalso; simp_all; omega) | (simp_all; done) | omega)), upA⟩
def wkB (x : Wk) : Bool := inB 0 200 [x.q] && inB 0 2000 [x.o] && inB 0 60 [x.l]
theorem isJob (x : Wk) (w : World) :
    Calls Try.prog 59 #[.agg #[.int .i64 x.q, .int .i64 x.o, .int .i64 x.l]] w fun e w' => e = .returned (.bool (wkB x)) ∧ Up w w' := by
  go_enter Try.func59, Try.ntmps59
  go_wp2_with (go_at_call 58; (with_reducible refine (withinL1 _ _ _ _ _ (by simp)).mono ?_); rintro e w' ⟨rfl, hb⟩; have hbA := Aside0.mk hb; obtain ⟨hcA, hfA⟩ := hb.old; have hz := hb.le; (try simp at hz); (try have hz0 : w.heap.size < w'.heap.size := by omega); (try have hzb : w.heap.size + 1 < w'.heap.size := by omega); (try have hzc : w.heap.size + 2 < w'.heap.size := by omega); clear hb)
  all_goals
    go_ret
    exact ⟨ret_bool (by first | (simp [wkB, *]; done) | (simp [wkB, *] <;> simp_all; done) | ((simp only [wkB]; (repeat' split)) <;> first | rfl | (exfalso; omega) | (exfalso; simp_all; done) | (exfalso; simp_all; omega) | (simp_all; done) | omega)), upA⟩
theorem begun (n s : Int) (w : World) (h0 : 0 ≤ n) (h1 : n ≤ 100000) (h2 : 1 ≤ s) (h3 : s ≤ 100) :
    Calls Try.prog 86 #[.int .i64 n, .int .i64 s] w fun e w' => e = .returned (.int .i64 ((n + s - 1) / s)) ∧ Up w w' := by
  go_enter Try.func86, Try.ntmps86
  go_wp2_with fail
  go_ret
  exact ⟨rfl, upA⟩
theorem hours (x : Wk) (w : World) (h0 : 0 ≤ x.q) (h1 : x.q ≤ 100000) :
    Calls Try.prog 60 #[.agg #[.int .i64 x.q, .int .i64 x.o, .int .i64 x.l]] w fun e w' => e = .returned (.int .i64 ((x.q + 4 - 1) / 4)) ∧ Up w w' := by
  go_enter Try.func60, Try.ntmps60
  go_wp2_with (go_at_call 86; (with_reducible refine (begun _ _ _ h0 h1 (by omega) (by omega)).mono ?_); rintro e w' ⟨rfl, hb⟩; have hbA := Aside0.mk hb; obtain ⟨hcA, hfA⟩ := hb.old; have hz := hb.le; (try simp at hz); (try have hz0 : w.heap.size < w'.heap.size := by omega); (try have hzb : w.heap.size + 1 < w'.heap.size := by omega); (try have hzc : w.heap.size + 2 < w'.heap.size := by omega); clear hb)
  go_ret
  exact ⟨rfl, upA⟩
theorem pounds (x : Wk) (w : World) (h0 : 0 ≤ x.o) (h1 : x.o ≤ 100000) :
    Calls Try.prog 61 #[.agg #[.int .i64 x.q, .int .i64 x.o, .int .i64 x.l]] w fun e w' => e = .returned (.int .i64 ((x.o + 16 - 1) / 16)) ∧ Up w w' := by
  go_enter Try.func61, Try.ntmps61
  go_wp2_with (go_at_call 86; (with_reducible refine (begun _ _ _ h0 h1 (by omega) (by omega)).mono ?_); rintro e w' ⟨rfl, hb⟩; have hbA := Aside0.mk hb; obtain ⟨hcA, hfA⟩ := hb.old; have hz := hb.le; (try simp at hz); (try have hz0 : w.heap.size < w'.heap.size := by omega); (try have hzb : w.heap.size + 1 < w'.heap.size := by omega); (try have hzc : w.heap.size + 2 < w'.heap.size := by omega); clear hb)
  go_ret
  exact ⟨rfl, upA⟩
end Go.Proofs.Ytdlekcdedahbhaa
namespace Go.Proofs.Ytdlekcdedahbhaa
open Go.RowKit Go.Shelf Go.Proofs.YtdlekcdedahbhaaW.PrintWords
set_option linter.unusedVariables false
set_option linter.unusedSimpArgs false
def Bx (w : World) (B : Nat) (C : Array Value) (T : TypeId) : Prop := w.heap[B]? = some (.cells C T (0, 0))
theorem Bx.new (w : World) (C : Array Value) (T : TypeId) : Bx (w.alloc (.cells C T)) w.heap.size C T := World.alloc_heap_new w _
theorem Bx.lt {w B C T} (h : Bx w B C T) : B < w.heap.size := (Array.getElem?_eq_some_iff.1 h).1
theorem Bx.up {w w' B C T} (h : Bx w B C T) (hu : Up w w') : Bx w' B C T := (hu.block B h.lt).trans h
theorem Bx.cell {w B C T} (h : Bx w B C T) (o : Nat) : w.cell? ⟨B, o, none⟩ = C[o]? := by simp [World.cell?, show w.heap[B]? = _ from h]
theorem Bx.frozen {w B C T} (h : Bx w B C T) (o : Nat) : w.frozen? ⟨B, o, none⟩ = false := by simp [World.frozen?, show w.heap[B]? = _ from h]
theorem Bx.own {A B : World} {row : Option Nat} {b : Nat} {C : Array Value} {T : Nat} (h : Bx A b C T) (hg : A.grownBy B row) (hr : ∀ r, row = some r → ∃ o : Obj, A.heap[r]? = some o ∧ o.isCells = false) : Bx B b C T := by
  refine (hg.block b h.lt (fun e => ?_)).trans h
  obtain ⟨o, h1, h2⟩ := hr b e.symm
  rw [show A.heap[b]? = _ from h] at h1
  cases h1
  cases h2
theorem Bx.far {w B B' C T} (h : Bx w B C T) (hne : B ≠ B') (o : Nat) (u : Value) : Bx (w.setCell ⟨B', o, none⟩ u) B C T := (Below.heap_setCell w ⟨B', o, none⟩ u B hne).trans h
theorem own_up {w w' : World} {base e size v n xs} (h : w.ownsRow base e size v n xs) (hu : Up w w') : w'.ownsRow base e size v n xs := pw_own_below h hu
theorem own_mono {w : World} {base base' e size n : Nat} {v : Value} {xs : List Value} (h : w.ownsRow base e size v n xs) (hb : base' ≤ base) : w.ownsRow base' e size v n xs := by
  refine ⟨h.1, h.2.imp id ?_⟩
  rintro ⟨g, cap, cur, h1, h2, h3⟩
  exact ⟨g, cap, cur, h1, Nat.le_trans hb h2, h3⟩
def cellsS : List Sp → List Value
  | [] => []
  | s :: l => .int .i64 s.lo :: .int .i64 s.hi :: cellsS l
theorem cellsS_length : ∀ l : List Sp, (cellsS l).length = l.length * 2
  | [] => rfl
  | s :: l => by simp [cellsS, cellsS_length l]; omega
theorem cellsS_lo : ∀ (l : List Sp) (i : Nat), i < l.length → (cellsS l)[2 * i]? = some (.int .i64 (rdS l i).lo)
  | s :: l, 0, _ => by simp [cellsS, rdS]
  | s :: l, i + 1, h => by
    have := cellsS_lo l i (by simpa using h)
    rw [show 2 * (i + 1) = 2 * i + 1 + 1 by omega]
    simp only [cellsS, List.getElem?_cons_succ, this]
    simp [rdS]
theorem cellsS_hi : ∀ (l : List Sp) (i : Nat), i < l.length → (cellsS l)[2 * i + 1]? = some (.int .i64 (rdS l i).hi)
  | s :: l, 0, _ => by simp [cellsS, rdS]
  | s :: l, i + 1, h => by
    have := cellsS_hi l i (by simpa using h)
    rw [show 2 * (i + 1) + 1 = 2 * i + 1 + 1 + 1 by omega]
    simp only [cellsS, List.getElem?_cons_succ, this]
    simp [rdS]
theorem cellsS_append (a b : List Sp) : cellsS (a ++ b) = cellsS a ++ cellsS b := by
  induction a with
  | nil => rfl
  | cons x a ih => simp [cellsS, ih]
theorem cellsS_one : ∀ (l : List Sp), ∀ u ∈ cellsS l, u.oneCell' = true
  | [], u, h => by cases h
  | s :: l, u, h => by
    simp only [cellsS, List.mem_cons] at h
    rcases h with rfl | rfl | h
    · rfl
    · rfl
    · exact cellsS_one l u h
def Sps (w : World) (g T : Nat) (xs : List Sp) : Prop := ∃ cur, w.heap[g]? = some (.cells cur T (0, 0)) ∧ ∀ i, i < xs.length → cur[2 * i]? = some (.int .i64 (rdS xs i).lo) ∧ cur[2 * i + 1]? = some (.int .i64 (rdS xs i).hi)
theorem Sps.cell {w g T xs} (h : Sps w g T xs) (i : Nat) (hi : i < xs.length) : w.cell? ⟨g, 2 * i, none⟩ = some (.int .i64 (rdS xs i).lo) ∧ w.cell? ⟨g, 2 * i + 1, none⟩ = some (.int .i64 (rdS xs i).hi) := by
  obtain ⟨cur, h1, h2⟩ := h
  simp [World.cell?, h1, h2 i hi]
theorem Sps.frozen {w g T xs} (h : Sps w g T xs) (o : Nat) : w.frozen? ⟨g, o, none⟩ = false := by
  obtain ⟨cur, h1, h2⟩ := h
  simp [World.frozen?, h1]
theorem Sps.lt {w g T xs} (h : Sps w g T xs) : g < w.heap.size := by
  obtain ⟨cur, h1, _⟩ := h
  exact (Array.getElem?_eq_some_iff.1 h1).1
theorem Sps.up {w w' g T xs} (h : Sps w g T xs) (hu : Up w w') : Sps w' g T xs := by
  have hl := h.lt
  obtain ⟨cur, h1, h2⟩ := h
  exact ⟨cur, (hu.block g hl).trans h1, h2⟩
theorem Sps.far {w g T xs} (h : Sps w g T xs) {B : Nat} (hne : g ≠ B) (o : Nat) (u : Value) : Sps (w.setCell ⟨B, o, none⟩ u) g T xs := by
  obtain ⟨cur, h1, h2⟩ := h
  exact ⟨cur, (Below.heap_setCell w ⟨B, o, none⟩ u g hne).trans h1, h2⟩
theorem Sps.set {w g T xs} (h : Sps w g T xs) (i : Nat) (hi : i < xs.length) (a b : Int) : Sps ((w.setCell ⟨g, 2 * i, none⟩ (.int .i64 a)).setCell ⟨g, 2 * i + 1, none⟩ (.int .i64 b)) g T (xs.set i ⟨a, b⟩) := by
  obtain ⟨cur, h1, h2⟩ := h
  have hb1 := (Array.getElem?_eq_some_iff.1 (h2 i hi).1).1
  have hb2 := (Array.getElem?_eq_some_iff.1 (h2 i hi).2).1
  refine ⟨(cur.setIfInBounds (2 * i) (.int .i64 a)).setIfInBounds (2 * i + 1) (.int .i64 b), ?_, fun j hj => ?_⟩
  · unfold World.setCell
    dsimp only
    rw [Array.getElem?_modify, if_pos rfl, Array.getElem?_modify, if_pos rfl, h1]
    rfl
  · rw [List.length_set] at hj
    by_cases e : i = j
    · subst e
      simp [rdS, hi, hb1, hb2, Array.getElem?_setIfInBounds]
    · have h3 := h2 j hj
      have e1 : ¬ 2 * i + 1 = 2 * j := by omega
      have e2 : ¬ 2 * i = 2 * j := by omega
      have e3 : ¬ 2 * i + 1 = 2 * j + 1 := by omega
      have e4 : ¬ 2 * i = 2 * j + 1 := by omega
      have e5 : rdS (xs.set i ⟨a, b⟩) j = rdS xs j := by simp [rdS, e]
      rw [e5]
      simp only [Array.getElem?_setIfInBounds, if_neg e1, if_neg e2, if_neg e3, if_neg e4]
      exact h3
theorem rdS_set (l : List Sp) (i j : Nat) (s : Sp) (hi : i < l.length) : rdS (l.set i s) (j : Nat) = if j = i then s else rdS l (j : Nat) := by
  by_cases e : j = i
  · subst e; simp [rdS, hi]
  · simp [rdS, e, Ne.symm e]
theorem Sps.setHi {w g T xs} (h : Sps w g T xs) (i : Nat) (hi : i < xs.length) (b : Int) : Sps (w.setCell ⟨g, 2 * i + 1, none⟩ (.int .i64 b)) g T (xs.set i ⟨(rdS xs i).lo, b⟩) := by
  obtain ⟨cur, h1, h2⟩ := h
  have hb2 := (Array.getElem?_eq_some_iff.1 (h2 i hi).2).1
  refine ⟨cur.setIfInBounds (2 * i + 1) (.int .i64 b), ?_, fun j hj => ?_⟩
  · unfold World.setCell
    dsimp only
    rw [Array.getElem?_modify, if_pos rfl, h1]
    rfl
  · rw [List.length_set] at hj
    rw [rdS_set _ _ _ _ hi]
    have h3 := h2 j hj
    by_cases e : j = i
    · subst e
      simp only [if_pos trivial, Array.getElem?_setIfInBounds]
      rw [if_neg (by omega), if_pos hb2]
      exact ⟨h3.1, rfl⟩
    · simp only [if_neg e, Array.getElem?_setIfInBounds]
      rw [if_neg (by omega), if_neg (by omega)]
      exact h3
theorem C_ofSps {w g T} {xs : List Sp} (h : Sps w g T xs) (hm : xs.length ≤ 9223372036854775807) (n : Nat) (hn : n = xs.length) : Kd.C kSp w (some ⟨g, 0, none⟩) n xs := by
  subst hn
  refine ⟨rfl, hm, fun hp => ⟨⟨g, 0, none⟩, rfl, fun j x hj => ?_⟩⟩
  have hj2 := (List.getElem?_eq_some_iff.1 hj).1
  have hc := h.cell j hj2
  have hx : rdS xs j = x := by simp [rdS, List.getD_eq_getElem?_getD, hj]
  rw [hx] at hc
  refine ⟨[.int .i64 x.lo, .int .i64 x.hi], rfl, kSp_mk w x, fun i u hu => ?_⟩
  rw [add_plain]
  match i, hu with
  | 0, hu =>
    simp at hu
    subst hu
    rw [← hc.1, show (j * kSp.sz + 0) = 2 * j by show j * 2 + 0 = 2 * j; omega]
  | 1, hu =>
    simp at hu
    subst hu
    rw [← hc.2, show (j * kSp.sz + 1) = 2 * j + 1 by show j * 2 + 1 = 2 * j + 1; omega]
  | i + 2, hu => simp at hu
theorem rdS_nat (xs : List Sp) (k : Nat) (h : k < xs.length) : rdS xs (k : Int) = xs[k] := by simp [rdS, h]
theorem cells_ofC {w : World} {A : Option Addr} {xs : List Sp} (h : Kd.C kSp w A xs.length xs) (h0 : 0 < xs.length) : ∃ ad, A = some ad ∧ ∀ j u, (cellsS xs)[j]? = some u → w.cell? (ad.add j) = some u := by
  obtain ⟨ad, rfl, hc⟩ := h.2.2 h0
  refine ⟨ad, rfl, fun j u hu => ?_⟩
  have hj := (List.getElem?_eq_some_iff.1 hu).1
  rw [cellsS_length] at hj
  obtain ⟨cs, _, hk, hcs⟩ := hc (j / 2) (rdS xs (j / 2 : Nat)) (by rw [rdS_nat xs (j / 2) (by omega), List.getElem?_eq_getElem])
  obtain rfl := kSp_open hk
  have hsz : kSp.sz = 2 := rfl
  rw [hsz] at hcs
  rcases Nat.mod_two_eq_zero_or_one j with e | e
  · have h1 := cellsS_lo xs (j / 2) (by omega)
    rw [show 2 * (j / 2) = j by omega, hu] at h1
    cases h1
    have := hcs 0 _ rfl
    rwa [show j / 2 * 2 + 0 = j by omega] at this
  · have h1 := cellsS_hi xs (j / 2) (by omega)
    rw [show 2 * (j / 2) + 1 = j by omega, hu] at h1
    cases h1
    have := hcs 1 _ rfl
    rwa [show j / 2 * 2 + 1 = j by omega] at this
theorem Sps.ofOwn {w : World} {base T : Nat} {v : Value} {xs : List Sp} (h : w.ownsRow base T 2 v xs.length (cellsS xs)) (h0 : 0 < xs.length) : ∃ g cap, v = .slice (some ⟨g, 0, none⟩) xs.length cap ∧ base ≤ g ∧ xs.length ≤ cap ∧ Sps w g T xs := by
  rcases h.2 with ⟨_, hn⟩ | ⟨g, cap, cur, rfl, hb, hg, hcap, _, hsz, htk⟩
  · omega
  · have hget : ∀ k, k < xs.length * 2 → cur[k]? = (cellsS xs)[k]? := by
      intro k hk
      rw [← htk, List.getElem?_take, if_pos hk, Array.getElem?_toList]
    refine ⟨g, cap, rfl, hb, hcap, cur, hg, fun i hi => ⟨?_, ?_⟩⟩
    · rw [hget _ (by omega), cellsS_lo xs i hi]
    · rw [hget _ (by omega), cellsS_hi xs i hi]
theorem info_span : (Try.prog.info? 44).map (fun i => (i.zero, i.size, i.bytes)) = some (some (.agg #[.int .i64 0, .int .i64 0]), 2, 16) := by kernel_rfl
theorem info_int : (Try.prog.info? 3).map (fun i => (i.zero, i.size, i.bytes)) = some (some (.int .i64 0), 1, 8) := by kernel_rfl
theorem ownF_slice {w : World} {base e size n : Nat} {v : Value} {xs : List Value} (h : w.ownsRow base e size v n xs) : ∃ A c, v = .slice A n c ∧ n ≤ c ∧ (0 < n → ∃ g cur, A = some ⟨g, 0, none⟩ ∧ w.heap[g]? = some (.cells cur e (0, 0)) ∧ ∀ j, j < n * size → cur[j]? = xs[j]?) := by
  rcases h.2 with ⟨rfl, rfl⟩ | ⟨g, cap, cur, rfl, hb, hg, hcap, _, hsz, htk⟩
  · exact ⟨none, 0, rfl, Nat.le_refl _, fun h => absurd h (Nat.lt_irrefl _)⟩
  · exact ⟨_, cap, rfl, hcap, fun _ => ⟨g, cur, rfl, hg, fun j hj => by rw [← htk, List.getElem?_take, if_pos hj, Array.getElem?_toList]⟩⟩
theorem own_C_int {w : World} {base e : Nat} {v : Value} {xs : List Int} (h : w.ownsRow base e 1 v xs.length (nums .i64 xs)) (hm : xs.length ≤ 9223372036854775807) : ∃ A c, v = .slice A xs.length c ∧ xs.length ≤ c ∧ Kd.C (Kd.int .i64) w A xs.length xs := by
  obtain ⟨A, c, hv, hc, hg⟩ := ownF_slice h
  refine ⟨A, c, hv, hc, Kd.C_of_reads (d := (0 : Int)) (h1 := fun _ => rfl) ⟨rfl, hm, fun hp => ?_⟩⟩
  obtain ⟨g, cur, hA, hg, hcur⟩ := hg hp
  refine ⟨_, hA, fun j hj => ?_⟩
  have h1 := hcur j (by omega)
  rw [add_plain]
  simp [World.cell?, hg, h1, nums, hj]
theorem own_C_Sp {w : World} {base e : Nat} {v : Value} {xs : List Sp} (h : w.ownsRow base e 2 v xs.length (cellsS xs)) (hm : xs.length ≤ 9223372036854775807) : ∃ A c, v = .slice A xs.length c ∧ xs.length ≤ c ∧ Kd.C kSp w A xs.length xs := by
  obtain ⟨A, c, hv, hc, hg⟩ := ownF_slice h
  by_cases hp : 0 < xs.length
  · obtain ⟨g, cur, hA, hg2, hcur⟩ := hg hp
    refine ⟨A, c, hv, hc, ?_⟩
    subst hA
    refine C_ofSps (T := e) ⟨cur, hg2, fun i hi => ⟨?_, ?_⟩⟩ hm _ rfl
    · rw [hcur _ (by omega), cellsS_lo xs i hi]
    · rw [hcur _ (by omega), cellsS_hi xs i hi]
  · have h0 : xs = [] := List.eq_nil_of_length_eq_zero (by omega)
    subst h0
    exact ⟨A, c, hv, hc, rfl, hm, fun h => absurd h hp⟩
theorem append_all {P : Program} {ops : Array Oper} {rest : List Oper} {o : Oper} {a : Act} {Q : Exit → Act → World → Prop} {W : World} (base : Nat) (hgd : o.guard = none) (s x : Operand) (t e : TypeId) (z : Value) (size bytes : Nat)
    (ho : o.op = .call { callee := .builtin .append, args := #[s, x], argTypes := #[t, t] })
    (ht : P.underlying t = some (.slice e)) (hinfo : (P.info? e).map (fun i => (i.zero, i.size, i.bytes)) = some (some z, size, bytes)) (hz : z.cells.size = size) (hs0 : 0 < size) (hb0 : 0 < bytes)
    (v : Value) (n : Nat) (xs news : List Value) (A : Option Addr) (m c : Nat) (hs : a.eval s = v) (hx : a.eval x = .slice A m c)
    (HO : W.ownsRow base e size v n xs) (hl : news.length = m * size) (HR : 0 < m → ∃ ad, A = some ad ∧ ∀ j u, news[j]? = some u → W.cell? (ad.add j) = some u) (h1 : ∀ u ∈ news, u.oneCell' = true) (hbase : base ≤ W.heap.size) (hbig : (n + m) * bytes ≤ 140737488355328)
    (h : ∀ v1 w1, w1.ownsRow base e size v1 (n + m) (xs ++ news) → W.grownBy w1 v.ownBlock → wpList P ops Q rest (a.put o.dst v1) w1) :
    wpList P ops Q (o :: rest) a W := by
  obtain ⟨i0, hi, hzz⟩ := Option.map_eq_some_iff.1 hinfo
  simp only [Prod.mk.injEq] at hzz
  obtain ⟨hz0, hz1, hz2⟩ := hzz
  have hlen : n + m ≤ 140737488355328 := Nat.le_trans (Nat.le_mul_of_pos_right _ hb0) hbig
  have hrun : ∃ v1 w1, (Builtin.append_ #[t, t] o.type #[v, .slice A m c]).run P W = .ok v1 w1 ∧ w1.ownsRow base e size v1 (n + m) (xs ++ news) ∧ W.grownBy w1 v.ownBlock := by
    rcases A with _ | ad
    · have h0 : m = 0 := by
        rcases Nat.eq_zero_or_pos m with h0 | h0
        · exact h0
        · obtain ⟨ad, h, _⟩ := HR h0
          cases h
      subst h0
      obtain rfl : news = [] := List.eq_nil_of_length_eq_zero (by omega)
      refine ⟨v, W, ?_, by simpa using HO, World.grownBy.refl W _⟩
      rcases HO.2 with ⟨rfl, hn⟩ | ⟨g, cap, cur, rfl, _, _, hnc, _⟩
      · simp [Builtin.append_, run_underlying ht, sizeOf, typeInfo, hi, Builtin.lenOf, Builtin.firstCells]
      · simp [Builtin.append_, run_underlying ht, sizeOf, typeInfo, hi, Builtin.lenOf, Builtin.firstCells, hnc, storeCells]
    · have hcells : ∀ j u, news[j]? = some u → W.cell? (ad.add j) = some u := by
        intro j u hu
        have hj : j < news.length := (List.getElem?_eq_some_iff.1 hu).1
        have hm : 0 < m := by
          rcases Nat.eq_zero_or_pos m with h0 | h0
          · subst h0; simp at hl; subst hl; simp at hj
          · exact h0
        obtain ⟨ad', h', hc⟩ := HR hm
        injection h' with h'
        subst h'
        exact hc j u hu
      obtain ⟨v1, w1, hr, h2, h3, _, h5⟩ := run_append_own_at (P := P) W base t o.type e i0 z size bytes ht hi hz0 hz1 hz2 hz hs0 v n xs HO ad m c news hl hcells h1 (by simp only [maxLen]; omega) hbig hbase
      exact ⟨v1, w1, hr, h2, h3⟩
  obtain ⟨v1, w1, hr, h2, h3⟩ := hrun
  refine wpList_plain hgd fun K hK => ?_
  unfold Oper.wp execOp
  simp only [ho, resolve, invoke, builtin, Sem.run_bind, Sem.run_pure, Result.andThen_ok, List.map_toArray, List.map_cons, List.map_nil, hs, hx, hr]
  exact hK _ _ (h v1 w1 h2 h3)
def Spc (w : World) (g T cap : Nat) (xs : List Sp) : Prop := (xs.length ≤ cap ∧ cap ≤ maxLen) ∧ ∃ cur, w.heap[g]? = some (.cells cur T (0, 0)) ∧ cur.size = cap * 2 ∧ ∀ i, i < xs.length → cur[2 * i]? = some (.int .i64 (rdS xs i).lo) ∧ cur[2 * i + 1]? = some (.int .i64 (rdS xs i).hi)
theorem Spc.sps {w g T cap xs} (h : Spc w g T cap xs) : Sps w g T xs := by
  obtain ⟨_, cur, h1, _, h2⟩ := h
  exact ⟨cur, h1, h2⟩
theorem Spc.up {w w' g T cap xs} (h : Spc w g T cap xs) (hu : Up w w') : Spc w' g T cap xs := by
  have hl := h.sps.lt
  obtain ⟨h0, cur, h1, h2⟩ := h
  exact ⟨h0, cur, (hu.block g hl).trans h1, h2⟩
theorem Spc.far {w g T cap xs} (h : Spc w g T cap xs) {B : Nat} (hne : g ≠ B) (o : Nat) (u : Value) : Spc (w.setCell ⟨B, o, none⟩ u) g T cap xs := by
  obtain ⟨h0, cur, h1, h2⟩ := h
  exact ⟨h0, cur, (Below.heap_setCell w ⟨B, o, none⟩ u g hne).trans h1, h2⟩
theorem Spc.own {A B : World} {row : Option Nat} {g T cap : Nat} {xs : List Sp} (h : Spc A g T cap xs) (hg : A.grownBy B row) (hr : ∀ r, row = some r → ∃ o : Obj, A.heap[r]? = some o ∧ o.isCells = false) : Spc B g T cap xs := by
  obtain ⟨h0, cur, h1, h2⟩ := h
  exact ⟨h0, cur, Bx.own h1 hg hr, h2⟩
theorem Spc.setHi {w g T cap xs} (h : Spc w g T cap xs) (i : Nat) (hi : i < xs.length) (b : Int) : Spc (w.setCell ⟨g, 2 * i + 1, none⟩ (.int .i64 b)) g T cap (xs.set i ⟨(rdS xs i).lo, b⟩) := by
  obtain ⟨h0, cur, h1, hs, h2⟩ := h
  have h5 : (w.setCell ⟨g, 2 * i + 1, none⟩ (.int .i64 b)).heap[g]? = some (.cells (cur.setIfInBounds (2 * i + 1) (.int .i64 b)) T (0, 0)) := by
    unfold World.setCell
    dsimp only
    rw [Array.getElem?_modify, if_pos rfl, h1]
    rfl
  obtain ⟨cur', h3, h4⟩ := (show Sps w g T xs from ⟨cur, h1, h2⟩).setHi i hi b
  rw [h5] at h3
  cases h3
  exact ⟨by rw [List.length_set]; exact h0, _, h5, by simp [hs], h4⟩
theorem Spc.ofOwn {w : World} {base T : Nat} {v : Value} {xs : List Sp} (h : w.ownsRow base T 2 v xs.length (cellsS xs)) (h0 : 0 < xs.length) : ∃ g cap, v = .slice (some ⟨g, 0, none⟩) xs.length cap ∧ base ≤ g ∧ xs.length ≤ cap ∧ Spc w g T cap xs := by
  rcases h.2 with ⟨_, hn⟩ | ⟨g, cap, cur, rfl, hb, hg, hcap, hml, hsz, htk⟩
  · omega
  · have hget : ∀ k, k < xs.length * 2 → cur[k]? = (cellsS xs)[k]? := by
      intro k hk
      rw [← htk, List.getElem?_take, if_pos hk, Array.getElem?_toList]
    refine ⟨g, cap, rfl, hb, hcap, ⟨hcap, hml⟩, cur, hg, hsz, fun i hi => ⟨?_, ?_⟩⟩
    · rw [hget _ (by omega), cellsS_lo xs i hi]
    · rw [hget _ (by omega), cellsS_hi xs i hi]
theorem Spc.toOwn {w : World} {base g T cap : Nat} {xs : List Sp} (h : Spc w g T cap xs) (hb : base ≤ g) : w.ownsRow base T 2 (.slice (some ⟨g, 0, none⟩) xs.length cap) xs.length (cellsS xs) := by
  obtain ⟨⟨h1, h2⟩, cur, h3, h4, h5⟩ := h
  refine ⟨cellsS_length xs, .inr ⟨g, cap, cur, rfl, hb, h3, h1, h2, h4, ?_⟩⟩
  apply List.ext_getElem?
  intro j
  rw [List.getElem?_take]
  split
  · rw [Array.getElem?_toList]
    have hlt : j / 2 < xs.length := by omega
    rcases Nat.mod_two_eq_zero_or_one j with e | e
    · rw [show j = 2 * (j / 2) by omega, (h5 (j / 2) hlt).1, cellsS_lo xs (j / 2) hlt]
    · rw [show j = 2 * (j / 2) + 1 by omega, (h5 (j / 2) hlt).2, cellsS_hi xs (j / 2) hlt]
  · rw [List.getElem?_eq_none]
    rw [cellsS_length]
    omega
theorem Spc.set {w g T cap xs} (h : Spc w g T cap xs) (i : Nat) (hi : i < xs.length) (a b : Int) : Spc ((w.setCell ⟨g, 2 * i, none⟩ (.int .i64 a)).setCell ⟨g, 2 * i + 1, none⟩ (.int .i64 b)) g T cap (xs.set i ⟨a, b⟩) := by
  obtain ⟨h0, cur, h1, hs, h2⟩ := h
  have h5 : ((w.setCell ⟨g, 2 * i, none⟩ (.int .i64 a)).setCell ⟨g, 2 * i + 1, none⟩ (.int .i64 b)).heap[g]? = some (.cells ((cur.setIfInBounds (2 * i) (.int .i64 a)).setIfInBounds (2 * i + 1) (.int .i64 b)) T (0, 0)) := by
    unfold World.setCell
    dsimp only
    rw [Array.getElem?_modify, if_pos rfl, Array.getElem?_modify, if_pos rfl, h1]
    rfl
  obtain ⟨cur', h3, h4⟩ := (show Sps w g T xs from ⟨cur, h1, h2⟩).set i hi a b
  rw [h5] at h3
  cases h3
  exact ⟨by rw [List.length_set]; exact h0, _, h5, by simp [hs], h4⟩
end Go.Proofs.Ytdlekcdedahbhaa
namespace Go.Proofs.Ytdlekcdedahbhaa
open Go.RowKit Go.Proofs.YtdlekcdedahbhaaW.PrintWords
set_option linter.unusedVariables false
set_option linter.unusedSimpArgs false
attribute [local go_sem] bi_max2 bi_min2 bi_max_two bi_min_two
theorem wkB_iff (x : Wk) : wkB x = true ↔ (0 ≤ x.q ∧ x.q ≤ 200) ∧ (0 ≤ x.o ∧ x.o ≤ 2000) ∧ (0 ≤ x.l ∧ x.l ≤ 60) := by
  unfold wkB
  simp only [Bool.and_eq_true, inB_iff, List.mem_singleton, forall_eq, and_assoc]
theorem tarB_iff (t : Tar) : tarB t = true ↔ (0 ≤ t.c ∧ t.c ≤ 60) ∧ (0 ≤ t.h ∧ t.h ≤ 60) ∧ (0 ≤ t.p ∧ t.p ≤ 60) ∧ (0 ≤ t.f ∧ t.f ≤ 60) ∧ (0 ≤ t.l ∧ t.l ≤ 500) := by
  unfold tarB
  simp only [Bool.and_eq_true, inB_iff, List.mem_cons, List.not_mem_nil, or_false, forall_eq_or_imp, forall_eq, and_assoc]
theorem tarE_zero (t : Tar) : tarE t = 0 ↔ tarB t = true := by
  unfold tarE
  cases tarB t <;> simp
def hrs (x : Wk) : Int := (x.q + 4 - 1) / 4
def pds (x : Wk) : Int := (x.o + 16 - 1) / 16
theorem hrs_bd (x : Wk) (h : wkB x = true) : 0 ≤ hrs x ∧ hrs x ≤ 50 := by
  have := (wkB_iff x).1 h
  unfold hrs; omega
theorem pds_bd (x : Wk) (h : wkB x = true) : 0 ≤ pds x ∧ pds x ≤ 125 := by
  have := (wkB_iff x).1 h
  unfold pds; omega
theorem mul_bd {a b A B : Int} (h : 0 ≤ a ∧ a ≤ A) (k : 0 ≤ b ∧ b ≤ B) : 0 ≤ a * b ∧ a * b ≤ A * B :=
  ⟨Int.mul_nonneg h.1 k.1, Int.mul_le_mul h.2 k.2 k.1 (by omega)⟩
theorem hours' (x : Wk) (w : World) (h : wkB x = true) : Calls Try.prog 60 #[.agg #[.int .i64 x.q, .int .i64 x.o, .int .i64 x.l]] w fun e w' => e = .returned (.int .i64 (hrs x)) ∧ Up w w' :=
  hours x w (by have := (wkB_iff x).1 h; omega) (by have := (wkB_iff x).1 h; omega)
theorem pounds' (x : Wk) (w : World) (h : wkB x = true) : Calls Try.prog 61 #[.agg #[.int .i64 x.q, .int .i64 x.o, .int .i64 x.l]] w fun e w' => e = .returned (.int .i64 (pds x)) ∧ Up w w' :=
  pounds x w (by have := (wkB_iff x).1 h; omega) (by have := (wkB_iff x).1 h; omega)
def feeV (t : Tar) (x : Wk) : Int := max t.l (t.c + t.h * hrs x + t.p * pds x) + t.f * x.l
def feeE (t : Tar) (x : Wk) : Int := if tarE t = 0 then (if wkB x then 0 else 3) else tarE t
def feeI (t : Tar) (x : Wk) : Int := if feeE t x = 0 then feeV t x else 0
set_option maxHeartbeats 1000000 in
theorem fee_ (t : Tar) (x : Wk) (w : World) :
    Calls Try.prog 19 #[.agg #[.int .i64 t.c, .int .i64 t.h, .int .i64 t.p, .int .i64 t.l, .int .i64 t.f], .agg #[.int .i64 x.q, .int .i64 x.o, .int .i64 x.l]] w fun e w' => e = .returned (.tuple #[.int .i64 (feeI t x), .int .i64 (feeE t x)]) ∧ Up w w' := by
  by_cases h1 : tarE t = 0
  · have hb1 : (tarE t != 0) = false := by simp [h1]
    cases h2 : wkB x
    · have H2 := Aside0.mk h2
      have H1 := Aside0.mk h1
      clear h2 h1
      go_enter Try.func19, Try.ntmps19
      go_wp2_with (first | (go_at_call 18; (with_reducible refine (check _ _).mono ?_); rintro e w' ⟨rfl, hb⟩; have hbA := Aside0.mk hb; obtain ⟨hcA, hfA⟩ := hb.old; have hz := hb.le; (try simp at hz); (try have hz0 : w.heap.size < w'.heap.size := by omega); (try have hzb : w.heap.size + 1 < w'.heap.size := by omega); (try have hzc : w.heap.size + 2 < w'.heap.size := by omega); clear hb) | (go_at_call 59; (with_reducible refine (H2.out ▸ isJob x _).mono ?_); rintro e w' ⟨rfl, hb⟩; have hbA := Aside0.mk hb; obtain ⟨hcA, hfA⟩ := hb.old; have hz := hb.le; (try simp at hz); (try have hz0 : w.heap.size < w'.heap.size := by omega); (try have hzb : w.heap.size + 1 < w'.heap.size := by omega); (try have hzc : w.heap.size + 2 < w'.heap.size := by omega); clear hb))
      go_ret2
      exact ⟨by simp [feeI, feeE, H1.out, H2.out], upA⟩
    · have b1 := (tarB_iff t).1 ((tarE_zero t).1 h1)
      have b2 := (wkB_iff x).1 h2
      have b3 := hrs_bd x h2
      have b4 := pds_bd x h2
      have b5 := mul_bd b1.2.1 b3
      have b6 := mul_bd b1.2.2.1 b4
      have b7 := mul_bd b1.2.2.2.1 b2.2.2
      have b8 := b1.2.2.2.2
      have b9 := b1.1
      have H2 := Aside0.mk h2
      have H1 := Aside0.mk h1
      clear h2 h1 b1
      have hw1 : IntKind.i64.wrap (t.h * hrs x) = t.h * hrs x := IntWalk.i64_in _ (by omega)
      have hw2 : IntKind.i64.wrap (t.p * pds x) = t.p * pds x := IntWalk.i64_in _ (by omega)
      have hw3 : IntKind.i64.wrap (t.f * x.l) = t.f * x.l := IntWalk.i64_in _ (by omega)
      have hw4 : IntKind.i64.wrap (t.c + t.h * hrs x) = t.c + t.h * hrs x := IntWalk.i64_in _ (by omega)
      have hw5 : IntKind.i64.wrap (t.c + t.h * hrs x + t.p * pds x) = t.c + t.h * hrs x + t.p * pds x := IntWalk.i64_in _ (by omega)
      have hw6 : IntKind.i64.wrap (max t.l (t.c + t.h * hrs x + t.p * pds x) + t.f * x.l) = max t.l (t.c + t.h * hrs x + t.p * pds x) + t.f * x.l := IntWalk.i64_in _ (by omega)
      go_enter Try.func19, Try.ntmps19
      go_wp2_with (first | (go_at_call 18; (with_reducible refine (check _ _).mono ?_); rintro e w' ⟨rfl, hb⟩; have hbA := Aside0.mk hb; obtain ⟨hcA, hfA⟩ := hb.old; have hz := hb.le; (try simp at hz); (try have hz0 : w.heap.size < w'.heap.size := by omega); (try have hzb : w.heap.size + 1 < w'.heap.size := by omega); (try have hzc : w.heap.size + 2 < w'.heap.size := by omega); clear hb) | (go_at_call 59; (with_reducible refine (H2.out ▸ isJob x _).mono ?_); rintro e w' ⟨rfl, hb⟩; have hbA := Aside0.mk hb; obtain ⟨hcA, hfA⟩ := hb.old; have hz := hb.le; (try simp at hz); (try have hz0 : w.heap.size < w'.heap.size := by omega); (try have hzb : w.heap.size + 1 < w'.heap.size := by omega); (try have hzc : w.heap.size + 2 < w'.heap.size := by omega); clear hb))
      have hup : Up ((w.alloc (.cells #[.int .i64 t.c, .int .i64 t.h, .int .i64 t.p, .int .i64 t.l, .int .i64 t.f] 23)).alloc (.cells #[.int .i64 x.q, .int .i64 x.o, .int .i64 x.l] 25)) w' := upA
      have hq1 : ∀ o, (w'.alloc (.cells #[.int .i64 x.q, .int .i64 x.o, .int .i64 x.l] 124)).cell? ⟨w.heap.size, o, none⟩ = (#[.int .i64 t.c, .int .i64 t.h, .int .i64 t.p, .int .i64 t.l, .int .i64 t.f] : Array Value)[o]? := fun o => ((hup.alloc _).old.1 _ o (by simp; omega)).trans (by simp [go_sem])
      have hq2 : ∀ o, (w'.alloc (.cells #[.int .i64 x.q, .int .i64 x.o, .int .i64 x.l] 124)).cell? ⟨w'.heap.size, o, none⟩ = (#[.int .i64 x.q, .int .i64 x.o, .int .i64 x.l] : Array Value)[o]? := fun o => by simp [go_sem]
      clear hup
      obtain ⟨B, hB⟩ : ∃ B, w'.heap.size = B := ⟨_, rfl⟩
      have hB0 : w.heap.size < B := by omega
      rw [hB] at hq2
      rw [hB]
      go_region_held3 (fun W => (∀ o, W.cell? ⟨w.heap.size, o, none⟩ = (#[.int .i64 t.c, .int .i64 t.h, .int .i64 t.p, .int .i64 t.l, .int .i64 t.f] : Array Value)[o]?) ∧ (∀ o, W.cell? ⟨B, o, none⟩ = (#[.int .i64 x.q, .int .i64 x.o, .int .i64 x.l] : Array Value)[o]?)) (first | (go_keep; done) | (go_split_ands; (repeat' (with_reducible apply And.intro)) <;> (first | assumption | (intro o; refine (hcA _ o ?_).trans ?_; (focus (first | omega | (simp; omega) | (simp; done))); (first | (simp only [*]; done) | (simp [*]; done))) | ((refine (hcA _ _ (by (try simp); omega)).trans ?_); (first | assumption | (simp only [*]; done) | (simp [*]; done)))))) (first | (go_at_call 60; (with_reducible refine (hours' x _ H2.out).mono ?_); rintro e w' ⟨rfl, hb⟩; have hbA := Aside0.mk hb; obtain ⟨hcA, hfA⟩ := hb.old; have hz := hb.le; (try simp at hz); (try have hz0 : w.heap.size < w'.heap.size := by omega); (try have hzb : w.heap.size + 1 < w'.heap.size := by omega); (try have hzc : w.heap.size + 2 < w'.heap.size := by omega); clear hb) | (go_at_call 61; (with_reducible refine (pounds' x _ H2.out).mono ?_); rintro e w' ⟨rfl, hb⟩; have hbA := Aside0.mk hb; obtain ⟨hcA, hfA⟩ := hb.old; have hz := hb.le; (try simp at hz); (try have hz0 : w.heap.size < w'.heap.size := by omega); (try have hzb : w.heap.size + 1 < w'.heap.size := by omega); (try have hzc : w.heap.size + 2 < w'.heap.size := by omega); clear hb))
      all_goals
        go_wp2_with fail
        go_ret2
        exact ⟨by simp [feeI, feeE, feeV, H1.out, H2.out], upA⟩
  · have hb1 : (tarE t != 0) = true := by simp [h1]
    have H1 := Aside0.mk h1
    clear h1
    go_enter Try.func19, Try.ntmps19
    go_wp2_with (first | (go_at_call 18; (with_reducible refine (check _ _).mono ?_); rintro e w' ⟨rfl, hb⟩; have hbA := Aside0.mk hb; obtain ⟨hcA, hfA⟩ := hb.old; have hz := hb.le; (try simp at hz); (try have hz0 : w.heap.size < w'.heap.size := by omega); (try have hzb : w.heap.size + 1 < w'.heap.size := by omega); (try have hzc : w.heap.size + 2 < w'.heap.size := by omega); clear hb))
    go_ret2
    exact ⟨by simp [feeI, feeE, H1.out], upA⟩
end Go.Proofs.Ytdlekcdedahbhaa
namespace Go.Proofs.Ytdlekcdedahbhaa
open Go.RowKit Go.Shelf Go.Proofs.YtdlekcdedahbhaaW.PrintWords
set_option linter.unusedVariables false
set_option linter.unusedSimpArgs false
theorem flat_len {α : Type} (enc : α → List Value) (s : Nat) (h0 : ∀ x, (enc x).length = s) : ∀ xs : List α, (xs.flatMap enc).length = xs.length * s
  | [] => by simp
  | x :: xs => by rw [List.flatMap_cons, List.length_append, flat_len enc s h0 xs, h0, List.length_cons, Nat.succ_mul]; omega
theorem flat_get {α : Type} (enc : α → List Value) (s : Nat) (h0 : ∀ x, (enc x).length = s) : ∀ (xs : List α) (j : Nat) (x : α) (i : Nat), xs[j]? = some x → i < s → (xs.flatMap enc)[j * s + i]? = (enc x)[i]?
  | [], j, x, i, h, _ => by simp at h
  | y :: xs, 0, x, i, h, hi => by
    obtain rfl : y = x := by simpa using h
    rw [List.flatMap_cons, Nat.zero_mul, Nat.zero_add, List.getElem?_append_left (by rw [h0]; exact hi)]
  | y :: xs, j + 1, x, i, h, hi => by
    rw [List.flatMap_cons, List.getElem?_append_right (by rw [h0, Nat.succ_mul]; omega), h0, show (j + 1) * s + i - s = j * s + i by rw [Nat.succ_mul]; omega]
    exact flat_get enc s h0 xs j x i (by simpa using h) hi
theorem flat_mem {α : Type} (enc : α → List Value) (h1 : ∀ x, ∀ u ∈ enc x, u.oneCell' = true) (xs : List α) : ∀ u ∈ xs.flatMap enc, u.oneCell' = true := by
  intro u hu
  obtain ⟨x, _, h⟩ := List.mem_flatMap.1 hu
  exact h1 x u h
theorem own_Kd {α : Type} (d : Kd α) (enc : α → List Value) (hK : ∀ w x, d.K w x (enc x)) (hl : ∀ x, (enc x).length = d.sz) {w : World} {base e : Nat} {v : Value} {xs : List α}
    (h : w.ownsRow base e d.sz v xs.length (xs.flatMap enc)) (hm : xs.length ≤ 9223372036854775807) : ∃ A c, v = .slice A xs.length c ∧ xs.length ≤ c ∧ Kd.C d w A xs.length xs := by
  obtain ⟨A, c, hv, hc, hg⟩ := ownF_slice h
  refine ⟨A, c, hv, hc, rfl, hm, fun hp => ?_⟩
  obtain ⟨g, cur, hA, hg2, hcur⟩ := hg hp
  refine ⟨⟨g, 0, none⟩, hA, fun j x hj => ⟨enc x, hl x, hK w x, fun i u hu => ?_⟩⟩
  have hj2 := (List.getElem?_eq_some_iff.1 hj).1
  have hi2 := (List.getElem?_eq_some_iff.1 hu).1
  rw [hl] at hi2
  rw [add_plain]
  have hlt : j * d.sz + i < xs.length * d.sz := by
    have h1 : (j + 1) * d.sz ≤ xs.length * d.sz := Nat.mul_le_mul_right _ (by omega)
    rw [Nat.succ_mul] at h1
    omega
  simp [World.cell?, hg2, hcur _ hlt, flat_get enc d.sz hl xs j x i hj hi2, hu]
theorem cells_Kd {α : Type} (d : Kd α) (enc : α → List Value) (hO : ∀ w x cs, d.K w x cs → cs = enc x) (hl : ∀ x, (enc x).length = d.sz) (hs : 0 < d.sz) {w : World} {A : Option Addr} {xs : List α} (h : Kd.C d w A xs.length xs) (h0 : 0 < xs.length) :
    ∃ ad, A = some ad ∧ ∀ j u, (xs.flatMap enc)[j]? = some u → w.cell? (ad.add j) = some u := by
  obtain ⟨ad, rfl, hc⟩ := h.2.2 h0
  refine ⟨ad, rfl, fun j u hu => ?_⟩
  have hj := (List.getElem?_eq_some_iff.1 hu).1
  rw [flat_len enc d.sz hl] at hj
  have hq : j / d.sz < xs.length := Nat.div_lt_of_lt_mul (by rw [Nat.mul_comm]; exact hj)
  obtain ⟨cs, _, hk, hcs⟩ := hc (j / d.sz) xs[j / d.sz] (List.getElem?_eq_getElem hq)
  obtain rfl := hO _ _ _ hk
  have hm := Nat.mod_lt j hs
  have he : j / d.sz * d.sz + j % d.sz = j := by rw [Nat.mul_comm]; exact Nat.div_add_mod j d.sz
  have hf := flat_get enc d.sz hl xs (j / d.sz) _ (j % d.sz) (List.getElem?_eq_getElem hq) hm
  rw [he, hu] at hf
  have := hcs (j % d.sz) u hf.symm
  rwa [he] at this
theorem Bx.grown {W w1 : World} {B : Nat} {C : Array Value} {T : TypeId} (h : Bx W B C T) {base e s n : Nat} {v : Value} {xs : List Value} (ho : W.ownsRow base e s v n xs) (ht : e ≠ T) (hg : W.grownBy w1 v.ownBlock) : Bx w1 B C T := by
  refine (hg.block B h.lt (fun e' => ?_)).trans h
  rcases ho.2 with ⟨rfl, _⟩ | ⟨g, cap, cur, rfl, _, hg2, _⟩
  · simp [Value.ownBlock] at e'
  · simp [Value.ownBlock] at e'
    subst e'
    rw [show W.heap[B]? = _ from h] at hg2
    injection hg2 with hg2
    injection hg2 with _ h2
    exact ht h2.symm
theorem Up.grown {w W w1 : World} (h : Up w W) {base e s n : Nat} {v : Value} {xs : List Value} (ho : W.ownsRow base e s v n xs) (hb : w.heap.size ≤ base) (hg : W.grownBy w1 v.ownBlock) : Up w w1 :=
  Below.grown h hg h.size (fun k hk => by
    rcases ho.2 with ⟨rfl, _⟩ | ⟨g, cap, cur, rfl, hb2, _⟩
    · simp [Value.ownBlock] at hk
    · simp [Value.ownBlock] at hk; omega)
theorem Bx.set {w : World} {B : Nat} {C : Array Value} {T : TypeId} (h : Bx w B C T) (o : Nat) (x : Value) : Bx (w.setCell ⟨B, o, none⟩ x) B (C.setIfInBounds o x) T := by
  unfold Bx at h ⊢
  unfold World.setCell
  dsimp only
  rw [Array.getElem?_modify, if_pos rfl, h]
  rfl
theorem own_far {w : World} {base e size v n xs} (h : w.ownsRow base e size v n xs) {B C T} (hb : Bx w B C T) (ht : e ≠ T) (o : Nat) (u : Value) : (w.setCell ⟨B, o, none⟩ u).ownsRow base e size v n xs := by
  have hg : w.grownBy (w.setCell ⟨B, o, none⟩ u) (some B) := by
    have hb0 := Below.setCell (B := 0) (Below.refl 0 w) (p := ⟨B, o, none⟩) (Nat.zero_le _) u
    exact ⟨hb0.os, hb0.tape, hb0.output, hb0.size, fun k _ hk => Below.heap_setCell w ⟨B, o, none⟩ u k (fun e => hk (by rw [e]))⟩
  refine h.kept hg ?_
  rcases h.2 with ⟨rfl, _⟩ | ⟨g, cap, cur, rfl, _, hg2, _⟩
  · exact .inl rfl
  · refine .inr fun e' => ?_
    have : g = B := by simpa [Value.ownBlock] using e'
    subst this
    rw [show w.heap[g]? = _ from hb] at hg2
    injection hg2 with hg2
    injection hg2 with _ h2
    exact ht h2.symm
def Wr (r : Nat) (w w' : World) : Prop := Sv (fun k => k < w.heap.size ∧ k ≠ r) w w'
theorem Wr.refl (r : Nat) (w : World) : Wr r w w := Sv.refl _ _
theorem Wr.ofUp {r : Nat} {w w' : World} (h : Up w w') : Wr r w w' := h.sv (fun k hk => hk.1)
theorem Wr.then {r : Nat} {a b c : World} (h : Wr r a b) (k : Wr r b c) : Wr r a c :=
  ⟨k.os.trans h.os, k.tape.trans h.tape, k.output.trans h.output, Nat.le_trans h.size k.size, fun i hi => (k.block i ⟨Nat.lt_of_lt_of_le hi.1 h.size, hi.2⟩).trans (h.block i hi)⟩
theorem Wr.cell {r : Nat} {a b : World} (h : Wr r a b) {ad : Addr} {v : Value} (hp : ad.block ≠ r) (hc : a.cell? ad = some v) : b.cell? ad = some v := Sv.cell h ⟨World.block_lt_of_cell? a ad hc, hp⟩ hc
theorem Wr.old {r : Nat} {w w1 : World} (h : Wr r w w1) : (∀ b o, b < w.heap.size → b ≠ r → w1.cell? ⟨b, o, none⟩ = w.cell? ⟨b, o, none⟩) ∧ (∀ b o, b < w.heap.size → b ≠ r → w1.frozen? ⟨b, o, none⟩ = w.frozen? ⟨b, o, none⟩) :=
  ⟨fun b o hb hr => by have := h.block b ⟨hb, hr⟩; unfold World.cell?; rw [this], fun b o hb hr => by have := h.block b ⟨hb, hr⟩; unfold World.frozen?; rw [this]⟩
theorem Wr.up {r : Nat} {w0 w w' : World} (h : Wr r w w') (hr : w0.heap.size ≤ r) (h0 : Up w0 w) : Up w0 w' :=
  ⟨h.os.trans h0.os, h.tape.trans h0.tape, h.output.trans h0.output, Nat.le_trans h0.size h.size, fun k hk => (h.block k ⟨Nat.lt_of_lt_of_le hk h0.size, by omega⟩).trans (h0.block k hk)⟩
theorem own_wr2 {w w' : World} {base e size n : Nat} {v : Value} {xs : List Value} {r : Nat} {C : Array Value} {T : TypeId} (h : w.ownsRow base e size v n xs) (hB : Bx w r C T) (ht : e ≠ T) (hw : Wr r w w') : w'.ownsRow base e size v n xs := by
  rcases h.2 with h0 | ⟨g, cap, cur, hv, hb, hg, h1, h2, h3, h4⟩
  · exact ⟨h.1, .inl h0⟩
  · refine ⟨h.1, .inr ⟨g, cap, cur, hv, hb, ?_, h1, h2, h3, h4⟩⟩
    have hne : g ≠ r := by
      rintro rfl
      rw [show w.heap[g]? = _ from hB] at hg
      injection hg with hg
      injection hg with _ h2
      exact ht h2.symm
    exact (hw.block g ⟨(Array.getElem?_eq_some_iff.1 hg).1, hne⟩).trans hg
theorem own_cells {w : World} {base e : Nat} {v : Value} {xs : List Int} (h : w.ownsRow base e 1 v xs.length (nums .i64 xs)) : ∃ A c, v = .slice A xs.length c ∧ xs.length ≤ c ∧ (A = none → xs.length = 0) ∧ ∀ ad, A = some ad → ∀ (j : Nat) u, (nums .i64 xs)[j]? = some u → w.cell? (ad.add j) = some u := by
  rcases h.2 with ⟨rfl, h0⟩ | ⟨g, cap, cur, rfl, hb, hg, hcap, _, hsz, htk⟩
  · refine ⟨none, 0, by rw [h0], by omega, fun _ => h0, fun ad e => nomatch e⟩
  · refine ⟨_, cap, rfl, hcap, (fun e => nomatch e), fun ad e j u hu => ?_⟩
    cases e
    have hj : j < xs.length := by
      have := (List.getElem?_eq_some_iff.1 hu).1
      simpa [nums] using this
    rw [add_plain]
    rw [← htk, List.getElem?_take, if_pos (by omega), Array.getElem?_toList] at hu
    simp [World.cell?, hg, hu]
theorem own_put {w : World} {base e : Nat} {v : Value} {xs : List Int} (h : w.ownsRow base e 1 v xs.length (nums .i64 xs)) (i : Nat) (hi : i < xs.length) : ∃ g c, v = .slice (some ⟨g, 0, none⟩) xs.length c ∧ base ≤ g ∧ g < w.heap.size ∧ w.cell? ⟨g, i, none⟩ = some (.int .i64 (rd xs i)) ∧ w.frozen? ⟨g, i, none⟩ = false ∧ (∃ cur, w.heap[g]? = some (.cells cur e (0, 0))) ∧ ∀ x, (w.setCell ⟨g, i, none⟩ (.int .i64 x)).ownsRow base e 1 v (xs.set i x).length (nums .i64 (xs.set i x)) := by
  rcases h.2 with ⟨rfl, h0⟩ | ⟨g, cap, cur, rfl, hb, hg, hcap, hm, hsz, htk⟩
  · omega
  · have hlt := (Array.getElem?_eq_some_iff.1 hg).1
    have hcur : cur[i]? = some (.int .i64 (rd xs i)) := by
      have h1 : (nums .i64 xs)[i]? = some (.int .i64 (rd xs i)) := by simp [nums, hi, rd]
      rw [← htk, List.getElem?_take, if_pos (by omega), Array.getElem?_toList] at h1
      exact h1
    refine ⟨g, cap, rfl, hb, hlt, by simp [World.cell?, hg, hcur], by simp [World.frozen?, hg], ⟨cur, hg⟩, fun x => ⟨by simp [nums], .inr ⟨g, cap, cur.setIfInBounds i (.int .i64 x), by simp, hb, ?_, by simpa using hcap, hm, by simpa using hsz, ?_⟩⟩⟩
    · unfold World.setCell
      dsimp only
      rw [Array.getElem?_modify, if_pos rfl, hg]
      rfl
    · apply List.ext_getElem?
      intro j
      rw [List.getElem?_take, List.length_set, Nat.mul_one, Array.getElem?_toList, Array.getElem?_setIfInBounds]
      have hlc : i < cur.size := by omega
      by_cases hj : j < xs.length
      · rw [if_pos hj]
        by_cases e1 : i = j
        · subst e1
          rw [if_pos rfl, if_pos hlc]
          simp [nums, hi]
        · rw [if_neg e1]
          have h1 : (nums .i64 xs)[j]? = cur[j]? := by rw [← htk, List.getElem?_take, if_pos (by omega), Array.getElem?_toList]
          rw [← h1]
          simp [nums, List.getElem?_set, e1]
      · rw [if_neg hj, List.getElem?_eq_none (by simp [nums]; omega)]
theorem Wr.setAt {r : Nat} {w w' : World} (h : Wr r w w') (o : Nat) (v : Value) : Wr r w (w'.setCell ⟨r, o, none⟩ v) := Sv.set h _ _ (fun h => h.2 rfl)
end Go.Proofs.Ytdlekcdedahbhaa
namespace Go.Proofs.Ytdlekcdedahbhaa
open Go.RowKit Go.Shelf Go.Proofs.YtdlekcdedahbhaaW.PrintWords
set_option linter.unusedVariables false
set_option linter.unusedSimpArgs false
structure Acc where
  a0 : Int
  a1 : Int
  a2 : Int
  a3 : Int
  a4 : Int
  a5 : Int
  deriving DecidableEq
def Acc.get (a : Acc) (i : Int) : Int := if i = 0 then a.a0 else if i = 1 then a.a1 else if i = 2 then a.a2 else if i = 3 then a.a3 else if i = 4 then a.a4 else if i = 5 then a.a5 else 0
def Acc.add (a : Acc) (i d : Int) : Acc := ⟨a.a0 + if i = 0 then d else 0, a.a1 + if i = 1 then d else 0, a.a2 + if i = 2 then d else 0, a.a3 + if i = 3 then d else 0, a.a4 + if i = 4 then d else 0, a.a5 + if i = 5 then d else 0⟩
def z_Acc : Acc := ⟨0, 0, 0, 0, 0, 0⟩
def afterA (a : Acc) (x : Ent) : Acc := (a.add x.f (-x.a)).add x.t x.a
def AccB (n : Int) (a : Acc) : Prop := (-n ≤ a.a0 ∧ a.a0 ≤ n) ∧ (-n ≤ a.a1 ∧ a.a1 ≤ n) ∧ (-n ≤ a.a2 ∧ a.a2 ≤ n) ∧ (-n ≤ a.a3 ∧ a.a3 ≤ n) ∧ (-n ≤ a.a4 ∧ a.a4 ≤ n) ∧ (-n ≤ a.a5 ∧ a.a5 ≤ n)
set_option maxHeartbeats 4000000 in
theorem ac_get (a : Acc) (i : Nat) (h : i < 6) : (#[.int .i64 (a).a0, .int .i64 (a).a1, .int .i64 (a).a2, .int .i64 (a).a3, .int .i64 (a).a4, .int .i64 (a).a5] : Array Value)[i]? = some (.int .i64 (a.get i)) := by
  obtain rfl | rfl | rfl | rfl | rfl | rfl : i = 0 ∨ i = 1 ∨ i = 2 ∨ i = 3 ∨ i = 4 ∨ i = 5 := by omega
  all_goals rfl
theorem ac_set (a : Acc) (i : Nat) (h : i < 6) (d : Int) : (#[.int .i64 (a).a0, .int .i64 (a).a1, .int .i64 (a).a2, .int .i64 (a).a3, .int .i64 (a).a4, .int .i64 (a).a5] : Array Value).setIfInBounds i (.int .i64 (a.get i + d)) = #[.int .i64 (a.add i d).a0, .int .i64 (a.add i d).a1, .int .i64 (a.add i d).a2, .int .i64 (a.add i d).a3, .int .i64 (a.add i d).a4, .int .i64 (a.add i d).a5] := by
  obtain rfl | rfl | rfl | rfl | rfl | rfl : i = 0 ∨ i = 1 ∨ i = 2 ∨ i = 3 ∨ i = 4 ∨ i = 5 := by omega
  all_goals simp [Acc.add, Acc.get]
theorem AccB.get {n : Int} {a : Acc} (h : AccB n a) (hn : 0 ≤ n) (i : Int) : -n ≤ a.get i ∧ a.get i ≤ n := by
  obtain ⟨⟨h0, k0⟩, ⟨h1, k1⟩, ⟨h2, k2⟩, ⟨h3, k3⟩, ⟨h4, k4⟩, ⟨h5, k5⟩⟩ := h
  unfold Acc.get
  (repeat' split) <;> omega
theorem AccB.add {n m : Int} {a : Acc} (h : AccB n a) (i d : Int) (hd : -m ≤ d ∧ d ≤ m) : AccB (n + m) (a.add i d) := by
  obtain ⟨⟨h0, k0⟩, ⟨h1, k1⟩, ⟨h2, k2⟩, ⟨h3, k3⟩, ⟨h4, k4⟩, ⟨h5, k5⟩⟩ := h
  unfold AccB Acc.add
  simp only
  refine ⟨?_, ?_, ?_, ?_, ?_, ?_⟩ <;> (split <;> omega)
theorem AccB.after {n m : Int} {a : Acc} (h : AccB n a) (x : Ent) (hx : -m ≤ x.a ∧ x.a ≤ m) : AccB (n + m + m) (afterA a x) := (h.add _ _ (by omega)).add _ _ hx
theorem AccB.mono {n m : Int} {a : Acc} (h : AccB n a) (hnm : n ≤ m) : AccB m a := by
  obtain ⟨⟨h0, k0⟩, ⟨h1, k1⟩, ⟨h2, k2⟩, ⟨h3, k3⟩, ⟨h4, k4⟩, ⟨h5, k5⟩⟩ := h
  unfold AccB
  omega
theorem ret_cell {P : Program} {fn : Func} {a : Act} {W : World} {v : Value} {sl t : Nat} {ad : Addr} (hf : fn.results = #[.cell sl t]) (hs : a.tmps.getD sl undef = .pointer (some ad)) (hl : (loadVar t ad).run P W = .ok v W) : (results fn a.tmps).run P W = .ok v W := by
  have h1 : (asAddr (a.tmps.getD sl undef)).run P W = .ok ad W := by rw [hs]; rfl
  unfold results
  rw [hf]
  simp only [Array.mapM_eq_mapM_toList, List.mapM_cons, List.mapM_nil, Sem.run_bind, Sem.run_pure, h1, hl, Result.andThen_ok, bind_pure_comp, Sem.run_map]
  simp
theorem acc_load {W : World} {B : Nat} (a : Acc) (h : Bx W B #[.int .i64 (a).a0, .int .i64 (a).a1, .int .i64 (a).a2, .int .i64 (a).a3, .int .i64 (a).a4, .int .i64 (a).a5] 135) : (loadVar 135 ⟨B, 0, none⟩).run Try.prog W = .ok (.agg #[.int .i64 (a).a0, .int .i64 (a).a1, .int .i64 (a).a2, .int .i64 (a).a3, .int .i64 (a).a4, .int .i64 (a).a5]) W := by
  have hc := h.cell
  clear h
  go_simp
set_option maxRecDepth 100000 in
theorem after_ (a : Acc) (x : Ent) (w : World) (hb : AccB 1000000 a) (hx : 0 ≤ x.f ∧ x.f ≤ 5) (hy : 0 ≤ x.t ∧ x.t ≤ 5) (ha : -1000 ≤ x.a ∧ x.a ≤ 1000) :
    Calls Try.prog 74 #[.agg #[.int .i64 (a).a0, .int .i64 (a).a1, .int .i64 (a).a2, .int .i64 (a).a3, .int .i64 (a).a4, .int .i64 (a).a5], .agg #[.int .i64 x.f, .int .i64 x.t, .int .i64 x.a]] w fun e w' => e = .returned (.agg #[.int .i64 (afterA a x).a0, .int .i64 (afterA a x).a1, .int .i64 (afterA a x).a2, .int .i64 (afterA a x).a3, .int .i64 (afterA a x).a4, .int .i64 (afterA a x).a5]) ∧ Up w w' := by
  obtain ⟨f, t, d⟩ := x
  simp only at hx hy ha
  obtain ⟨i, rfl⟩ : ∃ i : Nat, f = (i : Int) := ⟨f.toNat, by omega⟩
  obtain ⟨j, rfl⟩ : ∃ j : Nat, t = (j : Int) := ⟨t.toNat, by omega⟩
  have hb1 := hb.get (by omega) i
  have hB2 := hb.add i (-d) (m := 1000) (by omega)
  have hb2 := hB2.get (by omega) j
  have hw1 : IntKind.i64.wrap (a.get i - d) = a.get i + -d := by rw [IntWalk.i64_in _ (by omega)]; omega
  have hw2 : IntKind.i64.wrap ((a.add i (-d)).get j + d) = (a.add i (-d)).get j + d := IntWalk.i64_in _ (by omega)
  have hi6 : (i : Int) < 6 := by omega
  have hj6 : (j : Int) < 6 := by omega
  have hi0 : 0 ≤ (i : Int) := by omega
  have hj0 : 0 ≤ (j : Int) := by omega
  have HB1 := Aside0.mk (ac_get a i (by omega))
  have HB2 := Aside0.mk (ac_get (a.add i (-d)) j (by omega))
  have HS1 := Aside0.mk (ac_set a i (by omega) (-d))
  have HS2 := Aside0.mk (ac_set (a.add i (-d)) j (by omega) d)
  clear hx hy hb hB2
  have q0 : Bx (((w.alloc (.cells #[.int .i64 (a).a0, .int .i64 (a).a1, .int .i64 (a).a2, .int .i64 (a).a3, .int .i64 (a).a4, .int .i64 (a).a5] 135)).alloc (.cells #[.int .i64 (i : Int), .int .i64 (j : Int), .int .i64 d] 101)).alloc (.cells #[.int .i64 0, .int .i64 0, .int .i64 0, .int .i64 0, .int .i64 0, .int .i64 0] 135)) w.heap.size #[.int .i64 (a).a0, .int .i64 (a).a1, .int .i64 (a).a2, .int .i64 (a).a3, .int .i64 (a).a4, .int .i64 (a).a5] 135 := (Bx.new w _ _).up upA
  have q1 : Bx (((w.alloc (.cells #[.int .i64 (a).a0, .int .i64 (a).a1, .int .i64 (a).a2, .int .i64 (a).a3, .int .i64 (a).a4, .int .i64 (a).a5] 135)).alloc (.cells #[.int .i64 (i : Int), .int .i64 (j : Int), .int .i64 d] 101)).alloc (.cells #[.int .i64 0, .int .i64 0, .int .i64 0, .int .i64 0, .int .i64 0, .int .i64 0] 135)) (w.heap.size + 1) #[.int .i64 (i : Int), .int .i64 (j : Int), .int .i64 d] 101 := (show Bx _ (w.heap.size + 1) _ _ by have h9 := Bx.new (w.alloc (.cells #[.int .i64 (a).a0, .int .i64 (a).a1, .int .i64 (a).a2, .int .i64 (a).a3, .int .i64 (a).a4, .int .i64 (a).a5] 135)) #[.int .i64 (i : Int), .int .i64 (j : Int), .int .i64 d] 101; simpa using h9).up upA
  have q2 : Bx (((w.alloc (.cells #[.int .i64 (a).a0, .int .i64 (a).a1, .int .i64 (a).a2, .int .i64 (a).a3, .int .i64 (a).a4, .int .i64 (a).a5] 135)).alloc (.cells #[.int .i64 (i : Int), .int .i64 (j : Int), .int .i64 d] 101)).alloc (.cells #[.int .i64 0, .int .i64 0, .int .i64 0, .int .i64 0, .int .i64 0, .int .i64 0] 135)) (w.heap.size + 1 + 1) #[.int .i64 0, .int .i64 0, .int .i64 0, .int .i64 0, .int .i64 0, .int .i64 0] 135 := by have h9 := Bx.new ((w.alloc (.cells #[.int .i64 (a).a0, .int .i64 (a).a1, .int .i64 (a).a2, .int .i64 (a).a3, .int .i64 (a).a4, .int .i64 (a).a5] 135)).alloc (.cells #[.int .i64 (i : Int), .int .i64 (j : Int), .int .i64 d] 101)) #[.int .i64 0, .int .i64 0, .int .i64 0, .int .i64 0, .int .i64 0, .int .i64 0] 135; simpa using h9
  have HU : Aside0 (Up w (((w.alloc (.cells #[.int .i64 (a).a0, .int .i64 (a).a1, .int .i64 (a).a2, .int .i64 (a).a3, .int .i64 (a).a4, .int .i64 (a).a5] 135)).alloc (.cells #[.int .i64 (i : Int), .int .i64 (j : Int), .int .i64 d] 101)).alloc (.cells #[.int .i64 0, .int .i64 0, .int .i64 0, .int .i64 0, .int .i64 0, .int .i64 0] 135))) := ⟨upA⟩
  go_enter Try.func74, Try.ntmps74
  go_wp2_with fail
  generalize (((w.alloc (.cells #[.int .i64 (a).a0, .int .i64 (a).a1, .int .i64 (a).a2, .int .i64 (a).a3, .int .i64 (a).a4, .int .i64 (a).a5] 135)).alloc (.cells #[.int .i64 (i : Int), .int .i64 (j : Int), .int .i64 d] 101)).alloc (.cells #[.int .i64 0, .int .i64 0, .int .i64 0, .int .i64 0, .int .i64 0, .int .i64 0] 135)) = W at *
  obtain ⟨B, hB⟩ : ∃ B, B = w.heap.size := ⟨_, rfl⟩
  rw [← hB] at q0 q1 q2
  rw [← hB]
  have HBw := Aside0.mk (Nat.le_of_eq hB.symm)
  clear hB
  have hc0 : W.cell? ⟨B, i, none⟩ = some (.int .i64 (a.get i)) := (q0.cell i).trans HB1.out
  have hf0 := q0.frozen
  have hc1 := q1.cell
  have Q0 := Aside0.mk q0
  have Q1 := Aside0.mk q1
  have Q2 := Aside0.mk q2
  clear q0 q1 q2
  go_still_tail 8, (by kernel_rfl)
  go_wp2_with fail
  have r0 : Bx ((W.setCell ⟨B, i, none⟩ (.int .i64 (a.get i + -d))).drew) B #[.int .i64 (a.add i (-d)).a0, .int .i64 (a.add i (-d)).a1, .int .i64 (a.add i (-d)).a2, .int .i64 (a.add i (-d)).a3, .int .i64 (a.add i (-d)).a4, .int .i64 (a.add i (-d)).a5] 135 := by
    have h9 := (Q0.out.set i (.int .i64 (a.get i + -d))).up ((Up.refl _).drew)
    rwa [HS1.out] at h9
  have r1 : Bx ((W.setCell ⟨B, i, none⟩ (.int .i64 (a.get i + -d))).drew) (B + 1) #[.int .i64 (i : Int), .int .i64 (j : Int), .int .i64 d] 101 := (Q1.out.far (by omega) _ _).up ((Up.refl _).drew)
  have r2 : Bx ((W.setCell ⟨B, i, none⟩ (.int .i64 (a.get i + -d))).drew) (B + 1 + 1) #[.int .i64 0, .int .i64 0, .int .i64 0, .int .i64 0, .int .i64 0, .int .i64 0] 135 := (Q2.out.far (by omega) _ _).up ((Up.refl _).drew)
  have HU1 : Aside0 (Up w ((W.setCell ⟨B, i, none⟩ (.int .i64 (a.get i + -d))).drew)) := ⟨(HU.out.set _ _ HBw.out).drew⟩
  clear hc0 hf0 hc1 Q0 Q1 Q2 HU
  generalize ((W.setCell ⟨B, i, none⟩ (.int .i64 (a.get i + -d))).drew) = W1 at *
  have hc0 : W1.cell? ⟨B, j, none⟩ = some (.int .i64 ((a.add i (-d)).get j)) := (r0.cell j).trans HB2.out
  have hf0 := r0.frozen
  have hc1 := r1.cell
  have R0 := Aside0.mk r0
  have R1 := Aside0.mk r1
  have R2 := Aside0.mk r2
  clear r0 r1 r2
  have s0 : Bx (W1.setCell ⟨B, j, none⟩ (.int .i64 ((a.add i (-d)).get j + d))) B #[.int .i64 ((a.add i (-d)).add j d).a0, .int .i64 ((a.add i (-d)).add j d).a1, .int .i64 ((a.add i (-d)).add j d).a2, .int .i64 ((a.add i (-d)).add j d).a3, .int .i64 ((a.add i (-d)).add j d).a4, .int .i64 ((a.add i (-d)).add j d).a5] 135 := by
    have h9 := (R0.out.set j (.int .i64 ((a.add i (-d)).get j + d)))
    rwa [HS2.out] at h9
  have s2 : Bx (W1.setCell ⟨B, j, none⟩ (.int .i64 ((a.add i (-d)).get j + d))) (B + 1 + 1) #[.int .i64 0, .int .i64 0, .int .i64 0, .int .i64 0, .int .i64 0, .int .i64 0] 135 := (R2.out.far (by omega) _ _)
  have HU2 : Aside0 (Up w ((W1.setCell ⟨B, j, none⟩ (.int .i64 ((a.add i (-d)).get j + d))))) := ⟨(HU1.out.set _ _ HBw.out)⟩
  have hd0 := s0.cell
  have hd2 := s2.cell
  have hg2 := s2.frozen
  have S2 := Aside0.mk s2
  clear s0 s2
  go_still_tail 8, (by kernel_rfl)
  go_wp2_with fail
  have hBB := HBw.out
  have hX := ((((((S2.out.set 0 (.int .i64 ((a.add i (-d)).add j d).a0)).set 1 (.int .i64 ((a.add i (-d)).add j d).a1)).set 2 (.int .i64 ((a.add i (-d)).add j d).a2)).set 3 (.int .i64 ((a.add i (-d)).add j d).a3)).set 4 (.int .i64 ((a.add i (-d)).add j d).a4)).set 5 (.int .i64 ((a.add i (-d)).add j d).a5)).up ((Up.refl _).drew)
  refine bodyPost_ret (v := .agg #[.int .i64 (afterA a ⟨i, j, d⟩).a0, .int .i64 (afterA a ⟨i, j, d⟩).a1, .int .i64 (afterA a ⟨i, j, d⟩).a2, .int .i64 (afterA a ⟨i, j, d⟩).a3, .int .i64 (afterA a ⟨i, j, d⟩).a4, .int .i64 (afterA a ⟨i, j, d⟩).a5]) (ret_cell rfl rfl (acc_load (afterA a ⟨i, j, d⟩) hX)) rfl ⟨rfl, ?_⟩
  exact ((((((HU2.out.set _ _ (by simp; omega)).set _ _ (by simp; omega)).set _ _ (by simp; omega)).set _ _ (by simp; omega)).set _ _ (by simp; omega)).set _ _ (by simp; omega)).drew
end Go.Proofs.Ytdlekcdedahbhaa
namespace Go.Proofs.Ytdlekcdedahbhaa
open Go.RowKit Go.Shelf Go.Proofs.YtdlekcdedahbhaaW.PrintWords
set_option linter.unusedVariables false
set_option linter.unusedSimpArgs false
def allA (l : List Ent) : Acc := l.foldl afterA z_Acc
theorem allA_take (l : List Ent) (k : Nat) (h : k < l.length) : allA (l.take (k + 1)) = afterA (allA (l.take k)) (rdEnt l k) := by
  have e : l[k] = rdEnt l k := by simp [rdEnt, h]
  unfold allA
  rw [List.take_succ_eq_append_getElem h, List.foldl_append, e]
  rfl
def entB (x : Ent) : Bool := inB 0 5 [x.f, x.t] && decide (x.f ≠ x.t) && inB (-1) 100 [x.a]
theorem entB_iff (x : Ent) : entB x = true ↔ (0 ≤ x.f ∧ x.f ≤ 5) ∧ (0 ≤ x.t ∧ x.t ≤ 5) ∧ x.f ≠ x.t ∧ (-1 ≤ x.a ∧ x.a ≤ 100) := by
  unfold entB
  simp only [Bool.and_eq_true, inB_iff, List.mem_cons, List.not_mem_nil, or_false, forall_eq_or_imp, forall_eq, and_assoc, decide_eq_true_eq]
theorem allA_bd (l : List Ent) (hl : l.all entB = true) : ∀ k : Nat, k ≤ l.length → AccB (200 * (k : Int)) (allA (l.take k))
  | 0, _ => by simp [allA, AccB, z_Acc]
  | k + 1, h => by
    have h1 := allA_bd l hl k (by omega)
    have h2 : entB (rdEnt l k) = true := List.all_eq_true.1 hl _ (rdEnt_mem l k (by omega) (by omega))
    have h3 := (entB_iff _).1 h2
    rw [allA_take l k (by omega)]
    exact (h1.after (m := 100) _ (by omega)).mono (by omega)
set_option maxRecDepth 100000 in
theorem all_ (A : Option Addr) (c : Nat) (l : List Ent) (w : World) (hr : Kd.C kEnt w A l.length l) (hc : l.length ≤ c) (hl : l.all entB = true) (hn : l.length ≤ 1000) :
    Calls Try.prog 70 #[.slice A l.length c] w fun e w' => e = .returned (.agg #[.int .i64 (allA l).a0, .int .i64 (allA l).a1, .int .i64 (allA l).a2, .int .i64 (allA l).a3, .int .i64 (allA l).a4, .int .i64 (allA l).a5]) ∧ Up w w' := by
  have HR := Aside0.mk hr
  have HL := Aside0.mk hl
  have hml := CF_len hr
  clear hr hl
  go_enter Try.func70, Try.ntmps70
  go_wp2_with fail
  go_loopw [7] (fun i wr => ∃ k : Nat, k ≤ l.length ∧ i = .int .i64 k ∧ Aside0 (Bx wr w.heap.size #[.int .i64 (allA (l.take k)).a0, .int .i64 (allA (l.take k)).a1, .int .i64 (allA (l.take k)).a2, .int .i64 (allA (l.take k)).a3, .int .i64 (allA (l.take k)).a4, .int .i64 (allA (l.take k)).a5] 135) ∧ Aside0 (Up w wr)) (fun i _ => l.length - (intOf i).toNat)
  case atStart => exact ⟨0, Nat.zero_le _, rfl, ⟨Bx.new w _ _⟩, ⟨upA⟩⟩
  case round =>
    obtain ⟨k, hk, rfl, hB, hU⟩ := hrel
    by_cases hlt : k < l.length
    · obtain ⟨ad, e, hx0, hx1, hx2⟩ := at_Ent (C_up HR.out hU.out) k (by omega) (by omega)
      cases e
      simp only [Int.toNat_natCast] at hx0 hx1 hx2
      have hi0 : (0 : Int) ≤ (k : Int) := by omega
      have hi1 : (k : Int) < (l.length : Int) := by omega
      have hT := Aside0.mk (allA_take l k hlt)
      have hbd := allA_bd l HL.out k (by omega)
      have hen := (entB_iff _).1 (List.all_eq_true.1 HL.out _ (rdEnt_mem l k (by omega) (by omega)))
      have hz := hB.out.lt
      generalize allA (l.take k) = a at *
      have hcall := after_ a (rdEnt l k) (wr.alloc (.cells #[.int .i64 (rdEnt l k).f, .int .i64 (rdEnt l k).t, .int .i64 (rdEnt l k).a] 101)) (hbd.mono (by omega)) hen.1 hen.2.1 (by omega)
      have hq : ∀ (C : Obj) o, (wr.alloc C).cell? ⟨w.heap.size, o, none⟩ = (#[.int .i64 (a).a0, .int .i64 (a).a1, .int .i64 (a).a2, .int .i64 (a).a3, .int .i64 (a).a4, .int .i64 (a).a5] : Array Value)[o]? := fun C o => (hB.out.up ((Up.refl wr).alloc C)).cell o
      have hu := Try.underlying101
      have HB := Aside0.mk (hB.out.up ((Up.refl wr).alloc (.cells #[.int .i64 (rdEnt l k).f, .int .i64 (rdEnt l k).t, .int .i64 (rdEnt l k).a] 101)))
      clear hbd hen
      go_wp2_with fail
      refine hcall.mono ?_
      clear hcall
      rintro e w' ⟨rfl, hb⟩
      have HB2 := HB.out.up hb
      have hf2 := HB2.frozen
      have hq2 := HB2.cell
      have HBA := Aside0.mk HB2
      have HUA : Aside0 (Up w w') := ⟨(hU.out.alloc _).then hb⟩
      clear hb HB2 hq
      go_wp2_with fail
      go_roundw
      case rel =>
        refine ⟨k + 1, by omega, by go_num, ⟨?_⟩, ⟨?_⟩⟩
        · rw [hT.out]
          exact ((((((HBA.out.set 0 (.int .i64 (afterA a (rdEnt l k)).a0)).set 1 (.int .i64 (afterA a (rdEnt l k)).a1)).set 2 (.int .i64 (afterA a (rdEnt l k)).a2)).set 3 (.int .i64 (afterA a (rdEnt l k)).a3)).set 4 (.int .i64 (afterA a (rdEnt l k)).a4)).set 5 (.int .i64 (afterA a (rdEnt l k)).a5))
        · exact ((((((HUA.out.set _ _ (by simp)).set _ _ (by simp)).set _ _ (by simp)).set _ _ (by simp)).set _ _ (by simp)).set _ _ (by simp))
      case measure => simp [intOf]; omega
    · obtain rfl : k = l.length := by omega
      have hB2 := hB.out
      rw [List.take_length] at hB2
      have hq := hB2.cell
      have hf := hB2.frozen
      have HB := Aside0.mk hB2
      clear hB hB2
      go_wp2_with fail
      have hX := ((((((HB.out.set 0 (.int .i64 (allA l).a0)).set 1 (.int .i64 (allA l).a1)).set 2 (.int .i64 (allA l).a2)).set 3 (.int .i64 (allA l).a3)).set 4 (.int .i64 (allA l).a4)).set 5 (.int .i64 (allA l).a5))
      refine bodyPost_ret (v := .agg #[.int .i64 (allA l).a0, .int .i64 (allA l).a1, .int .i64 (allA l).a2, .int .i64 (allA l).a3, .int .i64 (allA l).a4, .int .i64 (allA l).a5]) (ret_cell rfl rfl (acc_load (allA l) hX)) rfl ⟨rfl, ?_⟩
      exact ((((((hU.out.set _ _ (by simp)).set _ _ (by simp)).set _ _ (by simp)).set _ _ (by simp)).set _ _ (by simp)).set _ _ (by simp))
end Go.Proofs.Ytdlekcdedahbhaa
namespace Go.Proofs.Ytdlekcdedahbhaa
open Go.RowKit Go.Shelf Go.Proofs.YtdlekcdedahbhaaW.PrintWords
set_option linter.unusedVariables false
set_option linter.unusedSimpArgs false
theorem idx_Ent_drop (p : Ent → Bool) (l : List Ent) (k : Nat) (h : k < l.length) : idxF p (l.drop k) k = if p (rdEnt l k) then (k:Int) else idxF p (l.drop (k+1)) (k+1) := by
  rw [List.drop_eq_getElem_cons h, idxF]; simp [rdEnt, List.getD_eq_getElem?_getD, h]
set_option maxRecDepth 100000 in
theorem index_Ent (fv : FuncId) (cap : Array Value) (p : Ent → Bool) (A : Option Addr) (c : Nat) (l : List Ent) (w : World)
    (hr : Kd.C kEnt w A l.length l) (hc : l.length ≤ c)
    (hE : ∀ (args : Array Value) (w : World), (callFunc fv args).run Try.prog w = .ok (.enter fv args) w)
    (hf : ∀ x W, Up w W → Calls Try.prog fv (#[.agg #[.int .i64 x.f, .int .i64 x.t, .int .i64 x.a]] ++ cap) W fun e W' => e = .returned (.bool (p x)) ∧ Up W W') :
    Calls Try.prog 98 #[.slice A l.length c, .func (.func fv) #[] cap] w fun e w' => e = .returned (.int .i64 (idxF p l 0)) ∧ Up w w' := by
  have HF := Aside0.mk hf
  have HR := Aside0.mk hr
  have hm := CF_len hr
  clear hf hr
  go_enter Try.func98, Try.ntmps98
  go_wp2
  go_loopw [8] (fun i wr => ∃ k : Nat, k ≤ l.length ∧ i = .int .i64 k ∧ Aside0 (idxF p l 0 = idxF p (l.drop k) k) ∧ Aside0 (Up w wr)) (fun i _ => l.length - (intOf i).toNat)
  case atStart => exact ⟨0, Nat.zero_le _, rfl, ⟨rfl⟩, ⟨Up.refl _⟩⟩
  case round =>
    obtain ⟨k, hk, rfl, he, hb⟩ := hrel
    by_cases hlt : k < l.length
    · obtain ⟨ad, e, hx0, hx1, hx2⟩ := at_Ent (C_up HR.out hb.out) k (by omega) (by omega)
      cases e
      have hu := Try.underlying101
      simp only [Int.toNat_natCast] at hx0 hx1 hx2
      have hcall := HF.out (rdEnt l k) _ hb.out
      cases hp : p (rdEnt l k)
      all_goals
        rw [hp] at hcall
        have he2 := idx_Ent_drop p l k hlt
        rw [hp] at he2
        have he3 := Aside0.mk (he.out.trans he2)
        clear hp he he2
        go_wp2_with fail
        refine hcall.mono ?_
        clear hcall
        rintro e w' ⟨rfl, hb'⟩
        have hb2 := Aside0.mk (hb.out.then hb')
        clear hb' hb
        go_wp2
      · go_roundw
        case rel => exact ⟨k+1, by omega, by go_num, ⟨by simpa using he3.out⟩, hb2⟩
        case measure => simp [intOf]; omega
      · go_ret
        exact ⟨by rw [he3.out]; rfl, hb2.out⟩
    · go_wp2
      go_ret
      exact ⟨by rw [he.out, List.drop_eq_nil_of_le (by omega)]; rfl, hb.out⟩
theorem contains_Ent (fv : FuncId) (cap : Array Value) (p : Ent → Bool) (A : Option Addr) (c : Nat) (l : List Ent) (w : World)
    (hr : Kd.C kEnt w A l.length l) (hc : l.length ≤ c)
    (hE : ∀ (args : Array Value) (w : World), (callFunc fv args).run Try.prog w = .ok (.enter fv args) w)
    (hf : ∀ x W, Up w W → Calls Try.prog fv (#[.agg #[.int .i64 x.f, .int .i64 x.t, .int .i64 x.a]] ++ cap) W fun e W' => e = .returned (.bool (p x)) ∧ Up W W') :
    Calls Try.prog 88 #[.slice A l.length c, .func (.func fv) #[] cap] w fun e w' => e = .returned (.bool (l.any p)) ∧ Up w w' := by
  have hcall := index_Ent fv cap p A c l w hr hc hE hf
  clear hr hf
  have HD : Aside0 (decide (0 ≤ idxF p l 0) = l.any p) := ⟨idxF_any p l⟩
  clear hE
  go_enter Try.func88, Try.ntmps88
  go_wp2_with fail
  refine hcall.mono ?_
  clear hcall
  rintro e w' ⟨rfl, hb'⟩
  have hb2 := Aside0.mk hb'
  clear hb'
  go_wp2
  go_ret
  exact ⟨ret_bool HD.out, hb2.out⟩
set_option maxHeartbeats 1000000 in
theorem check1 (x : Ent) (w : World) : Calls Try.prog 91 #[.agg #[.int .i64 x.f, .int .i64 x.t, .int .i64 x.a]] w fun e w' => e = .returned (.bool (!entB x)) ∧ Up w w' := by
  by_cases h : x.f = x.t
  · have hb : (x.f == x.t) = true := by simp [h]
    have hd : decide (x.f ≠ x.t) = false := by simp [h]
    have HD := Aside0.mk hd
    clear h hd
    go_enter Try.func91, Try.ntmps91
    go_wp2_with (first | (go_at_call 58; (with_reducible refine (withinL2 _ _ _ _ _ _ (by simp)).mono ?_); rintro e w' ⟨rfl, hb⟩; have hbA := Aside0.mk hb; obtain ⟨hcA, hfA⟩ := hb.old; have hz := hb.le; (try simp at hz); (try have hz0 : w.heap.size < w'.heap.size := by omega); (try have hzb : w.heap.size + 1 < w'.heap.size := by omega); (try have hzc : w.heap.size + 2 < w'.heap.size := by omega); clear hb) | (go_at_call 58; (with_reducible refine (withinL1 _ _ _ _ _ (by simp)).mono ?_); rintro e w' ⟨rfl, hb⟩; have hbA := Aside0.mk hb; obtain ⟨hcA, hfA⟩ := hb.old; have hz := hb.le; (try simp at hz); (try have hz0 : w.heap.size < w'.heap.size := by omega); (try have hzb : w.heap.size + 1 < w'.heap.size := by omega); (try have hzc : w.heap.size + 2 < w'.heap.size := by omega); clear hb))
    all_goals
      go_ret
      exact ⟨ret_bool (by unfold entB; rw [HD.out]; simp_all), upA⟩
  · have hb : (x.f == x.t) = false := by simp [h]
    have hd : decide (x.f ≠ x.t) = true := by simp [h]
    have HD := Aside0.mk hd
    clear h hd
    go_enter Try.func91, Try.ntmps91
    go_wp2_with (first | (go_at_call 58; (with_reducible refine (withinL2 _ _ _ _ _ _ (by simp)).mono ?_); rintro e w' ⟨rfl, hb⟩; have hbA := Aside0.mk hb; obtain ⟨hcA, hfA⟩ := hb.old; have hz := hb.le; (try simp at hz); (try have hz0 : w.heap.size < w'.heap.size := by omega); (try have hzb : w.heap.size + 1 < w'.heap.size := by omega); (try have hzc : w.heap.size + 2 < w'.heap.size := by omega); clear hb) | (go_at_call 58; (with_reducible refine (withinL1 _ _ _ _ _ (by simp)).mono ?_); rintro e w' ⟨rfl, hb⟩; have hbA := Aside0.mk hb; obtain ⟨hcA, hfA⟩ := hb.old; have hz := hb.le; (try simp at hz); (try have hz0 : w.heap.size < w'.heap.size := by omega); (try have hzb : w.heap.size + 1 < w'.heap.size := by omega); (try have hzc : w.heap.size + 2 < w'.heap.size := by omega); clear hb))
    all_goals
      go_ret
      exact ⟨ret_bool (by unfold entB; rw [HD.out]; simp_all), upA⟩
theorem containsNone (A : Option Addr) (c : Nat) (l : List Ent) (w : World) (hr : Kd.C kEnt w A l.length l) (hc : l.length ≤ c) :
    Calls Try.prog 88 #[.slice A l.length c, .func (.func 91) #[] #[]] w fun e w' => e = .returned (.bool (l.any fun x => !entB x)) ∧ Up w w' :=
  contains_Ent 91 #[] (fun x => !entB x) _ _ l _ hr hc (by intro a w; kernel_rfl) (by intro x W hb; exact check1 _ _)
theorem isBlot (x : Ent) (w : World) : Calls Try.prog 79 #[.agg #[.int .i64 x.f, .int .i64 x.t, .int .i64 x.a]] w fun e w' => e = .returned (.bool (x.a == -1)) ∧ Up w w' := by
  go_enter Try.func79, Try.ntmps79
  go_wp2_with fail
  go_ret
  exact ⟨rfl, upA⟩
theorem containsBlot (A : Option Addr) (c : Nat) (l : List Ent) (w : World) (hr : Kd.C kEnt w A l.length l) (hc : l.length ≤ c) :
    Calls Try.prog 88 #[.slice A l.length c, .func (.func 79) #[] #[]] w fun e w' => e = .returned (.bool (l.any fun x => x.a == -1)) ∧ Up w w' :=
  contains_Ent 79 #[] (fun x => x.a == -1) _ _ l _ hr hc (by intro a w; kernel_rfl) (by intro x W hb; exact isBlot _ _)
def chkE (l : List Ent) : Int := if l.length > 12 then 5 else if l.any (fun x => !entB x) then 2 else 0
def readE (l : List Ent) : Int := if chkE l = 0 then (if l.any (fun x => x.a == -1) then 9 else 0) else chkE l
theorem chk_ (A : Option Addr) (c : Nat) (l : List Ent) (w : World) (hr : Kd.C kEnt w A l.length l) (hc : l.length ≤ c) :
    Calls Try.prog 78 #[.slice A l.length c] w fun e w' => e = .returned (.int .i64 (chkE l)) ∧ Up w w' := by
  have hm := CF_len hr
  have HR := Aside0.mk hr
  clear hr
  go_enter Try.func78, Try.ntmps78
  go_wp2_with (go_at_call 88; (with_reducible refine (containsNone _ _ _ _ (C_up HR.out upA) hc).mono ?_); rintro e w' ⟨rfl, hb⟩; have hbA := Aside0.mk hb; obtain ⟨hcA, hfA⟩ := hb.old; have hz := hb.le; (try simp at hz); (try have hz0 : w.heap.size < w'.heap.size := by omega); (try have hzb : w.heap.size + 1 < w'.heap.size := by omega); (try have hzc : w.heap.size + 2 < w'.heap.size := by omega); clear hb)
  all_goals
    go_ret
    exact ⟨ret_int (by first | (simp [chkE, *]; done) | (simp [chkE, *] <;> simp_all; done) | ((simp only [chkE]; (repeat' split)) <;> first | rfl | (exfalso; omega) | (exfalso; simp_all; done) | (exfalso; simp_all; omega) | (simp_all; done) | omega)), upA⟩
theorem read_ (A : Option Addr) (c : Nat) (l : List Ent) (w : World) (hr : Kd.C kEnt w A l.length l) (hc : l.length ≤ c) :
    Calls Try.prog 69 #[.slice A l.length c] w fun e w' => e = .returned (.int .i64 (readE l)) ∧ Up w w' := by
  have hm := CF_len hr
  have HR := Aside0.mk hr
  clear hr
  by_cases h : chkE l = 0
  · have hb : (chkE l == 0) = true := by simp [h]
    have HE := Aside0.mk h
    clear h
    go_enter Try.func69, Try.ntmps69
    go_wp2_with (first | (go_at_call 78; (with_reducible refine (chk_ _ _ _ _ (C_up HR.out upA) hc).mono ?_); rintro e w' ⟨rfl, hb⟩; have hbA := Aside0.mk hb; obtain ⟨hcA, hfA⟩ := hb.old; have hz := hb.le; (try simp at hz); (try have hz0 : w.heap.size < w'.heap.size := by omega); (try have hzb : w.heap.size + 1 < w'.heap.size := by omega); (try have hzc : w.heap.size + 2 < w'.heap.size := by omega); clear hb) | (go_at_call 88; (with_reducible refine (containsBlot _ _ _ _ (C_up HR.out upA) hc).mono ?_); rintro e w' ⟨rfl, hb⟩; have hbA := Aside0.mk hb; obtain ⟨hcA, hfA⟩ := hb.old; have hz := hb.le; (try simp at hz); (try have hz0 : w.heap.size < w'.heap.size := by omega); (try have hzb : w.heap.size + 1 < w'.heap.size := by omega); (try have hzc : w.heap.size + 2 < w'.heap.size := by omega); clear hb))
    all_goals
      go_ret
      exact ⟨ret_int (by unfold readE; rw [if_pos HE.out]; simp_all [HE.out]), upA⟩
  · have hb : (chkE l == 0) = false := by simp [h]
    have HE := Aside0.mk h
    clear h
    go_enter Try.func69, Try.ntmps69
    go_wp2_with (first | (go_at_call 78; (with_reducible refine (chk_ _ _ _ _ (C_up HR.out upA) hc).mono ?_); rintro e w' ⟨rfl, hb⟩; have hbA := Aside0.mk hb; obtain ⟨hcA, hfA⟩ := hb.old; have hz := hb.le; (try simp at hz); (try have hz0 : w.heap.size < w'.heap.size := by omega); (try have hzb : w.heap.size + 1 < w'.heap.size := by omega); (try have hzc : w.heap.size + 2 < w'.heap.size := by omega); clear hb) | (go_at_call 88; (with_reducible refine (containsBlot _ _ _ _ (C_up HR.out upA) hc).mono ?_); rintro e w' ⟨rfl, hb⟩; have hbA := Aside0.mk hb; obtain ⟨hcA, hfA⟩ := hb.old; have hz := hb.le; (try simp at hz); (try have hz0 : w.heap.size < w'.heap.size := by omega); (try have hzb : w.heap.size + 1 < w'.heap.size := by omega); (try have hzc : w.heap.size + 2 < w'.heap.size := by omega); clear hb))
    all_goals
      go_ret
      exact ⟨ret_int (by unfold readE; rw [if_neg HE.out]), upA⟩
theorem chk_of (l : List Ent) (h : chkE l = 0) : l.length ≤ 12 ∧ l.all entB = true := by
  unfold chkE at h
  by_cases h1 : l.length > 12
  · simp [h1] at h
  · rw [if_neg h1] at h
    cases h2 : (l.any fun x => !entB x)
    · refine ⟨by omega, List.all_eq_true.2 fun x hx => ?_⟩
      have := List.any_eq_false.1 h2 x hx
      simpa using this
    · rw [h2] at h
      simp at h
theorem read_of (l : List Ent) (h : readE l = 0) : chkE l = 0 ∧ (l.any fun x => x.a == -1) = false := by
  unfold readE at h
  by_cases h1 : chkE l = 0
  · rw [if_pos h1] at h
    cases h2 : (l.any fun x => x.a == -1)
    · exact ⟨h1, rfl⟩
    · rw [h2] at h
      simp at h
  · rw [if_neg h1] at h
    exact absurd h h1
def accL (a : Acc) : List Int := [a.a0, a.a1, a.a2, a.a3, a.a4, a.a5]
def balS (l : List Ent) : List Int := if readE l = 0 then accL (allA l) else []
theorem balances_ (A : Option Addr) (c : Nat) (l : List Ent) (w : World) (hr : Kd.C kEnt w A l.length l) (hc : l.length ≤ c) :
    Calls Try.prog 29 #[.slice A l.length c] w fun e w' => ∃ v, e = .returned (.tuple #[v, .int .i64 (readE l)]) ∧ w'.ownsRow w.heap.size 135 1 v (balS l).length (nums .i64 (balS l)) ∧ Up w w' := by
  have hm := CF_len hr
  have HR := Aside0.mk hr
  clear hr
  by_cases h : readE l = 0
  · have hb : (readE l != 0) = false := by simp [h]
    obtain ⟨h1, h2⟩ := read_of l h
    obtain ⟨h3, h4⟩ := chk_of l h1
    have HS : Aside0 (balS l = accL (allA l)) := ⟨by simp [balS, h]⟩
    have HA := Aside0.mk h4
    have HE := Aside0.mk h
    clear h h1 h2 h4
    go_enter Try.func29, Try.ntmps29
    go_wp2_with (first | (go_at_call 69; (with_reducible refine (read_ _ _ _ _ (C_up HR.out upA) hc).mono ?_); rintro e w' ⟨rfl, hb⟩; have hbA := Aside0.mk hb; obtain ⟨hcA, hfA⟩ := hb.old; have hz := hb.le; (try simp at hz); (try have hz0 : w.heap.size < w'.heap.size := by omega); (try have hzb : w.heap.size + 1 < w'.heap.size := by omega); (try have hzc : w.heap.size + 2 < w'.heap.size := by omega); clear hb) | (go_at_call 70; (with_reducible refine (all_ _ _ _ _ (C_up HR.out upA) hc HA.out (by omega)).mono ?_); rintro e w' ⟨rfl, hb⟩; have hbA := Aside0.mk hb; obtain ⟨hcA, hfA⟩ := hb.old; have hz := hb.le; (try simp at hz); (try have hz0 : w.heap.size < w'.heap.size := by omega); (try have hzb : w.heap.size + 1 < w'.heap.size := by omega); (try have hzc : w.heap.size + 2 < w'.heap.size := by omega); clear hb))
    go_ret2
    exact ⟨.slice (some ⟨w'.heap.size, 0, none⟩) 6 6, by simp [HE.out], by rw [HS.out]; exact ⟨rfl, .inr ⟨w'.heap.size, 6, _, rfl, by omega, Bx.new w' _ _, Nat.le_refl _, by decide, rfl, rfl⟩⟩, upA⟩
  · have hb : (readE l != 0) = true := by simp [h]
    have HS : Aside0 (balS l = []) := ⟨by simp [balS, h]⟩
    clear h
    go_enter Try.func29, Try.ntmps29
    go_wp2_with (first | (go_at_call 69; (with_reducible refine (read_ _ _ _ _ (C_up HR.out upA) hc).mono ?_); rintro e w' ⟨rfl, hb⟩; have hbA := Aside0.mk hb; obtain ⟨hcA, hfA⟩ := hb.old; have hz := hb.le; (try simp at hz); (try have hz0 : w.heap.size < w'.heap.size := by omega); (try have hzb : w.heap.size + 1 < w'.heap.size := by omega); (try have hzc : w.heap.size + 2 < w'.heap.size := by omega); clear hb))
    go_ret2
    exact ⟨.slice none 0 0, by simp, by rw [HS.out]; exact ⟨rfl, .inl ⟨rfl, rfl⟩⟩, upA⟩
def balB (b : List Int) : Bool := decide (b.length = 6) && inB (-100000) 100000 b
def balA (b : List Int) : Acc := if balB b then ⟨rd b 0, rd b 1, rd b 2, rd b 3, rd b 4, rd b 5⟩ else z_Acc
theorem ret_cell2 {P : Program} {fn : Func} {a : Act} {W : World} {v u : Value} {sl t s2 : Nat} {ad : Addr} (hf : fn.results = #[.cell sl t, .tmp s2]) (hs : a.tmps.getD sl undef = .pointer (some ad)) (hl : (loadVar t ad).run P W = .ok v W) (hu : a.tmps.getD s2 undef = u := by rfl) : (results fn a.tmps).run P W = .ok (.tuple #[v, u]) W := by
  have h1 : (asAddr (a.tmps.getD sl undef)).run P W = .ok ad W := by rw [hs]; rfl
  unfold results
  rw [hf]
  simp only [Array.mapM_eq_mapM_toList, List.mapM_cons, List.mapM_nil, Sem.run_bind, Sem.run_pure, h1, hl, hu, Result.andThen_ok, bind_pure_comp, Sem.run_map]
  simp
set_option maxRecDepth 100000 in
theorem bal6_ (A : Option Addr) (c : Nat) (x0 x1 x2 x3 x4 x5 : Int) (w : World) (hr : Kd.C (Kd.int .i64) w A 6 [x0, x1, x2, x3, x4, x5]) (hc : 6 ≤ c) :
    Calls Try.prog 73 #[.slice A 6 c] w fun e w' => e = .returned (.tuple #[.agg #[.int .i64 (balA [x0, x1, x2, x3, x4, x5]).a0, .int .i64 (balA [x0, x1, x2, x3, x4, x5]).a1, .int .i64 (balA [x0, x1, x2, x3, x4, x5]).a2, .int .i64 (balA [x0, x1, x2, x3, x4, x5]).a3, .int .i64 (balA [x0, x1, x2, x3, x4, x5]).a4, .int .i64 (balA [x0, x1, x2, x3, x4, x5]).a5], .bool (balB [x0, x1, x2, x3, x4, x5])]) ∧ Up w w' := by
  have HR := Aside0.mk hr
  obtain ⟨ad, rfl, h0⟩ := Kd.at_int hr 0 (by omega) (by simp)
  obtain ⟨ad1, e1, h1⟩ := Kd.at_int hr 1 (by omega) (by simp)
  obtain ⟨ad2, e2, h2⟩ := Kd.at_int hr 2 (by omega) (by simp)
  obtain ⟨ad3, e3, h3⟩ := Kd.at_int hr 3 (by omega) (by simp)
  obtain ⟨ad4, e4, h4⟩ := Kd.at_int hr 4 (by omega) (by simp)
  obtain ⟨ad5, e5, h5⟩ := Kd.at_int hr 5 (by omega) (by simp)
  cases e1; cases e2; cases e3; cases e4; cases e5
  clear hr
  cases hin : inB (-100000) 100000 [x0, x1, x2, x3, x4, x5]
  · have HI := Aside0.mk hin
    have HB : Aside0 (balB [x0, x1, x2, x3, x4, x5] = false) := ⟨by simp [balB, hin]⟩
    have HA : Aside0 (balA [x0, x1, x2, x3, x4, x5] = z_Acc) := ⟨by simp [balA, HB.out]⟩
    clear hin h0 h1 h2 h3 h4 h5
    rw [HA.out, HB.out]
    go_enter Try.func73, Try.ntmps73
    go_wp2_with (first | (go_at_call 58; (with_reducible refine ((HI.out ▸ within _ _ _ _ 6 [x0, x1, x2, x3, x4, x5] _ rfl (C_up HR.out upA) hc)).mono ?_); rintro e w' ⟨rfl, hb⟩; have hbA := Aside0.mk hb; obtain ⟨hcA, hfA⟩ := hb.old; have hz := hb.le; (try simp at hz); (try have hz0 : w.heap.size < w'.heap.size := by omega); (try have hzb : w.heap.size + 1 < w'.heap.size := by omega); (try have hzc : w.heap.size + 2 < w'.heap.size := by omega); clear hb))
    refine bodyPost_ret (v := .tuple #[.agg #[.int .i64 (z_Acc).a0, .int .i64 (z_Acc).a1, .int .i64 (z_Acc).a2, .int .i64 (z_Acc).a3, .int .i64 (z_Acc).a4, .int .i64 (z_Acc).a5], .bool false]) ?_ rfl ⟨rfl, upA⟩
    simp [results, Try.results73, go_sem, z_Acc, hcA]
  · have harr : ∀ w, (Instr.arrayAt 135 (.slice (some ad) 6 c)).run Try.prog w = .ok (.pointer (some ad)) w := by
      intro w
      have hu := Try.underlying135
      simp [Instr.arrayAt, go_sem, run_underlying hu]
    have HI := Aside0.mk hin
    have HB : Aside0 (balB [x0, x1, x2, x3, x4, x5] = true) := ⟨by simp [balB, hin]⟩
    have HA : Aside0 (balA [x0, x1, x2, x3, x4, x5] = ⟨x0, x1, x2, x3, x4, x5⟩) := ⟨by simp [balA, HB.out, rd]⟩
    clear hin
    have c0 : w.cell? ad = some (.int .i64 x0) := h0
    have c1 : w.cell? ⟨ad.block, ad.off + 1, none⟩ = some (.int .i64 x1) := h1
    have c2 : w.cell? ⟨ad.block, ad.off + 2, none⟩ = some (.int .i64 x2) := h2
    have c3 : w.cell? ⟨ad.block, ad.off + 3, none⟩ = some (.int .i64 x3) := h3
    have c4 : w.cell? ⟨ad.block, ad.off + 4, none⟩ = some (.int .i64 x4) := h4
    have c5 : w.cell? ⟨ad.block, ad.off + 5, none⟩ = some (.int .i64 x5) := h5
    clear h0 h1 h2 h3 h4 h5
    rw [HA.out, HB.out]
    go_enter Try.func73, Try.ntmps73
    go_wp2_with (first | (go_at_call 58; (with_reducible refine ((HI.out ▸ within _ _ _ _ 6 [x0, x1, x2, x3, x4, x5] _ rfl (C_up HR.out upA) hc)).mono ?_); rintro e w' ⟨rfl, hb⟩; have hbA := Aside0.mk hb; obtain ⟨hcA, hfA⟩ := hb.old; have hz := hb.le; (try simp at hz); (try have hz0 : w.heap.size < w'.heap.size := by omega); (try have hzb : w.heap.size + 1 < w'.heap.size := by omega); (try have hzc : w.heap.size + 2 < w'.heap.size := by omega); have d0 := hb.cell (Up.cell ((Up.refl w).alloc _) c0); have d1 := hb.cell (Up.cell ((Up.refl w).alloc _) c1); have d2 := hb.cell (Up.cell ((Up.refl w).alloc _) c2); have d3 := hb.cell (Up.cell ((Up.refl w).alloc _) c3); have d4 := hb.cell (Up.cell ((Up.refl w).alloc _) c4); have d5 := hb.cell (Up.cell ((Up.refl w).alloc _) c5);have hBx : Bx w' w.heap.size #[.int .i64 0, .int .i64 0, .int .i64 0, .int .i64 0, .int .i64 0, .int .i64 0] 135 := (Bx.new w _ _).up hb; have hfz := hBx.frozen; have HBx := Aside0.mk hBx; clear hBx; clear hb))
    have hX := ((((((HBx.out.set 0 (.int .i64 x0)).set 1 (.int .i64 x1)).set 2 (.int .i64 x2)).set 3 (.int .i64 x3)).set 4 (.int .i64 x4)).set 5 (.int .i64 x5))
    refine bodyPost_ret (v := .tuple #[.agg #[.int .i64 ((⟨x0, x1, x2, x3, x4, x5⟩ : Acc)).a0, .int .i64 ((⟨x0, x1, x2, x3, x4, x5⟩ : Acc)).a1, .int .i64 ((⟨x0, x1, x2, x3, x4, x5⟩ : Acc)).a2, .int .i64 ((⟨x0, x1, x2, x3, x4, x5⟩ : Acc)).a3, .int .i64 ((⟨x0, x1, x2, x3, x4, x5⟩ : Acc)).a4, .int .i64 ((⟨x0, x1, x2, x3, x4, x5⟩ : Acc)).a5], .bool true]) (ret_cell2 rfl rfl (acc_load ⟨x0, x1, x2, x3, x4, x5⟩ hX)) rfl ⟨rfl, ?_⟩
    have hU : Up w w' := upA
    exact ((((((hU.set _ _ (by simp)).set _ _ (by simp)).set _ _ (by simp)).set _ _ (by simp)).set _ _ (by simp)).set _ _ (by simp))
theorem bal_ (A : Option Addr) (c : Nat) (l : List Int) (w : World) (hr : Kd.C (Kd.int .i64) w A l.length l) (hc : l.length ≤ c) :
    Calls Try.prog 73 #[.slice A l.length c] w fun e w' => e = .returned (.tuple #[.agg #[.int .i64 (balA l).a0, .int .i64 (balA l).a1, .int .i64 (balA l).a2, .int .i64 (balA l).a3, .int .i64 (balA l).a4, .int .i64 (balA l).a5], .bool (balB l)]) ∧ Up w w' := by
  by_cases h6 : l.length = 6
  · obtain ⟨x0, x1, x2, x3, x4, x5, rfl⟩ : ∃ x0 x1 x2 x3 x4 x5, l = [x0, x1, x2, x3, x4, x5] := by
      match l, h6 with
      | [a, b, c, d, e, f], _ => exact ⟨a, b, c, d, e, f, rfl⟩
    exact bal6_ A c x0 x1 x2 x3 x4 x5 w hr hc
  · have hm := CF_len hr
    have HR := Aside0.mk hr
    clear hr
    have hb6 : ((l.length : Int) != 6) = true := by simp; omega
    have HB : Aside0 (balB l = false) := ⟨by simp [balB, h6]⟩
    have HA : Aside0 (balA l = z_Acc) := ⟨by simp [balA, HB.out]⟩
    rw [HA.out, HB.out]
    go_enter Try.func73, Try.ntmps73
    go_wp2_with fail
    refine bodyPost_ret (v := .tuple #[.agg #[.int .i64 (z_Acc).a0, .int .i64 (z_Acc).a1, .int .i64 (z_Acc).a2, .int .i64 (z_Acc).a3, .int .i64 (z_Acc).a4, .int .i64 (z_Acc).a5], .bool false]) (by simp [results, Try.results73, go_sem, z_Acc]) rfl ⟨rfl, upA⟩
end Go.Proofs.Ytdlekcdedahbhaa
namespace Go.Proofs.Ytdlekcdedahbhaa
open Go.RowKit Go.Shelf Go.Proofs.YtdlekcdedahbhaaW.PrintWords
set_option linter.unusedVariables false
set_option linter.unusedSimpArgs false
theorem clip_ (A : Option Addr) (n c : Nat) (w : World) (hn : n ≤ c) (hm : c ≤ 9223372036854775807) :
    Calls Try.prog 96 #[.slice A n c] w fun e w' => e = .returned (.slice A n n) ∧ Up w w' := by
  go_enter Try.func96, Try.ntmps96
  go_wp2_with fail
  go_ret
  exact ⟨by simp, upA⟩
set_option maxRecDepth 100000 in
theorem clone_ (v : Value) (base : Nat) (l : List Int) (w : World) (h : w.ownsRow base 3 1 v l.length (nums .i64 l)) (hl : l.length ≤ 1000) :
    Calls Try.prog 95 #[v] w fun e w' => ∃ v', e = .returned v' ∧ w'.ownsRow w.heap.size 3 1 v' l.length (nums .i64 l) ∧ Up w w' := by
  obtain ⟨A, c, rfl, hc, hA, hcell⟩ := own_cells h
  have q35 : ∀ (w : World) (a : Option Addr) (n c n' c' : Nat), (binOp .eql 35 (.slice a n c) (.slice none n' c')).run Try.prog w = .ok (.bool a.isNone) w := fun w a n c n' c' => Lib.run_eql_slice_nil w _ _ a n c n' c' Try.underlying35
  cases A with
  | none =>
    have h0 : l = [] := List.eq_nil_of_length_eq_zero (hA rfl)
    subst h0
    go_enter Try.func95, Try.ntmps95
    go_wp2_with fail
    go_ret
    exact ⟨.slice none 0 0, by simp, ⟨rfl, .inl ⟨rfl, rfl⟩⟩, upA⟩
  | some ad =>
    have HC : Aside0 (0 < l.length → ∃ ad', some ad = some ad' ∧ ∀ j u, (nums .i64 l)[j]? = some u → (w.alloc (.cells #[] 3)).cell? (ad'.add j) = some u) := ⟨fun _ => ⟨ad, rfl, fun j u hu => (Up.alloc (Up.refl w) _).cell (hcell ad rfl j u hu)⟩⟩
    clear hcell hA h
    go_enter Try.func95, Try.ntmps95
    go_wp2_with (at_builtin; refine append_all w.heap.size rfl _ _ 35 3 (.int .i64 0) 1 8 rfl Try.underlying35 info_int rfl (by decide) (by decide) _ 0 [] (nums .i64 l) (some ad) l.length c rfl rfl (World.ownsRow_made w #[] 0 (Nat.le_refl _) (Nat.zero_le _) rfl) (by simp [nums]) HC.out ?qc3 ?qc4 ?qc5 ?_)
    case qc3 => intro u hu; simp only [nums, List.mem_map] at hu; obtain ⟨q, _, rfl⟩ := hu; rfl
    case qc4 => simp
    case qc5 => omega
    intro v1 w1 hown hgrow
    have HU : Aside0 (Up w w1) := ⟨((Below.refl _ w).alloc (Nat.le_refl _) _).grown hgrow (by simp) (by intro k hk; simp [Value.ownBlock] at hk; omega)⟩
    have HO := Aside0.mk hown
    clear hown hgrow
    go_wp2
    go_ret
    exact ⟨v1, by simp, by have h9 := HO.out; simpa using h9, HU.out⟩
end Go.Proofs.Ytdlekcdedahbhaa
namespace Go.Proofs.Ytdlekcdedahbhaa
open Go.RowKit Go.Shelf Go.Proofs.YtdlekcdedahbhaaW.PrintWords
set_option linter.unusedVariables false
set_option linter.unusedSimpArgs false
structure Bst where
  b : List Int
  m : Int
def addAt (s : List Int) (k : Nat) (n : Int) : List Int := if k = s.length then s ++ [n] else s.set k (rd s k + n)
def partL : List Int → List Int → List Int → Bst → Bst
  | [], g, s, b => if b.m < s.length ∧ (s.any fun n => n != 0) = false then ⟨g, s.length⟩ else b
  | n :: ns, g, s, b => if n = 0 then partL ns (g ++ [-1]) s b else (List.range (s.length + 1)).foldl (fun (b : Bst) (k : Nat) => partL ns (g ++ [(k : Int)]) (addAt s k n) b) b
def partI (n : Int) (ns g s : List Int) (b : Bst) (j : Nat) : Bst := (List.range j).foldl (fun (b : Bst) (k : Nat) => partL ns (g ++ [(k : Int)]) (addAt s k n) b) b
theorem partI_succ (n ns g s b j) : partI n ns g s b (j + 1) = partL ns (g ++ [(j : Int)]) (addAt s j n) (partI n ns g s b j) := by
  simp only [partI, List.range_succ, List.foldl_append, List.foldl_cons, List.foldl_nil]
theorem addAt_len (s : List Int) (k : Nat) (n : Int) : (addAt s k n).length ≤ s.length + 1 ∧ s.length ≤ (addAt s k n).length := by
  unfold addAt
  split <;> simp
def SumB (m : Int) (s : List Int) : Prop := ∀ x ∈ s, -m ≤ x ∧ x ≤ m
theorem sumB_rd {m : Int} {s : List Int} (h : SumB m s) (k : Nat) (hk : k < s.length) : -m ≤ rd s k ∧ rd s k ≤ m := by
  have : rd s k = s[k] := by simp [rd, hk]
  rw [this]
  exact h _ (List.getElem_mem _)
theorem sumB_addAt {m d : Int} {s : List Int} (h : SumB m s) (k : Nat) (hk : k ≤ s.length) (n : Int) (hn : -d ≤ n ∧ n ≤ d) (hm : 0 ≤ m) : SumB (m + d) (addAt s k n) := by
  intro x hx
  unfold addAt at hx
  split at hx
  · rcases List.mem_append.1 hx with h1 | h1
    · have := h x h1; omega
    · simp at h1; omega
  · rename_i hne
    rcases List.mem_or_eq_of_mem_set hx with h1 | h1
    · have := h x h1; omega
    · have := sumB_rd h k (by omega); omega
def StB (β : Nat) (w : World) (r : Nat) (a : Acc) (b : Bst) : Prop := ∃ vb, Bx w r #[.int .i64 a.a0, .int .i64 a.a1, .int .i64 a.a2, .int .i64 a.a3, .int .i64 a.a4, .int .i64 a.a5, vb, .int .i64 b.m] 153 ∧ w.ownsRow β 3 1 vb b.b.length (nums .i64 b.b) ∧ -1 ≤ b.m ∧ b.m ≤ 100
theorem StB.up {β w w' r a b} (h : StB β w r a b) (hu : Up w w') : StB β w' r a b := by
  obtain ⟨vb, h1, h2, h3, h4⟩ := h
  exact ⟨vb, h1.up hu, own_up h2 hu, h3, h4⟩
theorem part1 (n : Int) (w : World) : Calls Try.prog 94 #[.int .i64 n] w fun e w' => e = .returned (.bool (n != 0)) ∧ Up w w' := by
  go_enter Try.func94, Try.ntmps94
  go_wp2_with fail
  go_ret
  exact ⟨rfl, upA⟩
theorem containsNz (v : Value) (base : Nat) (l : List Int) (w : World) (h : w.ownsRow base 3 1 v l.length (nums .i64 l)) (hl : l.length ≤ 1000) :
    Calls Try.prog 84 #[v, .func (.func 94) #[] #[]] w fun e w' => e = .returned (.bool (l.any fun n => n != 0)) ∧ Up w w' := by
  obtain ⟨A, c, rfl, hc, hC⟩ := own_C_int h (by omega)
  exact contains_int 94 #[] (fun n => n != 0) A c l w hC hc (by intro a w; kernel_rfl) (by intro x W hb; exact part1 _ _)
theorem partL_m : ∀ (ns g s : List Int) (b : Bst), s.length + ns.length ≤ 50 → -1 ≤ b.m → b.m ≤ 100 → -1 ≤ (partL ns g s b).m ∧ (partL ns g s b).m ≤ 100
  | [], g, s, b, h, h0, h1 => by
    rw [partL]
    split
    · simp at h ⊢; omega
    · exact ⟨h0, h1⟩
  | n :: ns, g, s, b, h, h0, h1 => by
    rw [partL]
    simp only [List.length_cons] at h
    split
    · exact partL_m ns _ s b (by omega) h0 h1
    · have : ∀ j : Nat, j ≤ s.length + 1 → -1 ≤ (partI n ns g s b j).m ∧ (partI n ns g s b j).m ≤ 100 := by
        intro j
        induction j with
        | zero => intro _; exact ⟨h0, h1⟩
        | succ j ih =>
          intro hj
          have h2 := ih (by omega)
          rw [partI_succ]
          have h3 := addAt_len s j n
          exact partL_m ns _ _ _ (by omega) h2.1 h2.2
      exact this _ (Nat.le_refl _)
theorem st_get (a : Acc) (v x : Value) (i : Nat) (h : i < 6) : (#[.int .i64 a.a0, .int .i64 a.a1, .int .i64 a.a2, .int .i64 a.a3, .int .i64 a.a4, .int .i64 a.a5, v, x] : Array Value)[i]? = some (.int .i64 (a.get i)) := by
  obtain rfl | rfl | rfl | rfl | rfl | rfl : i = 0 ∨ i = 1 ∨ i = 2 ∨ i = 3 ∨ i = 4 ∨ i = 5 := by omega
  all_goals rfl
theorem accL_drop (a : Acc) (i : Nat) (n : Int) (ns : List Int) (h : n :: ns = (accL a).drop i) : i < 6 ∧ n = a.get i ∧ ns = (accL a).drop (i + 1) := by
  have hl := congrArg List.length h
  simp [accL] at hl
  have hi : i < 6 := by omega
  refine ⟨hi, ?_, ?_⟩
  · obtain rfl | rfl | rfl | rfl | rfl | rfl : i = 0 ∨ i = 1 ∨ i = 2 ∨ i = 3 ∨ i = 4 ∨ i = 5 := by omega
    all_goals (simp [accL] at h; simp [Acc.get, h.1])
  · rw [← List.drop_drop, ← h]
    rfl
theorem ofGrown {w w' : World} (h : w.grownBy w' none) : Up w w' := Below.grown (Below.refl _ w) h (Nat.le_refl _) (fun k hk => nomatch hk)
set_option maxRecDepth 100000 in
set_option maxHeartbeats 2000000 in
theorem part_ (a : Acc) (ha : AccB 100000 a) (r β : Nat) : ∀ (ns g s : List Int) (b : Bst) (w : World) (vg vs : Value), β ≤ w.heap.size → ns = (accL a).drop g.length → g.length ≤ 6 → s.length ≤ g.length → SumB (100000 * (g.length : Int)) s →
    w.ownsRow 0 3 1 vg g.length (nums .i64 g) → w.ownsRow 0 3 1 vs s.length (nums .i64 s) → StB β w r a b →
    Calls Try.prog 81 #[.pointer (some ⟨r, 0, none⟩), vg, vs] w fun e w' => e = .returned (.tuple #[]) ∧ Wr r w w' ∧ StB β w' r a (partL ns g s b) := by
  intro ns
  induction ns with
  | nil =>
    intro g s b w vg vs hβ hns hg hs hsb hog hos hst
    have hg6 : g.length = 6 := by
      have h1 := congrArg List.length hns
      simp [accL] at h1
      omega
    obtain ⟨Ag, cg, rfl, hcg, _⟩ := own_cells hog
    obtain ⟨As, cs, rfl, hcs, _⟩ := own_cells hos
    have HST := Aside0.mk hst
    obtain ⟨vb, hB, hvb, hm1, hm2⟩ := hst
    have HOG := Aside0.mk hog
    have HOS := Aside0.mk hos
    have HB := Aside0.mk hB
    have hbg : ((g.length : Int) == 6) = true := by simp; omega
    have hq := hB.cell
    have hsl : s.length ≤ 6 := by omega
    have HG6 := Aside0.mk hg6
    clear hog hos hB hvb hsb hns hg6 hg hs
    by_cases hlt : b.m < s.length
    · have hd : decide (b.m < (s.length : Int)) = true := by simpa using hlt
      cases hany : (s.any fun n => n != 0)
      · have HA := Aside0.mk hany
        have HP : Aside0 (partL [] g s b = ⟨g, s.length⟩) := ⟨by simp [partL, hlt, hany]⟩
        clear hany hlt
        go_enter Try.func81, Try.ntmps81
        go_wp2_with (first | (go_at_call 84; (with_reducible refine ((HA.out ▸ containsNz _ _ _ _ HOS.out (by omega))).mono ?_); rintro e w' ⟨rfl, hb⟩; have hq2 := (HB.out.up hb).cell; have hbA := Aside0.mk hb; clear hb) | (go_at_call 95; (with_reducible refine (clone_ _ _ g _ (own_up HOG.out hbA.out) (by have := HG6.out; omega)).mono ?_); rintro e w2 ⟨v', rfl, ho, hb2⟩; obtain ⟨A', c', rfl, _, _⟩ := own_cells ho; have hB2 := (HB.out.up hbA.out).up hb2; have hq3 := hB2.cell; have hf3 := hB2.frozen; have HB2 := Aside0.mk hB2; have HO := Aside0.mk ho; have hbB := Aside0.mk hb2; clear hb2 ho hB2))
        refine bodyPost_ret (results_none rfl _ _ _) rfl ⟨rfl, ?_, ?_⟩
        · exact ((Wr.ofUp (hbA.out.then hbB.out)).then ((Wr.refl _ _).setAt _ _)).then ((Wr.refl _ _).setAt _ _)
        · rw [HP.out]
          have h9 := (HB2.out.set 6 (.slice A' g.length c')).set 7 (.int .i64 (s.length : Int))
          exact ⟨.slice A' g.length c', h9, own_far (own_far (own_mono HO.out (by have := hbA.out.le; omega)) HB2.out (by decide) _ _) (HB2.out.set _ _) (by decide) _ _, by simp only; omega, by simp only; omega⟩
      · have HA := Aside0.mk hany
        have HP : Aside0 (partL [] g s b = b) := ⟨by simp [partL, hany]⟩
        clear hany hlt
        go_enter Try.func81, Try.ntmps81
        go_wp2_with (first | (go_at_call 84; (with_reducible refine ((HA.out ▸ containsNz _ _ _ _ HOS.out (by omega))).mono ?_); rintro e w' ⟨rfl, hb⟩; have hbA := Aside0.mk hb; clear hb) | fail)
        refine bodyPost_ret (results_none rfl _ _ _) rfl ⟨rfl, Wr.ofUp hbA.out, ?_⟩
        rw [HP.out]
        exact HST.out.up hbA.out
    · have hd : decide (b.m < (s.length : Int)) = false := by simpa using hlt
      have HP : Aside0 (partL [] g s b = b) := ⟨by simp [partL, hlt]⟩
      clear hlt
      go_enter Try.func81, Try.ntmps81
      go_wp2_with fail
      refine bodyPost_ret (results_none rfl _ _ _) rfl ⟨rfl, Wr.refl _ _, ?_⟩
      rw [HP.out]
      exact HST.out
  | cons n ns ih =>
    intro g s b w vg vs hβ hns hg hs hsb hog hos hst
    obtain ⟨hgl, hn, hns2⟩ := accL_drop a g.length n ns hns
    have hnb := ha.get (by omega) g.length
    rw [← hn] at hnb
    obtain ⟨Ag, cg, rfl, hcg, hAn, hAc⟩ := own_cells hog
    obtain ⟨As, cs, rfl, hcs, _⟩ := own_cells hos
    have HST := Aside0.mk hst
    obtain ⟨vb, hB, hvb, hm1, hm2⟩ := hst
    have hcell : w.cell? ⟨r, g.length, none⟩ = some (.int .i64 n) := by rw [hB.cell, hn]; exact st_get a _ _ _ hgl
    obtain ⟨i0, hi, hz0, hz1, hz2⟩ := info_parts info_int
    have hgl2 : (g.length : Int) < 6 := by omega
    have hg0 : 0 ≤ (g.length : Int) := by omega
    have hbg : ((g.length : Int) == 6) = false := by simp; omega
    have hmlg := (show cg ≤ 9223372036854775807 by
      rcases hog.2 with ⟨e, _⟩ | ⟨g2, cap, cur, e, _, _, _, h, _⟩
      · simp at e; omega
      · simp at e; unfold maxLen at h; omega)
    have HOG := Aside0.mk hog
    have HOS := Aside0.mk hos
    have HB := Aside0.mk hB
    have HAN := Aside0.mk hAn
    have HAC := Aside0.mk hAc
    have HSB := Aside0.mk hsb
    have HNS := Aside0.mk hns2
    have IH := Aside0.mk ih
    clear hog hos hB hvb hsb hns hn hns2 hAn hAc ih
    by_cases hz : n = 0
    · subst hz
      have HP : Aside0 (partL (0 :: ns) g s b = partL ns (g ++ [-1]) s b) := ⟨by simp [partL]⟩
      go_enter Try.func81, Try.ntmps81
      go_wp2_with (first | (go_at_call 96; (with_reducible refine (clip_ _ _ _ _ hcg hmlg).mono ?_); rintro e w' ⟨rfl, hb⟩; have hbA := Aside0.mk hb; obtain ⟨hcA, hfA⟩ := hb.old; have hz := hb.le; (try simp at hz); (try have hz0 : w.heap.size < w'.heap.size := by omega); (try have hzb : w.heap.size + 1 < w'.heap.size := by omega); (try have hzc : w.heap.size + 2 < w'.heap.size := by omega); clear hb) | (at_builtin; refine wpList_append_grows _ rfl _ _ 35 rfl 3 i0 _ 1 8 Try.underlying35 hi hz0 hz1 hz2 rfl (by decide) Ag g.length g.length (nums .i64 g) rfl (fun e => ⟨HAN.out e, HAN.out e⟩) (by simp [nums]) ?hcells ⟨w'.heap.size, 0, none⟩ 1 1 [.int .i64 (-1)] (by first | rfl | go_simp) rfl ?hnews ?hone (by omega) ?b1 ?b2 ?_))
      case hcells =>
        intro ad e j u hu
        exact (hbA.out.alloc _).cell (HAC.out ad e j u hu)
      case hnews =>
        intro j u hu
        match j, hu with
        | 0, hu => simp at hu; subst hu; simp [go_sem]
      case hone => intro u hu; simp at hu; subst hu; rfl
      case b1 => unfold maxLen; omega
      case b2 => omega
      intro v1 w1 hown hgrow
      have hU1 : Up w w1 := (hbA.out.alloc _).then (ofGrown hgrow)
      have hown2 : w1.ownsRow 0 3 1 v1 (g ++ [-1]).length (nums .i64 (g ++ [-1])) := by
        have h9 := own_mono hown (Nat.zero_le _)
        simpa [nums] using h9
      obtain ⟨A1, c1, rfl, _, _⟩ := own_cells hown2
      have hcall := IH.out (g ++ [-1]) s b w1 _ (.slice As s.length cs) (by have := hU1.le; omega) (by simpa using HNS.out) (by simp; omega) (by simp; omega) (fun x hx => by have := HSB.out x hx; simp; omega) hown2 (own_up HOS.out hU1) (HST.out.up hU1)
      rw [show (g ++ [(-1 : Int)]).length = g.length + 1 by simp] at hcall
      have HU1 := Aside0.mk hU1
      clear hown hgrow hown2 hU1
      repeat clear hcA hfA
      go_wp2_with fail
      with_reducible refine hcall.mono ?_
      clear hcall
      rintro e w2 ⟨rfl, hw2, hst2⟩
      have HW2 := Aside0.mk ((Wr.ofUp HU1.out).then hw2)
      have HS2 := Aside0.mk hst2
      clear hw2 hst2
      go_wp2_with fail
      refine bodyPost_ret (results_none rfl _ _ _) rfl ⟨rfl, HW2.out, ?_⟩
      rw [HP.out]
      exact HS2.out
    · have hbz : (n == 0) = false := by simp [hz]
      have HP : Aside0 (partL (n :: ns) g s b = partI n ns g s b (s.length + 1)) := ⟨by simp [partL, hz, partI]⟩
      clear hz
      go_enter Try.func81, Try.ntmps81
      go_wp2_with fail
      go_loopw [53] (fun i wr => ∃ k : Nat, k ≤ s.length + 1 ∧ i = .int .i64 k ∧ Aside0 (Wr r w wr) ∧ Aside0 (StB β wr r a (partI n ns g s b k))) (fun i _ => s.length + 1 - (intOf i).toNat)
      case atStart => exact ⟨0, by omega, rfl, ⟨Wr.refl _ _⟩, HST⟩
      case round =>
        obtain ⟨k, hk, rfl, hW, hST⟩ := hrel
        by_cases hlt : k < s.length + 1
        · have hOSr := own_wr2 HOS.out HB.out (by decide) hW.out
          have hOGr := own_wr2 HOG.out HB.out (by decide) hW.out
          obtain ⟨Ag', cg', hvg, _, _, hACr⟩ := own_cells hOGr
          have hagg : Ag = Ag' := by simp at hvg; exact hvg.1
          subst hagg
          have HACr := Aside0.mk hACr
          have hclone := clone_ (.slice As s.length cs) 0 s wr hOSr (by omega)
          have hdl : decide ((k : Int) < (s.length : Int) + 1) = true := by simp; omega
          clear hOSr hOGr hvg hACr
          by_cases hks : k = s.length
          · have hbk : ((k : Int) == (s.length : Int)) = true := by simp [hks]
            have HKS := Aside0.mk hks
            clear hks
            go_wp2_with fail
            with_reducible refine hclone.mono ?_
            clear hclone
            rintro e wc ⟨v', rfl, ho, hbc⟩
            have HOC := Aside0.mk ho
            have HUC : Aside0 (Up wr wc) := ⟨hbc⟩
            have hzc := hbc.le
            clear ho hbc
            go_wp2_with (at_builtin; refine print_append_cells (w0 := wr) wr.heap.size rfl _ _ 35 3 _ 1 8 rfl Try.underlying35 info_int rfl (by decide) (by decide) v' s.length _ [.int .i64 0] rfl (by first | rfl | go_simp) rfl ?q1 HOC.out HUC.out hzc ?q2 ?_)
            case q1 => intro u hu; simp at hu; subst hu; rfl
            case q2 => omega
            intro v3 w3 hown3 hb3 hgrow3 hat3
            have HU3 : Aside0 (Up wr w3) := ⟨hb3⟩
            have HO3 : Aside0 (w3.ownsRow wr.heap.size 3 1 v3 (s ++ [(0 : Int)]).length (nums .i64 (s ++ [(0 : Int)]))) := ⟨by simpa [nums] using hown3⟩
            have hk3 : k < (s ++ [(0 : Int)]).length := by have := HKS.out; simp; omega
            have hrd : rd (s ++ [(0 : Int)]) k = 0 := by have := HKS.out; subst this; simp [rd]
            have hs3 : Aside0 ((s ++ [(0 : Int)]).set k (rd (s ++ [(0 : Int)]) k + n) = addAt s k n) := ⟨by rw [hrd]; have := HKS.out; subst this; simp [addAt]⟩
            have hL : Aside0 ((s ++ [(0 : Int)]).length = s.length + 1) := ⟨by simp⟩
            clear hown3 hb3 hgrow3 hat3
            have hrb : -600000 ≤ rd (s ++ [(0 : Int)]) k ∧ rd (s ++ [(0 : Int)]) k ≤ 600000 := by omega
            clear hrd
            obtain ⟨g3, c3, hv3, hbase, hlt3, hc3, hf3, _, hput⟩ := own_put HO3.out k hk3
            rw [show (s ++ [(0 : Int)]).length = s.length + 1 by simp] at hv3
            subst hv3
            have hwr1 : IntKind.i64.wrap (rd (s ++ [(0 : Int)]) k + n) = rd (s ++ [(0 : Int)]) k + n := IntWalk.i64_in _ (by omega)
            have hput2 := hput (rd (s ++ [(0 : Int)]) k + n)
            rw [hs3.out] at hput2
            have HP2 := Aside0.mk hput2
            have hkL : (k : Int) < ((s.length + 1 : Nat) : Int) := by omega
            have hk0 : (0 : Int) ≤ (k : Int) := by omega
            have HUs : Aside0 (Up wr (w3.setCell ⟨g3, k, none⟩ (.int .i64 (rd (s ++ [(0 : Int)]) k + n)))) := ⟨HU3.out.set _ _ hbase⟩
            clear hput hput2
            go_wp2_with (first | (go_at_call 96; (with_reducible refine (clip_ _ _ _ _ hcg hmlg).mono ?_); rintro e w' ⟨rfl, hb⟩; have hbA := Aside0.mk hb; obtain ⟨hcA, hfA⟩ := hb.old; have hz := hb.le; (try simp at hz); (try have hz0 : w.heap.size < w'.heap.size := by omega); (try have hzb : w.heap.size + 1 < w'.heap.size := by omega); (try have hzc : w.heap.size + 2 < w'.heap.size := by omega); clear hb) | (at_builtin; refine wpList_append_grows _ rfl _ _ 35 rfl 3 i0 _ 1 8 Try.underlying35 hi hz0 hz1 hz2 rfl (by decide) Ag g.length g.length (nums .i64 g) rfl (fun e => ⟨HAN.out e, HAN.out e⟩) (by simp [nums]) ?hcells ⟨w'.heap.size, 0, none⟩ 1 1 [.int .i64 ((k : Int))] (by first | rfl | go_simp) rfl ?hnews ?hone (by omega) ?b1 ?b2 ?_))
            case hcells =>
              intro ad e j u hu
              exact ((HUs.out.then hbA.out).alloc _).cell (HACr.out ad e j u hu)
            case hnews =>
              intro j u hu
              match j, hu with
              | 0, hu => simp at hu; subst hu; simp [go_sem]
            case hone => intro u hu; simp at hu; subst hu; rfl
            case b1 => unfold maxLen; omega
            case b2 => omega
            intro v1 w1 hown hgrow
            have hU1 : Up (w3.setCell ⟨g3, k, none⟩ (.int .i64 (rd (s ++ [(0 : Int)]) k + n))) w1 := (hbA.out.alloc _).then (ofGrown hgrow)
            have hown2 : w1.ownsRow 0 3 1 v1 (g ++ [(k : Int)]).length (nums .i64 (g ++ [(k : Int)])) := by
              have h9 := own_mono hown (Nat.zero_le _)
              simpa [nums] using h9
            obtain ⟨A1, c1, rfl, _, _⟩ := own_cells hown2
            have hadd := addAt_len s k n
            have hcall := IH.out (g ++ [(k : Int)]) (addAt s k n) (partI n ns g s b k) w1 _ (.slice (some ⟨g3, 0, none⟩) (s.length + 1) c3) (by have h8 := (HUs.out.then hU1).le; have h7 := hW.out.size; omega) (by simpa using HNS.out) (by simp; omega) (by simp; omega) (by have h9 := sumB_addAt HSB.out k (by omega) n hnb (by omega); intro x hx; have := h9 x hx; simp; omega) hown2 (own_up (own_mono HP2.out (Nat.zero_le _)) hU1) (hST.out.up (HUs.out.then hU1))
            rw [show (g ++ [(k : Int)]).length = g.length + 1 by simp] at hcall
            have HU1 := Aside0.mk (HUs.out.then hU1)
            clear hown hgrow hown2 hU1 hadd
            repeat clear hcA hfA
            go_wp2_with fail
            with_reducible refine hcall.mono ?_
            clear hcall
            rintro e w2 ⟨rfl, hw2, hst2⟩
            have HW2 := Aside0.mk ((hW.out.then (Wr.ofUp HU1.out)).then hw2)
            have HS2 := Aside0.mk hst2
            clear hw2 hst2
            go_wp2_with fail
            go_roundw
            case rel => exact ⟨k + 1, by omega, by go_num, HW2, ⟨by rw [partI_succ]; exact HS2.out⟩⟩
            case measure => simp [intOf]; omega
          · have hbk : ((k : Int) == (s.length : Int)) = false := by simp; omega
            have hk3 : k < s.length := by omega
            have hrb : -600000 ≤ rd s k ∧ rd s k ≤ 600000 := by have := sumB_rd HSB.out k hk3; omega
            have hs3 : Aside0 (s.set k (rd s k + n) = addAt s k n) := ⟨by simp [addAt, hks]⟩
            have hL : Aside0 (s.length = s.length) := ⟨rfl⟩
            clear hks
            go_wp2_with fail
            with_reducible refine hclone.mono ?_
            clear hclone
            rintro e w3 ⟨v3, rfl, ho, hbc⟩
            have HO3 := Aside0.mk ho
            have HU3 : Aside0 (Up wr w3) := ⟨hbc⟩
            clear ho hbc
            obtain ⟨g3, c3, hv3, hbase, hlt3, hc3, hf3, _, hput⟩ := own_put HO3.out k hk3
            rw [show (s).length = s.length by simp] at hv3
            subst hv3
            have hwr1 : IntKind.i64.wrap (rd (s) k + n) = rd (s) k + n := IntWalk.i64_in _ (by omega)
            have hput2 := hput (rd (s) k + n)
            rw [hs3.out] at hput2
            have HP2 := Aside0.mk hput2
            have hkL : (k : Int) < ((s.length : Nat) : Int) := by omega
            have hk0 : (0 : Int) ≤ (k : Int) := by omega
            have HUs : Aside0 (Up wr (w3.setCell ⟨g3, k, none⟩ (.int .i64 (rd (s) k + n)))) := ⟨HU3.out.set _ _ hbase⟩
            clear hput hput2
            go_wp2_with (first | (go_at_call 96; (with_reducible refine (clip_ _ _ _ _ hcg hmlg).mono ?_); rintro e w' ⟨rfl, hb⟩; have hbA := Aside0.mk hb; obtain ⟨hcA, hfA⟩ := hb.old; have hz := hb.le; (try simp at hz); (try have hz0 : w.heap.size < w'.heap.size := by omega); (try have hzb : w.heap.size + 1 < w'.heap.size := by omega); (try have hzc : w.heap.size + 2 < w'.heap.size := by omega); clear hb) | (at_builtin; refine wpList_append_grows _ rfl _ _ 35 rfl 3 i0 _ 1 8 Try.underlying35 hi hz0 hz1 hz2 rfl (by decide) Ag g.length g.length (nums .i64 g) rfl (fun e => ⟨HAN.out e, HAN.out e⟩) (by simp [nums]) ?hcells ⟨w'.heap.size, 0, none⟩ 1 1 [.int .i64 ((k : Int))] (by first | rfl | go_simp) rfl ?hnews ?hone (by omega) ?b1 ?b2 ?_))
            case hcells =>
              intro ad e j u hu
              exact ((HUs.out.then hbA.out).alloc _).cell (HACr.out ad e j u hu)
            case hnews =>
              intro j u hu
              match j, hu with
              | 0, hu => simp at hu; subst hu; simp [go_sem]
            case hone => intro u hu; simp at hu; subst hu; rfl
            case b1 => unfold maxLen; omega
            case b2 => omega
            intro v1 w1 hown hgrow
            have hU1 : Up (w3.setCell ⟨g3, k, none⟩ (.int .i64 (rd (s) k + n))) w1 := (hbA.out.alloc _).then (ofGrown hgrow)
            have hown2 : w1.ownsRow 0 3 1 v1 (g ++ [(k : Int)]).length (nums .i64 (g ++ [(k : Int)])) := by
              have h9 := own_mono hown (Nat.zero_le _)
              simpa [nums] using h9
            obtain ⟨A1, c1, rfl, _, _⟩ := own_cells hown2
            have hadd := addAt_len s k n
            have hcall := IH.out (g ++ [(k : Int)]) (addAt s k n) (partI n ns g s b k) w1 _ (.slice (some ⟨g3, 0, none⟩) (s.length) c3) (by have h8 := (HUs.out.then hU1).le; have h7 := hW.out.size; omega) (by simpa using HNS.out) (by simp; omega) (by simp; omega) (by have h9 := sumB_addAt HSB.out k (by omega) n hnb (by omega); intro x hx; have := h9 x hx; simp; omega) hown2 (own_up (own_mono HP2.out (Nat.zero_le _)) hU1) (hST.out.up (HUs.out.then hU1))
            rw [show (g ++ [(k : Int)]).length = g.length + 1 by simp] at hcall
            have HU1 := Aside0.mk (HUs.out.then hU1)
            clear hown hgrow hown2 hU1 hadd
            repeat clear hcA hfA
            go_wp2_with fail
            with_reducible refine hcall.mono ?_
            clear hcall
            rintro e w2 ⟨rfl, hw2, hst2⟩
            have HW2 := Aside0.mk ((hW.out.then (Wr.ofUp HU1.out)).then hw2)
            have HS2 := Aside0.mk hst2
            clear hw2 hst2
            go_wp2_with fail
            go_roundw
            case rel => exact ⟨k + 1, by omega, by go_num, HW2, ⟨by rw [partI_succ]; exact HS2.out⟩⟩
            case measure => simp [intOf]; omega
        · obtain rfl : k = s.length + 1 := by omega
          have hdl : decide (((s.length + 1 : Nat) : Int) < (s.length : Int) + 1) = false := by simp
          have hdl2 : decide ((s.length : Int) + 1 < (s.length : Int) + 1) = false := by simp
          go_wp2_with fail
          go_end0
          exact ⟨rfl, hW.out, by rw [HP.out]; exact hST.out⟩
def some_ (a : Acc) : Int := ((accL a).filter (fun n => n != 0)).length
def bestA (a : Acc) : Bst := partL (accL a) [] [] ⟨[], -1⟩
def settleE (b : List Int) : Int := if balB b then (if (accL (balA b)).sum = 0 then 0 else 9) else 4
def settleN (b : List Int) : Int := if settleE b = 0 then some_ (balA b) - (bestA (balA b)).m else 0
def settleG (b : List Int) : List Int := if settleE b = 0 then (bestA (balA b)).b else []
theorem balA_bd (b : List Int) (h : balB b = true) : AccB 100000 (balA b) := by
  unfold balB at h
  rw [Bool.and_eq_true, decide_eq_true_eq, inB_iff] at h
  obtain ⟨h6, h7⟩ := h
  have hk : ∀ k : Nat, k < 6 → -100000 ≤ rd b k ∧ rd b k ≤ 100000 := fun k hk => by
    have : rd b k = b[k]'(by omega) := by simp [rd, show k < b.length by omega]
    rw [this]
    exact h7 _ (List.getElem_mem _)
  have hb : balB b = true := by unfold balB; rw [Bool.and_eq_true, decide_eq_true_eq, inB_iff]; exact ⟨h6, h7⟩
  unfold balA
  rw [if_pos hb]
  exact ⟨hk 0 (by omega), hk 1 (by omega), hk 2 (by omega), hk 3 (by omega), hk 4 (by omega), hk 5 (by omega)⟩
theorem index_acc (a : Acc) (k : Nat) (h : k < 6) (w : World) : (Instr.index 135 (.agg #[.int .i64 (a).a0, .int .i64 (a).a1, .int .i64 (a).a2, .int .i64 (a).a3, .int .i64 (a).a4, .int .i64 (a).a5]) (.int .i64 (k : Int))).run Try.prog w = .ok (.int .i64 (a.get k)) w := by
  obtain rfl | rfl | rfl | rfl | rfl | rfl : k = 0 ∨ k = 1 ∨ k = 2 ∨ k = 3 ∨ k = 4 ∨ k = 5 := by omega
  all_goals kernel_rfl
def sumTo (a : Acc) (k : Nat) : Int := ((accL a).take k).sum
def someTo (a : Acc) (k : Nat) : Int := (((accL a).take k).filter (fun n => n != 0)).length
theorem sumTo_succ (a : Acc) (k : Nat) (h : k < 6) : sumTo a (k + 1) = sumTo a k + a.get k ∧ someTo a (k + 1) = someTo a k + (if a.get k = 0 then 0 else 1) := by
  have hl : (accL a).length = 6 := rfl
  have e : (accL a)[k]'(by omega) = a.get k := by
    obtain rfl | rfl | rfl | rfl | rfl | rfl : k = 0 ∨ k = 1 ∨ k = 2 ∨ k = 3 ∨ k = 4 ∨ k = 5 := by omega
    all_goals rfl
  unfold sumTo someTo
  rw [List.take_succ_eq_append_getElem (by omega), e]
  refine ⟨by simp, ?_⟩
  rw [List.filter_append, List.length_append]
  by_cases h0 : a.get k = 0
  · simp [h0]
  · simp [h0]
theorem sumTo_bd (a : Acc) (h : AccB 100000 a) : ∀ k : Nat, k ≤ 6 → (-100000 * (k : Int) ≤ sumTo a k ∧ sumTo a k ≤ 100000 * (k : Int)) ∧ 0 ≤ someTo a k ∧ someTo a k ≤ k
  | 0, _ => by simp [sumTo, someTo]
  | k + 1, hk => by
    have h1 := sumTo_bd a h k (by omega)
    have h2 := sumTo_succ a k (by omega)
    have h3 := h.get (by omega) k
    rw [h2.1, h2.2]
    split <;> omega
set_option maxRecDepth 100000 in
set_option maxHeartbeats 2000000 in
theorem settle_ (A : Option Addr) (c : Nat) (l : List Int) (w : World) (hr : Kd.C (Kd.int .i64) w A l.length l) (hc : l.length ≤ c) :
    Calls Try.prog 42 #[.slice A l.length c] w fun e w' => ∃ v, e = .returned (.tuple #[.int .i64 (settleN l), v, .int .i64 (settleE l)]) ∧ w'.ownsRow w.heap.size 3 1 v (settleG l).length (nums .i64 (settleG l)) ∧ Up w w' := by
  have hm := CF_len hr
  have HR := Aside0.mk hr
  clear hr
  cases hb : balB l
  · have hE : settleE l = 4 := by simp [settleE, hb]
    have hN : settleN l = 0 := by simp [settleN, hE]
    have hG : settleG l = [] := by simp [settleG, hE]
    have HB := Aside0.mk hb
    rw [hE, hN, hG]
    clear hE hN hG hb
    go_enter Try.func42, Try.ntmps42
    go_wp2_with (first | (go_at_call 73; (with_reducible refine ((HB.out ▸ bal_ _ _ l _ (C_up HR.out upA) hc)).mono ?_); rintro e w' ⟨rfl, hb⟩; have hbA := Aside0.mk hb; obtain ⟨hcA, hfA⟩ := hb.old; have hz := hb.le; (try simp at hz); (try have hz0 : w.heap.size < w'.heap.size := by omega); (try have hzb : w.heap.size + 1 < w'.heap.size := by omega); (try have hzc : w.heap.size + 2 < w'.heap.size := by omega); clear hb))
    go_ret3
    exact ⟨.slice none 0 0, rfl, ⟨rfl, .inl ⟨rfl, rfl⟩⟩, upA⟩
  · have hbd := balA_bd l hb
    have HBD := Aside0.mk hbd
    have HB := Aside0.mk hb
    clear hb hbd
    obtain ⟨a, ha⟩ : ∃ a, a = balA l := ⟨_, rfl⟩
    rw [← ha] at HBD
    have HA := Aside0.mk ha
    clear ha
    go_enter Try.func42, Try.ntmps42
    go_wp2_with (first | (go_at_call 73; (with_reducible refine ((HB.out ▸ HA.out ▸ bal_ _ _ l _ (C_up HR.out upA) hc)).mono ?_); rintro e w' ⟨rfl, hb⟩; have hbA := Aside0.mk hb; obtain ⟨hcA, hfA⟩ := hb.old; have hz := hb.le; (try simp at hz); (try have hz0 : w.heap.size < w'.heap.size := by omega); (try have hzb : w.heap.size + 1 < w'.heap.size := by omega); (try have hzc : w.heap.size + 2 < w'.heap.size := by omega); clear hb))
    have HU : Aside0 (Up w w') := ⟨upA⟩
    repeat clear hcA hfA
    go_loop [7, 8, 20] (fun v7 v8 i => ∃ (k : Nat), k ≤ 6 ∧ i = .int .i64 k ∧ v7 = .int .i64 (sumTo a k) ∧ v8 = .int .i64 (someTo a k)) (fun _ _ i => 6 - (intOf i).toNat)
    case atStart => exact ⟨0, by omega, rfl, rfl, rfl⟩
    case round =>
      obtain ⟨k, hk, rfl, rfl, rfl⟩ := hrel
      by_cases hlt : k < 6
      · have hsu := sumTo_succ a k hlt
        have hsb := sumTo_bd a HBD.out k hk
        have hgb := HBD.out.get (by omega) k
        have HS := Aside0.mk hsu
        have hlk : (k : Int) < 6 := by omega
        have hk0 : (0 : Int) ≤ k := by omega
        have hd : decide ((k : Int) < 6) = true := by simp; omega
        have hix : ∀ w : World, (Instr.index 135 (.agg #[.int .i64 (a).a0, .int .i64 (a).a1, .int .i64 (a).a2, .int .i64 (a).a3, .int .i64 (a).a4, .int .i64 (a).a5]) (.int .i64 (k : Int))).run Try.prog w = .ok (.int .i64 (a.get k)) w := index_acc a k hlt
        clear hsu
        generalize sumTo a k = S at *
        generalize someTo a k = M at *
        by_cases hz : a.get k = 0
        · have hzb : (a.get k != 0) = false := by simp [hz]
          have HZ := Aside0.mk hz
          clear hz
          go_wp2_with fail
          go_round
          case rel => exact ⟨k + 1, by omega, by go_num, by rw [HS.out.1], by rw [HS.out.2, if_pos HZ.out]; simp⟩
          case measure => simp [intOf]; omega
        · have hzb : (a.get k != 0) = true := by simp [hz]
          have HZ := Aside0.mk hz
          clear hz
          go_wp2_with fail
          go_round
          case rel => exact ⟨k + 1, by omega, by go_num, by rw [HS.out.1], by rw [HS.out.2, if_neg HZ.out]⟩
          case measure => simp [intOf]; omega
      · obtain rfl : k = 6 := by omega
        have hS6 : sumTo a 6 = (accL a).sum := rfl
        have hM6 : someTo a 6 = some_ a := rfl
        have hMb := (sumTo_bd a HBD.out 6 (by omega)).2
        rw [hS6, hM6]
        rw [hM6] at hMb
        by_cases hs0 : (accL a).sum = 0
        · have hsb : ((accL a).sum != 0) = false := by simp [hs0]
          have hE : settleE l = 0 := by simp [settleE, HB.out, ← HA.out, hs0]
          have hN : settleN l = some_ a - (bestA a).m := by simp [settleN, hE, ← HA.out]
          have hG : settleG l = (bestA a).b := by simp [settleG, hE, ← HA.out]
          have HN := Aside0.mk hN
          have HG := Aside0.mk hG
          have HE := Aside0.mk hE
          have hpm := partL_m (accL a) [] [] ⟨[], -1⟩ (by simp [accL]) (by simp) (by simp)
          have hpb : -1 ≤ (bestA a).m ∧ (bestA a).m ≤ 100 := hpm
          have hst : StB w.heap.size ((w'.alloc (.cells #[.int .i64 (a).a0, .int .i64 (a).a1, .int .i64 (a).a2, .int .i64 (a).a3, .int .i64 (a).a4, .int .i64 (a).a5] 135)).alloc (.cells #[.int .i64 a.a0, .int .i64 a.a1, .int .i64 a.a2, .int .i64 a.a3, .int .i64 a.a4, .int .i64 a.a5, .slice none 0 0, .int .i64 (-1)] 153)) (w'.heap.size + 1) a ⟨[], -1⟩ := by
            refine ⟨.slice none 0 0, ?_, ⟨rfl, .inl ⟨rfl, rfl⟩⟩, by simp, by simp⟩
            have h9 := Bx.new (w'.alloc (.cells #[.int .i64 (a).a0, .int .i64 (a).a1, .int .i64 (a).a2, .int .i64 (a).a3, .int .i64 (a).a4, .int .i64 (a).a5] 135)) #[.int .i64 a.a0, .int .i64 a.a1, .int .i64 a.a2, .int .i64 a.a3, .int .i64 a.a4, .int .i64 a.a5, .slice none 0 0, .int .i64 (-1)] 153
            simpa using h9
          have hcall := part_ a HBD.out (w'.heap.size + 1) w.heap.size (accL a) [] [] ⟨[], -1⟩ _ (.slice none 0 0) (.slice none 0 0) (by have := HU.out.le; simp; omega) rfl (by simp) (by simp) (fun x hx => by simp at hx) ⟨rfl, .inl ⟨rfl, rfl⟩⟩ ⟨rfl, .inl ⟨rfl, rfl⟩⟩ hst
          have hw := HU.out.le
          clear hs0 hE hN hG hpm hst
          go_wp2_with fail
          with_reducible refine hcall.mono ?_
          clear hcall
          rintro e w2 ⟨rfl, hw2, vb, hB, hvb, _, _⟩
          have hUw : Up w w2 := hw2.up (by omega) ((HU.out.alloc _).alloc _)
          have hq := hB.cell
          have HVB := Aside0.mk hvb
          have HUW := Aside0.mk hUw
          clear hw2 hB hvb hUw
          go_wp2_with fail
          go_quiet (fail)
          go_wp2_with fail
          go_ret3
          exact ⟨vb, by simp [HN.out, HE.out, bestA], by rw [HG.out]; exact own_up HVB.out ((Up.refl _).drewN _), HUW.out.drewN _⟩
        · have hsb : ((accL a).sum != 0) = true := by simp [hs0]
          have hE : settleE l = 9 := by simp [settleE, HB.out, ← HA.out, hs0]
          have hN : settleN l = 0 := by simp [settleN, hE]
          have hG : settleG l = [] := by simp [settleG, hE]
          have HN := Aside0.mk hN
          have HG := Aside0.mk hG
          have HE := Aside0.mk hE
          clear hs0 hE hN hG
          go_wp2_with fail
          go_ret3
          exact ⟨.slice none 0 0, by simp [HN.out, HE.out], by rw [HG.out]; exact ⟨rfl, .inl ⟨rfl, rfl⟩⟩, upA⟩
end Go.Proofs.Ytdlekcdedahbhaa
namespace Go.Proofs.Ytdlekcdedahbhaa
open Go.RowKit Go.Shelf Go.Proofs.YtdlekcdedahbhaaW.PrintWords
set_option linter.unusedVariables false
set_option linter.unusedSimpArgs false
theorem eq_due (d : Nat) (w : World) (a b x y : Int) : (Op.equalIn (d + 2) 58 (.agg #[.int .i64 a, .int .i64 b]) (.agg #[.int .i64 x, .int .i64 y])).run Try.prog w = .ok (a == x && b == y) w := by
  refine eqA_of Try.underlying58 (by kernel_rfl) ?_
  refine eqf_cons (by rfl) (by go_simp; rfl) (by go_simp; rfl) (by go_simp) ?_
  exact eqf_last (by rfl) (by go_simp; rfl) (by go_simp; rfl) (by go_simp)
def keyV (a b : Int) : Value := .agg #[.int .i64 a, .int .i64 b]
open Classical in
noncomputable def findL (a b : Int) : List MapEntry → Nat → Option (Nat × Value)
  | [], _ => none
  | e :: es, i => if e.key = keyV a b then some (i, e.val) else findL a b es (i + 1)
def AllF (f : Int → Int → Int) (es : List MapEntry) : Prop := ∀ e ∈ es, ∃ a b, e.key = keyV a b ∧ e.val = .int .i64 (f a b)
theorem keyV_inj {a b x y : Int} (h : keyV a b = keyV x y) : a = x ∧ b = y := by
  simp only [keyV, Value.agg.injEq] at h
  simpa using h
theorem findAsking_run (f : Int → Int → Int) (a b : Int) (w : World) : ∀ (es : List MapEntry) (i : Nat), AllF f es → (Instr.findAsking 58 (keyV a b) es i).run Try.prog w = .ok (findL a b es i) w
  | [], i, _ => rfl
  | e :: es, i, h => by
    obtain ⟨x, y, hk, hv⟩ := h e (List.mem_cons_self ..)
    have ih := findAsking_run f a b w es (i + 1) (fun e' he' => h e' (List.mem_cons_of_mem _ he'))
    have he : (Op.equal 58 (keyV a b) e.key).run Try.prog w = .ok (a == x && b == y) w := by
      rw [hk]
      exact eq_due 9998 w a b x y
    have hd : (e.key = keyV a b) ↔ (a == x && b == y) = true := by
      rw [hk]
      constructor
      · intro h; obtain ⟨rfl, rfl⟩ := keyV_inj h; simp
      · intro h; simp at h; rw [h.1, h.2]
    simp only [Instr.findAsking, findL]
    cases hc : (a == x && b == y)
    · rw [hc] at he
      rw [if_neg (by rw [hd, hc]; simp)]
      simp [go_sem, he, ih]
    · rw [hc] at he
      rw [if_pos (hd.2 hc)]
      simp [go_sem, he]
theorem findKey_run (f : Int → Int → Int) (a b : Int) (w : World) (es : List MapEntry) (h : AllF f es) : (Instr.findKey 58 (keyV a b) es).run Try.prog w = .ok (findL a b es 0) w := by
  have hn : ∀ es i, Instr.findNow (.struct #[]) (keyV a b) es i = if es = [] then some none else none := by
    intro es i
    cases es <;> simp [Instr.findNow, Instr.sameNow, keyV]
  have hu := Try.underlying58
  cases es with
  | nil => simp [Instr.findKey, go_sem, run_underlying hu, Instr.findNow, findL]
  | cons e es =>
    simp [Instr.findKey, go_sem, run_underlying hu, Instr.findNow, Instr.sameNow, keyV]
    exact findAsking_run f a b w (e :: es) 0 h
theorem findL_spec (f : Int → Int → Int) (a b : Int) : ∀ (es : List MapEntry) (i : Nat), AllF f es → findL a b es i = none ∨ ∃ j e, findL a b es i = some (i + j, .int .i64 (f a b)) ∧ es[j]? = some e ∧ e.key = keyV a b
  | [], i, _ => .inl rfl
  | e :: es, i, h => by
    obtain ⟨x, y, hk, hv⟩ := h e (List.mem_cons_self ..)
    by_cases hc : e.key = keyV a b
    · refine .inr ⟨0, e, ?_, rfl, hc⟩
      rw [hk] at hc
      obtain ⟨rfl, rfl⟩ := keyV_inj hc
      simp [findL, hk, hv]
    · rcases findL_spec f a b es (i + 1) (fun e' he' => h e' (List.mem_cons_of_mem _ he')) with h1 | ⟨j, e1, h1, h2, h3⟩
      · exact .inl (by simp [findL, hc, h1])
      · exact .inr ⟨j + 1, e1, by simp [findL, hc, h1]; omega, by simpa using h2, h3⟩
theorem checkKey_due2 (em : Bool) (n : Nat) (a b : Int) (w : World) : (Instr.checkKey em (n + 2) 58 (keyV a b)).run Try.prog w = .ok () w := by
  have hu := Try.underlying58
  have hi := Try.underlying3
  have h1 : ∀ (x : Int), (Instr.checkKey em (n + 1) 3 (.int .i64 x)).run Try.prog w = .ok () w := fun x => by simp [Instr.checkKey, go_sem, run_underlying hi]
  have h2 : ∀ (w : World) (x y : Int), (part 3 #[.int .i64 x, .int .i64 y] 0).run Try.prog w = .ok (.int .i64 x) w := fun w x y => by go_simp
  have h3 : ∀ (w : World) (x y : Int), (part 3 #[.int .i64 x, .int .i64 y] 1).run Try.prog w = .ok (.int .i64 y) w := fun w x y => by go_simp
  rw [Instr.checkKey]
  simp [go_sem, run_underlying hu, keyV, h1, h2, h3]
theorem checkKey_due (em : Bool) (a b : Int) (w : World) : (Instr.checkKey em 10000 58 (keyV a b)).run Try.prog w = .ok () w := checkKey_due2 em 9998 a b w
def MC (f : Int → Int → Int) (w : World) (r : Nat) : Prop := ∃ es clock, w.heap[r]? = some (.map es clock) ∧ AllF f es.toList ∧ (∀ a b, (∀ e ∈ es.toList, e.key ≠ keyV a b) → f a b = 0) ∧ (∀ e ∈ es.toList, e.born < clock) ∧ (es.toList.map (·.born)).Nodup ∧ (es.toList.map (·.key)).Nodup
theorem MC.lt {f w r} (h : MC f w r) : r < w.heap.size := by
  obtain ⟨es, clock, h1, _⟩ := h
  exact (Array.getElem?_eq_some_iff.1 h1).1
theorem MC.up {f w r w'} (h : MC f w r) (hu : Up w w') : MC f w' r := by
  have hl := h.lt
  obtain ⟨es, clock, h1, h2⟩ := h
  exact ⟨es, clock, (hu.block r hl).trans h1, h2⟩
theorem MC.new (w : World) : MC (fun _ _ => 0) (w.alloc (.map #[] 0)) w.heap.size :=
  ⟨#[], 0, World.alloc_heap_new w _, fun e he => by simp at he, fun _ _ _ => rfl, fun e he => by simp at he, by simp, by simp⟩
theorem findL_none (a b : Int) : ∀ (es : List MapEntry) (i : Nat), findL a b es i = none → ∀ e ∈ es, e.key ≠ keyV a b
  | [], _, _, e, he => by simp at he
  | x :: es, i, h, e, he => by
    simp only [findL] at h
    split at h
    · cases h
    · rename_i hne
      rcases List.mem_cons.1 he with rfl | he
      · exact hne
      · exact findL_none a b es (i + 1) h e he
theorem mc_lookup (f : Int → Int → Int) (a b : Int) (w : World) (r : Nat) (h : MC f w r) :
    (Instr.lookup 139 (.map (some r)) (keyV a b) false).run Try.prog w = .ok (.int .i64 (f a b)) w := by
  obtain ⟨es, clock, h1, h2, h3, _⟩ := h
  have hu := Try.underlying139
  have hz : ∀ w, (zeroValue 3).run Try.prog w = .ok (.int .i64 0) w := by intro w; kernel_rfl
  have hg : ∀ w : World, w.heap[r]? = some (.map es clock) → (getObj r).run Try.prog w = .ok (.map es clock) w := fun w h => run_getObj_map w r es clock h
  rcases findL_spec f a b es.toList 0 h2 with h4 | ⟨j, e, h4, h5, h6⟩
  · have h0 := h3 a b (findL_none a b _ _ h4)
    simp [Instr.lookup, go_sem, run_underlying hu, hg w h1, checkKey_due, findKey_run f a b w _ h2, h4, hz, h0]
  · simp [Instr.lookup, go_sem, run_underlying hu, hg w h1, checkKey_due, findKey_run f a b w _ h2, h4, hz]
def updF (f : Int → Int → Int) (a b v : Int) : Int → Int → Int := fun x y => if x = a ∧ y = b then v else f x y
theorem mc_entry (f : Int → Int → Int) (a b : Int) (w : World) (r : Nat) (h : MC f w r) :
    ∃ (w1 : World) (st : Int), (Instr.mapEntry 139 (.map (some r)) (keyV a b)).run Try.prog w = .ok (.tuple #[.int .i64 (f a b), .int .i64 st]) w1 ∧ MC f w1 r ∧ Wr r w w1 ∧ w1.heap.size = w.heap.size ∧
      ∀ v : Int, ∃ w2, (Instr.entryStore 139 (.map (some r)) (.int .i64 st) (.int .i64 v)).run Try.prog w1 = .ok () w2 ∧ MC (updF f a b v) w2 r ∧ Wr r w1 w2 ∧ w2.heap.size = w1.heap.size := by
  obtain ⟨es, clock, h1, h2, h3, h4, h5, h6⟩ := h
  have hu := Try.underlying139
  have hz : ∀ w, (zeroValue 3).run Try.prog w = .ok (.int .i64 0) w := by intro w; kernel_rfl
  have hlt := (Array.getElem?_eq_some_iff.1 h1).1
  have hset : ∀ (W : World) (es0 : Array MapEntry) (c0 : Nat), W.heap[r]? = some (.map es0 c0) → ∀ es' cl', (setObj r (.map es' cl')).run Try.prog W = .ok () { W with heap := W.heap.setIfInBounds r (.map es' cl') } ∧ ({ W with heap := W.heap.setIfInBounds r (.map es' cl') } : World).heap[r]? = some (.map es' cl') ∧ Wr r W { W with heap := W.heap.setIfInBounds r (.map es' cl') } ∧ (W.heap.setIfInBounds r (.map es' cl')).size = W.heap.size := by
    intro W es0 c0 hW es' cl'
    have hl := (Array.getElem?_eq_some_iff.1 hW).1
    refine ⟨by simp [setObj, Sem.run, hW], by simp [Array.getElem?_setIfInBounds, hl], ⟨rfl, rfl, rfl, by simp, fun k hk => ?_⟩, by simp⟩
    simp [Array.getElem?_setIfInBounds, Ne.symm hk.2]
  -- the second half: the store at an entry that is there
  have hstore : ∀ (W : World) (es0 : Array MapEntry) (c0 i : Nat) (e0 : MapEntry), W.heap[r]? = some (.map es0 c0) → AllF f es0.toList → (∀ a b, (∀ e ∈ es0.toList, e.key ≠ keyV a b) → f a b = 0) → (∀ e ∈ es0.toList, e.born < c0) → (es0.toList.map (·.born)).Nodup → (es0.toList.map (·.key)).Nodup → es0.toList[i]? = some e0 → e0.key = keyV a b →
      ∀ v : Int, ∃ w2, (Instr.entryStore 139 (.map (some r)) (.int .i64 (e0.born : Int)) (.int .i64 v)).run Try.prog W = .ok () w2 ∧ MC (updF f a b v) w2 r ∧ Wr r W w2 ∧ w2.heap.size = W.heap.size := by
    intro W es0 c0 i e0 g1 g2 g3 g4 g5 g6 g7 g8 v
    obtain ⟨k1, k2, k3, k4⟩ := hset W es0 c0 g1 (es0.modify i fun e => { e with val := .int .i64 v }) c0
    have hidx : es0.findIdx? (fun e => ((e.born : Nat) : Int) == ((e0.born : Nat) : Int)) = some i := by
      rw [WideElems.findIdx_arr]
      exact WideElems.findIdx_born g5 g7
    have hml : (es0.modify i fun e => { e with val := .int .i64 v }).toList = es0.toList.set i { e0 with val := .int .i64 v } := by
      apply List.ext_getElem?
      intro j
      rw [Array.getElem?_toList, Array.getElem?_modify, List.getElem?_set]
      have hil := (List.getElem?_eq_some_iff.1 g7).1
      by_cases e : i = j
      · subst e
        rw [Array.getElem?_toList] at g7
        simp [g7]
        simpa using hil
      · simp [e]
    have hb : (es0.toList.set i { e0 with val := Value.int .i64 v }).map (·.born) = es0.toList.map (·.born) := by
      rw [List.map_set]
      refine WideElems.set_self _ i _ ?_
      simp [g7]
    have hk : (es0.toList.set i { e0 with val := Value.int .i64 v }).map (·.key) = es0.toList.map (·.key) := by
      rw [List.map_set]
      refine WideElems.set_self _ i _ ?_
      simp [g7]
    refine ⟨_, ?_, ⟨_, c0, k2, ?_, ?_, ?_, ?_, ?_⟩, k3, k4⟩
    · simp [Instr.entryStore, go_sem, run_getObj_map W r es0 c0 g1, hidx, k1]
    · rw [hml]
      intro e he
      obtain ⟨j, hj⟩ := List.getElem?_of_mem he
      rw [List.getElem?_set] at hj
      by_cases hij : i = j
      · subst hij
        rw [if_pos rfl] at hj
        split at hj
        · simp at hj
          subst hj
          exact ⟨a, b, g8, by simp [updF]⟩
        · cases hj
      · rw [if_neg hij] at hj
        obtain ⟨x, y, hx, hy⟩ := g2 e (List.mem_of_getElem? hj)
        refine ⟨x, y, hx, ?_⟩
        have hne : ¬ (x = a ∧ y = b) := by
          rintro ⟨rfl, rfl⟩
          have q1 : (es0.toList.map (·.key))[i]? = some (keyV x y) := by simp [g7, g8]
          have q2 : (es0.toList.map (·.key))[j]? = some (keyV x y) := by simp [hj, hx]
          exact hij ((List.getElem?_inj (List.getElem?_eq_some_iff.1 q1).1 g6).1 (q1.trans q2.symm))
        rw [hy]
        simp [updF, hne]
    · rw [hml]
      intro x y hxy
      have hne : ¬ (x = a ∧ y = b) := by
        rintro ⟨rfl, rfl⟩
        have hil := (List.getElem?_eq_some_iff.1 g7).1
        refine hxy { e0 with val := .int .i64 v } (List.mem_of_getElem? (i := i) ?_) g8
        rw [List.getElem?_set, if_pos rfl, if_pos hil]
      rw [updF, if_neg hne]
      refine g3 x y fun e he hke => ?_
      obtain ⟨j, hj⟩ := List.getElem?_of_mem he
      by_cases hij : i = j
      · subst hij
        rw [g7] at hj
        cases hj
        exact hne (keyV_inj (hke.symm.trans g8))
      · refine hxy e (List.mem_of_getElem? (i := j) ?_) hke
        rw [List.getElem?_set, if_neg hij, hj]
    · rw [hml]
      intro e he
      obtain ⟨j, hj⟩ := List.getElem?_of_mem he
      rw [List.getElem?_set] at hj
      by_cases hij : i = j
      · subst hij
        rw [if_pos rfl] at hj
        split at hj
        · simp at hj
          subst hj
          exact g4 e0 (List.mem_of_getElem? g7)
        · cases hj
      · rw [if_neg hij] at hj
        exact g4 e (List.mem_of_getElem? hj)
    · rw [hml, hb]; exact g5
    · rw [hml, hk]; exact g6
  rcases findL_spec f a b es.toList 0 h2 with h7 | ⟨j, e, h7, h8, h9⟩
  · have h0 := h3 a b (findL_none a b _ _ h7)
    obtain ⟨k1, k2, k3, k4⟩ := hset w es clock h1 (es.push { key := keyV a b, val := .int .i64 0, born := clock }) (clock + 1)
    have m2 : AllF f (es.push { key := keyV a b, val := .int .i64 0, born := clock }).toList := by
      intro e he
      simp at he
      rcases he with he | rfl
      · exact h2 e (by simpa using he)
      · exact ⟨a, b, rfl, by simp [h0]⟩
    have m3 : ∀ x y, (∀ e ∈ (es.push { key := keyV a b, val := .int .i64 0, born := clock }).toList, e.key ≠ keyV x y) → f x y = 0 := fun x y hxy => h3 x y fun e he => hxy e (by simp; exact .inl (by simpa using he))
    have m4 : ∀ e ∈ (es.push { key := keyV a b, val := Value.int .i64 0, born := clock }).toList, e.born < clock + 1 := by
      intro e he
      simp at he
      rcases he with he | rfl
      · have := h4 e (by simpa using he); omega
      · simp
    have m5 : ((es.push { key := keyV a b, val := Value.int .i64 0, born := clock }).toList.map (·.born)).Nodup := by
      simp only [Array.toList_push, List.map_append, List.map_cons, List.map_nil]
      refine List.nodup_append.2 ⟨h5, by simp, fun x hx y hy e => ?_⟩
      simp at hy
      obtain ⟨e1, he1, rfl⟩ := List.mem_map.1 hx
      have := h4 e1 he1
      omega
    have m6 : ((es.push { key := keyV a b, val := Value.int .i64 0, born := clock }).toList.map (·.key)).Nodup := by
      simp only [Array.toList_push, List.map_append, List.map_cons, List.map_nil]
      refine List.nodup_append.2 ⟨h6, by simp, fun x hx y hy e => ?_⟩
      simp at hy
      obtain ⟨e1, he1, rfl⟩ := List.mem_map.1 hx
      exact findL_none a b _ _ h7 e1 he1 (e.trans hy)
    refine ⟨_, (clock : Int), ?_, ⟨_, _, k2, m2, m3, m4, m5, m6⟩, k3, k4, fun v => hstore _ _ _ es.size { key := keyV a b, val := .int .i64 0, born := clock } k2 m2 m3 m4 m5 m6 (by simp) rfl v⟩
    simp [Instr.mapEntry, go_sem, run_underlying hu, run_getObj_map w r es clock h1, checkKey_due, findKey_run f a b w _ h2, h7, hz, k1, h0, goInt]
  · have hes : (es.modify j fun e => { e with key := keyV a b }) = es := by
      apply Array.ext_getElem?
      intro i
      rw [Array.getElem?_modify]
      split
      · rename_i hij
        subst hij
        rw [← Array.getElem?_toList, h8]
        simp [← h9]
      · rfl
    obtain ⟨k1, k2, k3, k4⟩ := hset w es clock h1 es clock
    have hst : ∀ w, (Instr.keyThatStays (keyV a b) (keyV a b)).run Try.prog w = .ok (keyV a b) w := fun w => by
      have : Instr.sameBits 10000 (keyV a b) (keyV a b) = true := by
        show Instr.sameBits (9999 + 1) (keyV a b) (keyV a b) = true
        simp [keyV, Instr.sameBits]
      simp [Instr.keyThatStays, this, go_sem]
    have h8a : es[j]? = some e := by rw [← Array.getElem?_toList]; exact h8
    refine ⟨_, (e.born : Int), ?_, ⟨_, _, k2, h2, h3, h4, h5, h6⟩, k3, k4, fun v => hstore _ _ _ j e k2 h2 h3 h4 h5 h6 h8 h9 v⟩
    simp [Instr.mapEntry, go_sem, run_underlying hu, run_getObj_map w r es clock h1, checkKey_due, findKey_run f a b w _ h2, h7, hz, h8a, h9, hst, hes, k1, goInt]
end Go.Proofs.Ytdlekcdedahbhaa
namespace Go.Proofs.Ytdlekcdedahbhaa
open Go.RowKit Go.Shelf Go.Proofs.YtdlekcdedahbhaaW.PrintWords
set_option linter.unusedVariables false
set_option linter.unusedSimpArgs false
theorem idx_Due_drop (p : Due → Bool) (l : List Due) (k : Nat) (h : k < l.length) : idxF p (l.drop k) k = if p (rdDue l k) then (k:Int) else idxF p (l.drop (k+1)) (k+1) := by
  rw [List.drop_eq_getElem_cons h, idxF]; simp [rdDue, List.getD_eq_getElem?_getD, h]
set_option maxRecDepth 100000 in
theorem index_Due (fv : FuncId) (cap : Array Value) (p : Due → Bool) (A : Option Addr) (c : Nat) (l : List Due) (w : World)
    (hr : Kd.C kDue w A l.length l) (hc : l.length ≤ c)
    (hE : ∀ (args : Array Value) (w : World), (callFunc fv args).run Try.prog w = .ok (.enter fv args) w)
    (hf : ∀ x W, Up w W → Calls Try.prog fv (#[.agg #[.int .i64 x.c, .int .i64 x.a]] ++ cap) W fun e W' => e = .returned (.bool (p x)) ∧ Up W W') :
    Calls Try.prog 89 #[.slice A l.length c, .func (.func fv) #[] cap] w fun e w' => e = .returned (.int .i64 (idxF p l 0)) ∧ Up w w' := by
  have HF := Aside0.mk hf
  have HR := Aside0.mk hr
  have hm := CF_len hr
  clear hf hr
  go_enter Try.func89, Try.ntmps89
  go_wp2
  go_loopw [8] (fun i wr => ∃ k : Nat, k ≤ l.length ∧ i = .int .i64 k ∧ Aside0 (idxF p l 0 = idxF p (l.drop k) k) ∧ Aside0 (Up w wr)) (fun i _ => l.length - (intOf i).toNat)
  case atStart => exact ⟨0, Nat.zero_le _, rfl, ⟨rfl⟩, ⟨Up.refl _⟩⟩
  case round =>
    obtain ⟨k, hk, rfl, he, hb⟩ := hrel
    by_cases hlt : k < l.length
    · obtain ⟨ad, e, hx0, hx1⟩ := at_Due (C_up HR.out hb.out) k (by omega) (by omega)
      cases e
      have hu := Try.underlying58
      simp only [Int.toNat_natCast] at hx0 hx1
      have hcall := HF.out (rdDue l k) _ hb.out
      cases hp : p (rdDue l k)
      all_goals
        rw [hp] at hcall
        have he2 := idx_Due_drop p l k hlt
        rw [hp] at he2
        have he3 := Aside0.mk (he.out.trans he2)
        clear hp he he2
        go_wp2_with fail
        refine hcall.mono ?_
        clear hcall
        rintro e w' ⟨rfl, hb'⟩
        have hb2 := Aside0.mk (hb.out.then hb')
        clear hb' hb
        go_wp2
      · go_roundw
        case rel => exact ⟨k+1, by omega, by go_num, ⟨by simpa using he3.out⟩, hb2⟩
        case measure => simp [intOf]; omega
      · go_ret
        exact ⟨by rw [he3.out]; rfl, hb2.out⟩
    · go_wp2
      go_ret
      exact ⟨by rw [he.out, List.drop_eq_nil_of_le (by omega)]; rfl, hb.out⟩
theorem contains_Due (fv : FuncId) (cap : Array Value) (p : Due → Bool) (A : Option Addr) (c : Nat) (l : List Due) (w : World)
    (hr : Kd.C kDue w A l.length l) (hc : l.length ≤ c)
    (hE : ∀ (args : Array Value) (w : World), (callFunc fv args).run Try.prog w = .ok (.enter fv args) w)
    (hf : ∀ x W, Up w W → Calls Try.prog fv (#[.agg #[.int .i64 x.c, .int .i64 x.a]] ++ cap) W fun e W' => e = .returned (.bool (p x)) ∧ Up W W') :
    Calls Try.prog 72 #[.slice A l.length c, .func (.func fv) #[] cap] w fun e w' => e = .returned (.bool (l.any p)) ∧ Up w w' := by
  have hcall := index_Due fv cap p A c l w hr hc hE hf
  clear hr hf
  have HD : Aside0 (decide (0 ≤ idxF p l 0) = l.any p) := ⟨idxF_any p l⟩
  clear hE
  go_enter Try.func72, Try.ntmps72
  go_wp2_with fail
  refine hcall.mono ?_
  clear hcall
  rintro e w' ⟨rfl, hb'⟩
  have hb2 := Aside0.mk hb'
  clear hb'
  go_wp2
  go_ret
  exact ⟨ret_bool HD.out, hb2.out⟩
def dueB (x : Due) : Bool := inB 1 5 [x.c] && inB 0 100 [x.a]
theorem booked1 (x : Due) (w : World) : Calls Try.prog 71 #[.agg #[.int .i64 x.c, .int .i64 x.a]] w fun e w' => e = .returned (.bool (!dueB x)) ∧ Up w w' := by
  go_enter Try.func71, Try.ntmps71
  go_wp2_with (go_at_call 58; (with_reducible refine (withinL1 _ _ _ _ _ (by simp)).mono ?_); rintro e w' ⟨rfl, hb⟩; have hbA := Aside0.mk hb; obtain ⟨hcA, hfA⟩ := hb.old; have hz := hb.le; (try simp at hz); (try have hz0 : w.heap.size < w'.heap.size := by omega); (try have hzb : w.heap.size + 1 < w'.heap.size := by omega); (try have hzc : w.heap.size + 2 < w'.heap.size := by omega); clear hb)
  all_goals
    go_ret
    exact ⟨ret_bool (by unfold dueB; simp_all), upA⟩
theorem containsDue (A : Option Addr) (c : Nat) (l : List Due) (w : World) (hr : Kd.C kDue w A l.length l) (hc : l.length ≤ c) :
    Calls Try.prog 72 #[.slice A l.length c, .func (.func 71) #[] #[]] w fun e w' => e = .returned (.bool (l.any fun x => !dueB x)) ∧ Up w w' :=
  contains_Due 71 #[] (fun x => !dueB x) _ _ l _ hr hc (by intro a w; kernel_rfl) (by intro x W hb; exact booked1 _ _)
abbrev Cnt := Int → Int → Int
def cntD (ds : List Due) : Cnt := fun a b => ((ds.filter fun d => decide (d.c = a ∧ d.a = b)).length : Int)
theorem cntD_take (ds : List Due) (k : Nat) (h : k < ds.length) : cntD (ds.take (k + 1)) = updF (cntD (ds.take k)) (rdDue ds k).c (rdDue ds k).a (cntD (ds.take k) (rdDue ds k).c (rdDue ds k).a + 1) := by
  have e : ds[k] = rdDue ds k := by simp [rdDue, h]
  funext a b
  unfold cntD updF
  rw [List.take_succ_eq_append_getElem h, e, List.filter_append, List.length_append]
  by_cases hc : (rdDue ds k).c = a ∧ (rdDue ds k).a = b
  · obtain ⟨rfl, rfl⟩ := hc
    simp
  · have hc2 : ¬ (a = (rdDue ds k).c ∧ b = (rdDue ds k).a) := fun h => hc ⟨h.1.symm, h.2.symm⟩
    rw [if_neg hc2]
    simp only [List.filter_cons, List.filter_nil]
    rw [if_neg (by simpa using hc)]
    simp
theorem cntD_bd (ds : List Due) (a b : Int) : 0 ≤ cntD ds a b ∧ cntD ds a b ≤ ds.length := by
  unfold cntD
  have := List.length_filter_le (fun d : Due => decide (d.c = a ∧ d.a = b)) ds
  omega
structure BkS where
  g : Cnt
  x : List Int
def bookStep (o : Cnt) (s : BkS) (i : Nat) (x : Ent) : BkS := if x.t = 0 ∧ s.g x.f x.a < o x.f x.a then ⟨updF s.g x.f x.a (s.g x.f x.a + 1), s.x⟩ else ⟨s.g, s.x ++ [(i : Int)]⟩
def bookTo (o : Cnt) (l : List Ent) : Nat → BkS
  | 0 => ⟨fun _ _ => 0, []⟩
  | k + 1 => bookStep o (bookTo o l k) k (rdEnt l k)
def missStep (s : BkS) (i : Nat) (d : Due) : BkS := ⟨updF s.g d.c d.a (s.g d.c d.a - 1), if s.g d.c d.a - 1 < 0 then s.x ++ [(i : Int)] else s.x⟩
def missTo (g : Cnt) (ds : List Due) : Nat → BkS
  | 0 => ⟨g, []⟩
  | k + 1 => missStep (missTo g ds k) k (rdDue ds k)
theorem bookTo_bd (o : Cnt) (l : List Ent) : ∀ k : Nat, (∀ a b, 0 ≤ (bookTo o l k).g a b ∧ (bookTo o l k).g a b ≤ k) ∧ (bookTo o l k).x.length ≤ k
  | 0 => by simp [bookTo]
  | k + 1 => by
    obtain ⟨h1, h2⟩ := bookTo_bd o l k
    rw [bookTo, bookStep]
    split
    · refine ⟨fun a b => ?_, by simp only; omega⟩
      have h3 := h1 a b
      have h4 := h1 (rdEnt l k).f (rdEnt l k).a
      simp only [updF]
      split <;> omega
    · refine ⟨fun a b => ?_, by simp; omega⟩
      have h3 := h1 a b
      simp only
      omega
theorem missTo_bd (g : Cnt) (m : Nat) (hg : ∀ a b, 0 ≤ g a b ∧ g a b ≤ m) (ds : List Due) : ∀ k : Nat, (∀ a b, -(k : Int) ≤ (missTo g ds k).g a b ∧ (missTo g ds k).g a b ≤ m) ∧ (missTo g ds k).x.length ≤ k
  | 0 => by simpa [missTo] using hg
  | k + 1 => by
    obtain ⟨h1, h2⟩ := missTo_bd g m hg ds k
    rw [missTo, missStep]
    refine ⟨fun a b => ?_, by simp only; split <;> (try simp) <;> omega⟩
    have h3 := h1 a b
    have h4 := h1 (rdDue ds k).c (rdDue ds k).a
    simp only [updF]
    split <;> omega
def bookE (ds : List Due) (l : List Ent) : Int := if readE l = 0 then (if ds.length > 12 then 8 else if ds.any (fun x => !dueB x) then 3 else 0) else readE l
def bookS (ds : List Due) (l : List Ent) : BkS := bookTo (cntD ds) l l.length
def bookX (ds : List Due) (l : List Ent) : List Int := if bookE ds l = 0 then (bookS ds l).x else []
def bookM (ds : List Due) (l : List Ent) : List Int := if bookE ds l = 0 then (missTo (bookS ds l).g ds ds.length).x else []
theorem own_mc {w w' : World} {base e size n : Nat} {v : Value} {xs : List Value} {r : Nat} {f : Cnt} (h : w.ownsRow base e size v n xs) (hB : MC f w r) (hw : Wr r w w') : w'.ownsRow base e size v n xs := by
  rcases h.2 with h0 | ⟨g, cap, cur, hv, hb, hg, h1, h2, h3, h4⟩
  · exact ⟨h.1, .inl h0⟩
  · refine ⟨h.1, .inr ⟨g, cap, cur, hv, hb, ?_, h1, h2, h3, h4⟩⟩
    have hne : g ≠ r := by
      rintro rfl
      obtain ⟨es, cl, h5, _⟩ := hB
      rw [h5] at hg
      cases hg
    exact (hw.block g ⟨(Array.getElem?_eq_some_iff.1 hg).1, hne⟩).trans hg
theorem MC.wr {f w w' r r'} (h : MC f w r) (hne : r ≠ r') (hw : Wr r' w w') : MC f w' r := by
  have hl := h.lt
  obtain ⟨es, clock, h1, h2⟩ := h
  exact ⟨es, clock, (hw.block r ⟨hl, hne⟩).trans h1, h2⟩
theorem MC.below {f w w' r B} (h : MC f w r) (hr : r < B) (hb : Below B w w') : MC f w' r := by
  obtain ⟨es, clock, h1, h2⟩ := h
  exact ⟨es, clock, (hb.block r hr).trans h1, h2⟩
theorem Wr.then2 {r : Nat} {a b c : World} (h : Wr r a b) (k : Below a.heap.size b c) : Wr r a c :=
  ⟨k.os.trans h.os, k.tape.trans h.tape, k.output.trans h.output, Nat.le_trans h.size k.size, fun i hi => (k.block i hi.1).trans (h.block i hi)⟩
set_option maxRecDepth 100000 in
set_option maxHeartbeats 4000000 in
theorem booked_ok (A : Option Addr) (c : Nat) (ds : List Due) (A2 : Option Addr) (c2 : Nat) (l : List Ent) (w : World) (hr : Kd.C kDue w A ds.length ds) (hc : ds.length ≤ c) (hr2 : Kd.C kEnt w A2 l.length l) (hc2 : l.length ≤ c2) (h0 : bookE ds l = 0) :
    Calls Try.prog 33 #[.slice A ds.length c, .slice A2 l.length c2] w fun e w' => ∃ v u, e = .returned (.tuple #[v, u, .int .i64 0]) ∧ w'.ownsRow w.heap.size 3 1 v (missTo (bookS ds l).g ds ds.length).x.length (nums .i64 (missTo (bookS ds l).g ds ds.length).x) ∧ w'.ownsRow w.heap.size 3 1 u (bookS ds l).x.length (nums .i64 (bookS ds l).x) ∧ Up w w' ∧ (∀ k, v.ownBlock = some k → u.ownBlock ≠ some k) := by
  have hm := CF_len hr
  have hm2 := CF_len hr2
  have HR := Aside0.mk hr
  have HR2 := Aside0.mk hr2
  obtain ⟨h1, h2, h3, h4⟩ : readE l = 0 ∧ ds.length ≤ 12 ∧ (ds.any fun x => !dueB x) = false ∧ l.length ≤ 12 := by
    unfold bookE at h0
    by_cases h1 : readE l = 0
    · rw [if_pos h1] at h0
      by_cases h2 : ds.length > 12
      · simp [h2] at h0
      · rw [if_neg h2] at h0
        cases h3 : (ds.any fun x => !dueB x)
        · exact ⟨h1, by omega, rfl, (chk_of l (read_of l h1).1).1⟩
        · rw [h3] at h0; simp at h0
    · rw [if_neg h1] at h0
      exact absurd h0 h1
  have hb1 : (readE l != 0) = false := by simp [h1]
  have H3 := Aside0.mk h3
  have hmm := @run_makeMap Try.prog
  clear hr hr2 h0 h1 h3
  go_enter Try.func33, Try.ntmps33
  go_wp2_with (first | (go_at_call 69; (with_reducible refine (read_ _ _ _ _ (C_up HR2.out upA) hc2).mono ?_); rintro e w' ⟨rfl, hb⟩; have hbA := Aside0.mk hb; obtain ⟨hcA, hfA⟩ := hb.old; have hz := hb.le; (try simp at hz); (try have hz0 : w.heap.size < w'.heap.size := by omega); (try have hzb : w.heap.size + 1 < w'.heap.size := by omega); (try have hzc : w.heap.size + 2 < w'.heap.size := by omega); clear hb) | (go_at_call 72; (with_reducible refine ((H3.out ▸ containsDue _ _ _ _ (C_up HR.out upA) hc)).mono ?_); rintro e w' ⟨rfl, hb⟩; have hbA := Aside0.mk hb; obtain ⟨hcA, hfA⟩ := hb.old; have hz := hb.le; (try simp at hz); (try have hz0 : w.heap.size < w'.heap.size := by omega); (try have hzb : w.heap.size + 1 < w'.heap.size := by omega); (try have hzc : w.heap.size + 2 < w'.heap.size := by omega); clear hb))
  have HW0 : Aside0 (Up w (w'.alloc (.map #[] 0))) := ⟨upA⟩
  have hMC0 := MC.new w'
  obtain ⟨r1, hr1⟩ : ∃ r1, w'.heap.size = r1 := ⟨_, rfl⟩
  rw [hr1] at hMC0
  have hr1w : w.heap.size ≤ r1 := by omega
  have HM0 := Aside0.mk hMC0
  clear hMC0
  repeat clear hcA hfA
  rw [hr1]
  go_loopw [35] (fun i wr => ∃ k : Nat, k ≤ ds.length ∧ i = .int .i64 k ∧ Aside0 (MC (cntD (ds.take k)) wr r1) ∧ Aside0 (Up w wr)) (fun i _ => ds.length - (intOf i).toNat)
  case atStart => exact ⟨0, Nat.zero_le _, rfl, HM0, HW0⟩
  case round =>
    obtain ⟨k, hk, rfl, hMC, hU⟩ := hrel
    by_cases hlt : k < ds.length
    · obtain ⟨ad, e, hx0, hx1⟩ := at_Due (C_up HR.out hU.out) k (by omega) (by omega)
      cases e
      simp only [Int.toNat_natCast] at hx0 hx1
      have hi0 : (0 : Int) ≤ (k : Int) := by omega
      have hi1 : (k : Int) < (ds.length : Int) := by omega
      have hT := Aside0.mk (cntD_take ds k hlt)
      have hbd := cntD_bd (ds.take k) (rdDue ds k).c (rdDue ds k).a
      rw [List.length_take] at hbd
      have hmcw : MC (cntD (ds.take k)) (wr.alloc (.cells #[.int .i64 (rdDue ds k).c, .int .i64 (rdDue ds k).a] 58)).drew r1 := (hMC.out.up ((Up.refl wr).alloc _)).up ((Up.refl _).drew)
      generalize cntD (ds.take k) = f at *
      have hlk := mc_lookup f (rdDue ds k).c (rdDue ds k).a _ r1 hmcw
      obtain ⟨w1, st, hen, hm1, hwr1, hsz1, hst⟩ := mc_entry f (rdDue ds k).c (rdDue ds k).a _ r1 hmcw
      obtain ⟨w2, hst2, hm2b, hwr2, hsz2⟩ := hst (f (rdDue ds k).c (rdDue ds k).a + 1)
      have hlk1 := mc_lookup f (rdDue ds k).c (rdDue ds k).a _ r1 hm1
      have HWR := Aside0.mk (((Wr.ofUp (r := r1) (((Up.refl wr).alloc (.cells #[.int .i64 (rdDue ds k).c, .int .i64 (rdDue ds k).a] 58)).drew)).then hwr1).then hwr2)
      have HM2 := Aside0.mk hm2b
      have hwv : IntKind.i64.wrap (f (rdDue ds k).c (rdDue ds k).a + 1) = f (rdDue ds k).c (rdDue ds k).a + 1 := IntWalk.i64_in _ (by omega)
      have hu := Try.underlying58
      clear hmcw hm1 hm2b hwr1 hwr2 hst hsz1 hsz2
      simp only [keyV] at hlk hlk1 hen
      go_wp2_with fail
      go_region
      go_wp2_with fail
      go_roundw
      case rel => exact ⟨k + 1, by omega, by go_num, ⟨by rw [hT.out]; exact HM2.out⟩, ⟨HWR.out.up hr1w hU.out⟩⟩
      case measure => simp [intOf]; omega
    · obtain rfl : k = ds.length := by omega
      have hMC2 := hMC.out
      rw [List.take_length] at hMC2
      have HM1 := Aside0.mk hMC2
      have hz1 := hMC2.lt
      clear hMC2 hMC
      go_wp2_with fail
      have hMB := MC.new wr
      have HM1b := Aside0.mk (HM1.out.up ((Up.refl wr).alloc (.map #[] 0)))
      obtain ⟨r2, hr2⟩ : ∃ r2, wr.heap.size = r2 := ⟨_, rfl⟩
      rw [hr2] at hMB hz1
      obtain ⟨wb, hwb⟩ : ∃ wb, wb = wr.alloc (.map #[] 0) := ⟨_, rfl⟩
      have hzb : r2 < wb.heap.size := by rw [hwb]; simp; omega
      rw [← hwb] at hMB HM1b
      have HUB : Aside0 (Up w wb) := ⟨by rw [hwb]; exact hU.out.alloc _⟩
      have HMB := Aside0.mk hMB
      have hr2w : w.heap.size ≤ r2 := by omega
      clear hMB hr1
      rw [← hwb, hr2]
      clear hwb hr2 hU
      go_loopw [5, 49] (fun v5 i wr => ∃ (k : Nat) (v : Value), k ≤ l.length ∧ v5 = v ∧ i = .int .i64 k ∧ Aside0 (MC (bookTo (cntD ds) l k).g wr r2) ∧ Aside0 (wr.ownsRow wb.heap.size 3 1 v (bookTo (cntD ds) l k).x.length (nums .i64 (bookTo (cntD ds) l k).x)) ∧ Aside0 (Wr r2 wb wr)) (fun _ i _ => l.length - (intOf i).toNat)
      case atStart => exact ⟨0, _, Nat.zero_le _, rfl, rfl, HMB, ⟨⟨rfl, .inl ⟨rfl, rfl⟩⟩⟩, ⟨Wr.refl _ _⟩⟩
      case round =>
        obtain ⟨k, v, hk, rfl, rfl, hMC, hO, hW⟩ := hrel
        have hUw : Up w wr := hW.out.up hr2w HUB.out
        have HM1r := Aside0.mk (HM1b.out.wr (by omega) hW.out)
        by_cases hlt : k < l.length
        · obtain ⟨ad, e, hx0, hx1, hx2⟩ := at_Ent (C_up HR2.out hUw) k (by omega) (by omega)
          cases e
          simp only [Int.toNat_natCast] at hx0 hx1 hx2
          have hi0 : (0 : Int) ≤ (k : Int) := by omega
          have hi1 : (k : Int) < (l.length : Int) := by omega
          have hbb := bookTo_bd (cntD ds) l k
          have hcb := cntD_bd ds (rdEnt l k).f (rdEnt l k).a
          have HST : Aside0 (bookTo (cntD ds) l (k + 1) = bookStep (cntD ds) (bookTo (cntD ds) l k) k (rdEnt l k)) := ⟨rfl⟩
          have hxl := hbb.2
          have hgb := hbb.1 (rdEnt l k).f (rdEnt l k).a
          clear hbb
          obtain ⟨⟨f, xs⟩, hst0⟩ : ∃ s, s = bookTo (cntD ds) l k := ⟨_, rfl⟩
          rw [← hst0] at hMC hO HST hxl hgb
          simp only at hMC hO hxl hgb
          clear hst0
          have hz2 := hMC.out.lt
          have hwz := hUw.le
          obtain ⟨W, hWe⟩ : ∃ W, W = (wr.alloc (.cells #[.int .i64 (rdEnt l k).f, .int .i64 (rdEnt l k).t, .int .i64 (rdEnt l k).a] 101)).alloc (.cells #[.int .i64 (rdEnt l k).f, .int .i64 (rdEnt l k).a] 58) := ⟨_, rfl⟩
          have hUW : Up wr W := by rw [hWe]; exact ((Up.refl wr).alloc _).alloc _
          have hq1 : ∀ o, W.cell? ⟨wr.heap.size, o, none⟩ = (#[.int .i64 (rdEnt l k).f, .int .i64 (rdEnt l k).t, .int .i64 (rdEnt l k).a] : Array Value)[o]? := fun o => by rw [hWe]; simp [go_sem]
          have hq2 : ∀ o, W.cell? ⟨wr.heap.size + 1, o, none⟩ = (#[.int .i64 (rdEnt l k).f, .int .i64 (rdEnt l k).a] : Array Value)[o]? := fun o => by rw [hWe]; simp [go_sem]
          have hlk2 : ∀ n, (Instr.lookup 139 (.map (some r2)) (.agg #[.int .i64 (rdEnt l k).f, .int .i64 (rdEnt l k).a]) false).run Try.prog (W.drewN n) = .ok (.int .i64 (f (rdEnt l k).f (rdEnt l k).a)) (W.drewN n) := fun n => mc_lookup f _ _ _ r2 (hMC.out.up (hUW.drewN n))
          have hlk3 : ∀ n, (Instr.lookup 139 (.map (some r1)) (.agg #[.int .i64 (rdEnt l k).f, .int .i64 (rdEnt l k).a]) false).run Try.prog (W.drewN n) = .ok (.int .i64 (cntD ds (rdEnt l k).f (rdEnt l k).a)) (W.drewN n) := fun n => mc_lookup (cntD ds) _ _ _ r1 (HM1r.out.up (hUW.drewN n))
          have hu := Try.underlying58
          have hu2 := Try.underlying101
          by_cases ht : (rdEnt l k).t = 0
          · have htb : ((rdEnt l k).t == 0) = true := by simp [ht]
            by_cases hlt2 : f (rdEnt l k).f (rdEnt l k).a < cntD ds (rdEnt l k).f (rdEnt l k).a
            · have hS : bookStep (cntD ds) ⟨f, xs⟩ k (rdEnt l k) = ⟨updF f (rdEnt l k).f (rdEnt l k).a (f (rdEnt l k).f (rdEnt l k).a + 1), xs⟩ := by simp [bookStep, ht, hlt2]
              have HS := Aside0.mk (HST.out.trans hS)
              have hdl : decide (f (rdEnt l k).f (rdEnt l k).a < cntD ds (rdEnt l k).f (rdEnt l k).a) = true := by simpa using hlt2
              clear hS HST ht hlt2
              go_wp2_with fail
              rw [← hWe]
              have HUW := Aside0.mk hUW
              clear hWe hUW
              go_quiet (fail)
              have HUX := Aside0.mk (HUW.out.drewN nq)
              have hq3 : ∀ o, (W.drewN nq).cell? ⟨wr.heap.size + 1, o, none⟩ = (#[.int .i64 (rdEnt l k).f, .int .i64 (rdEnt l k).a] : Array Value)[o]? := hq2
              generalize W.drewN nq = X at *
              clear hlk2 hlk3 hq1 hq2
              have hmx := hMC.out.up HUX.out
              have hwv : IntKind.i64.wrap (f (rdEnt l k).f (rdEnt l k).a + 1) = f (rdEnt l k).f (rdEnt l k).a + 1 := IntWalk.i64_in _ (by omega)
              have hmcw : MC (f) (X).drew r2 := MC.up hmx ((Up.refl _).drew)
              have hlk := mc_lookup (f) ((rdEnt l k).f) ((rdEnt l k).a) _ r2 hmcw
              obtain ⟨w1, st, hen, hm1, hwr1, hsz1, hst⟩ := mc_entry (f) ((rdEnt l k).f) ((rdEnt l k).a) _ r2 hmcw
              obtain ⟨w2, hst2, hm2b, hwr2, hsz2⟩ := hst (f (rdEnt l k).f (rdEnt l k).a + 1)
              have hlk1 := mc_lookup (f) ((rdEnt l k).f) ((rdEnt l k).a) _ r2 hm1
              have HWX : Aside0 (Wr r2 (X) w2) := ⟨((Wr.ofUp (r := r2) ((Up.refl _).drew)).then hwr1).then hwr2⟩
              have HM2 := Aside0.mk hm2b
              clear hmcw hm1 hm2b hwr1 hwr2 hst hsz1 hsz2
              simp only [keyV] at hlk hlk1 hen
              have HMX := Aside0.mk hmx
              clear hmx
              go_wp2_with fail
              go_region
              go_wp2_with fail
              go_roundw
              case rel => exact ⟨k + 1, _, by omega, rfl, by go_num, ⟨by rw [HS.out]; exact HM2.out⟩, ⟨by rw [HS.out]; exact own_mc (own_up hO.out HUX.out) HMX.out HWX.out⟩, ⟨(hW.out.then (Wr.ofUp HUX.out)).then HWX.out⟩⟩
              case measure => simp [intOf]; omega
            · have hS : bookStep (cntD ds) ⟨f, xs⟩ k (rdEnt l k) = ⟨f, xs ++ [(k : Int)]⟩ := by simp [bookStep, hlt2]
              have HS := Aside0.mk (HST.out.trans hS)
              have hdl : decide (f (rdEnt l k).f (rdEnt l k).a < cntD ds (rdEnt l k).f (rdEnt l k).a) = false := by simpa using hlt2
              clear hS HST ht hlt2
              go_wp2_with fail
              rw [← hWe]
              have HUW := Aside0.mk hUW
              clear hWe hUW
              go_quiet (fail)
              have HBX : Aside0 (Below wb.heap.size wr (W.drewN nq)) := ⟨(HUW.out.drewN nq).mono (by have := hW.out.size; omega)⟩
              have HOX := Aside0.mk (own_up hO.out (HUW.out.drewN nq))
              have hzx : wb.heap.size ≤ (W.drewN nq).heap.size := by have h8 := (HUW.out.drewN nq).le; have h7 := hW.out.size; omega
              generalize W.drewN nq = X at *
              clear hlk2 hlk3 hq1 hq2 hx0 hx1 hx2
              go_wp2_with (at_builtin; go_loud (refine print_append_cells (w0 := wr) wb.heap.size rfl _ _ 35 3 _ 1 8 rfl Try.underlying35 info_int rfl (by decide) (by decide) u5 xs.length _ [.int .i64 (k : Int)] rfl (by first | rfl | go_simp) rfl ?q1 HOX.out HBX.out hzx ?q2 ?_))
              case q1 => intro u hu; simp at hu; subst hu; rfl
              case q2 => omega
              intro v3 w3 hown3 hb3 hgrow3 hat3
              have HO3 : Aside0 (w3.ownsRow wb.heap.size 3 1 v3 (xs ++ [(k : Int)]).length (nums .i64 (xs ++ [(k : Int)]))) := ⟨by simpa [nums] using hown3⟩
              have HB3 := Aside0.mk hb3
              clear hown3 hb3 hgrow3 hat3
              go_wp2_with fail
              go_roundw
              case rel => exact ⟨k + 1, v3, by omega, rfl, by go_num, ⟨by rw [HS.out]; exact hMC.out.below hzb HB3.out⟩, ⟨by rw [HS.out]; exact HO3.out⟩, ⟨hW.out.then2 HB3.out⟩⟩
              case measure => simp [intOf]; omega
          · have htb : ((rdEnt l k).t == 0) = false := by simp [ht]
            have hS : bookStep (cntD ds) ⟨f, xs⟩ k (rdEnt l k) = ⟨f, xs ++ [(k : Int)]⟩ := by simp [bookStep, ht]
            have HS := Aside0.mk (HST.out.trans hS)
            clear hS HST ht
            skip
            · go_wp2_with fail
              rw [← hWe]
              have HUW := Aside0.mk hUW
              clear hWe hUW
              go_quiet (fail)
              have HBX : Aside0 (Below wb.heap.size wr (W.drewN nq)) := ⟨(HUW.out.drewN nq).mono (by have := hW.out.size; omega)⟩
              have HOX := Aside0.mk (own_up hO.out (HUW.out.drewN nq))
              have hzx : wb.heap.size ≤ (W.drewN nq).heap.size := by have h8 := (HUW.out.drewN nq).le; have h7 := hW.out.size; omega
              generalize W.drewN nq = X at *
              clear hlk2 hlk3 hq1 hq2 hx0 hx1 hx2
              go_wp2_with (at_builtin; go_loud (refine print_append_cells (w0 := wr) wb.heap.size rfl _ _ 35 3 _ 1 8 rfl Try.underlying35 info_int rfl (by decide) (by decide) u5 xs.length _ [.int .i64 (k : Int)] rfl (by first | rfl | go_simp) rfl ?q1 HOX.out HBX.out hzx ?q2 ?_))
              case q1 => intro u hu; simp at hu; subst hu; rfl
              case q2 => omega
              intro v3 w3 hown3 hb3 hgrow3 hat3
              have HO3 : Aside0 (w3.ownsRow wb.heap.size 3 1 v3 (xs ++ [(k : Int)]).length (nums .i64 (xs ++ [(k : Int)]))) := ⟨by simpa [nums] using hown3⟩
              have HB3 := Aside0.mk hb3
              clear hown3 hb3 hgrow3 hat3
              go_wp2_with fail
              go_roundw
              case rel => exact ⟨k + 1, v3, by omega, rfl, by go_num, ⟨by rw [HS.out]; exact hMC.out.below hzb HB3.out⟩, ⟨by rw [HS.out]; exact HO3.out⟩, ⟨hW.out.then2 HB3.out⟩⟩
              case measure => simp [intOf]; omega
        · obtain rfl : k = l.length := by omega
          have hgb := (bookTo_bd (cntD ds) l l.length).1
          have hxb := (bookTo_bd (cntD ds) l l.length).2
          obtain ⟨⟨g, xs⟩, hst0⟩ : ∃ s, s = bookTo (cntD ds) l l.length := ⟨_, rfl⟩
          have HBS : Aside0 (bookS ds l = ⟨g, xs⟩) := ⟨hst0.symm⟩
          rw [← hst0] at hMC hO hgb hxb
          simp only at hMC hO hgb hxb
          have hMB := missTo_bd g l.length hgb ds
          clear hst0 hgb
          obtain ⟨wm, hwm⟩ : ∃ wm, wm = wr := ⟨_, rfl⟩
          rw [← hwm] at hMC hO
          have HUm : Aside0 (Up w wm) := ⟨by rw [hwm]; exact hUw⟩
          have hzm : r2 < wm.heap.size := hMC.out.lt
          clear hUw HM1r
          go_wp2_with fail
          go_loopw [4, 84] (fun v4 i wr => ∃ (k : Nat) (v : Value), k ≤ ds.length ∧ v4 = v ∧ i = .int .i64 k ∧ Aside0 (MC (missTo g ds k).g wr r2) ∧ Aside0 (wr.ownsRow wm.heap.size 3 1 v (missTo g ds k).x.length (nums .i64 (missTo g ds k).x)) ∧ Aside0 (Wr r2 wm wr)) (fun _ i _ => ds.length - (intOf i).toNat)
          case atStart => exact ⟨0, _, Nat.zero_le _, rfl, rfl, ⟨by rw [← hwm]; exact hMC.out⟩, ⟨⟨rfl, .inl ⟨rfl, rfl⟩⟩⟩, ⟨by rw [hwm]; exact Wr.refl _ _⟩⟩
          case round =>
            obtain ⟨k, v, hk, rfl, rfl, hMC3, hO3, hW3⟩ := hrel
            clear hwm
            have hUw : Up w wr := hW3.out.up hr2w HUm.out
            by_cases hlt3 : k < ds.length
            · obtain ⟨ad, e, hx0, hx1⟩ := at_Due (C_up HR.out hUw) k (by omega) (by omega)
              cases e
              simp only [Int.toNat_natCast] at hx0 hx1
              have hi0 : (0 : Int) ≤ (k : Int) := by omega
              have hi1 : (k : Int) < (ds.length : Int) := by omega
              have hmb := hMB k
              have HST : Aside0 (missTo g ds (k + 1) = missStep (missTo g ds k) k (rdDue ds k)) := ⟨rfl⟩
              have hgb := hmb.1 (rdDue ds k).c (rdDue ds k).a
              have hxl := hmb.2
              clear hmb
              obtain ⟨⟨f, ys⟩, hst0⟩ : ∃ s, s = missTo g ds k := ⟨_, rfl⟩
              rw [← hst0] at hMC3 hO3 HST hxl hgb
              simp only at hMC3 hO3 hxl hgb
              clear hst0
              have hmx := hMC3.out.up ((Up.refl wr).alloc (.cells #[.int .i64 (rdDue ds k).c, .int .i64 (rdDue ds k).a] 58))
              have hzx := hmx.lt
              have hwv : IntKind.i64.wrap (f (rdDue ds k).c (rdDue ds k).a - 1) = f (rdDue ds k).c (rdDue ds k).a - 1 := IntWalk.i64_in _ (by omega)
              have hmcw : MC (f) (wr.alloc (.cells #[.int .i64 (rdDue ds k).c, .int .i64 (rdDue ds k).a] 58)).drew r2 := MC.up hmx ((Up.refl _).drew)
              have hlk := mc_lookup (f) ((rdDue ds k).c) ((rdDue ds k).a) _ r2 hmcw
              obtain ⟨w1, st, hen, hm1, hwr1, hsz1, hst⟩ := mc_entry (f) ((rdDue ds k).c) ((rdDue ds k).a) _ r2 hmcw
              obtain ⟨w2, hst2, hm2b, hwr2, hsz2⟩ := hst (f (rdDue ds k).c (rdDue ds k).a - 1)
              have hlk1 := mc_lookup (f) ((rdDue ds k).c) ((rdDue ds k).a) _ r2 hm1
              have HWX : Aside0 (Wr r2 (wr.alloc (.cells #[.int .i64 (rdDue ds k).c, .int .i64 (rdDue ds k).a] 58)) w2) := ⟨((Wr.ofUp (r := r2) ((Up.refl _).drew)).then hwr1).then hwr2⟩
              have HM2 := Aside0.mk hm2b
              clear hmcw hm1 hm2b hwr1 hwr2 hst hsz1 hsz2
              simp only [keyV] at hlk hlk1 hen
              have hlw2 := mc_lookup _ (rdDue ds k).c (rdDue ds k).a _ r2 HM2.out
              rw [show updF f (rdDue ds k).c (rdDue ds k).a (f (rdDue ds k).c (rdDue ds k).a - 1) (rdDue ds k).c (rdDue ds k).a = f (rdDue ds k).c (rdDue ds k).a - 1 by simp [updF]] at hlw2
              simp only [keyV] at hlw2
              have hzr := hMC3.out.lt
              have hq9 : ∀ o, w2.cell? ⟨wr.heap.size, o, none⟩ = (#[.int .i64 (rdDue ds k).c, .int .i64 (rdDue ds k).a] : Array Value)[o]? := fun o => (HWX.out.old.1 _ o (by simp) (by omega)).trans (by simp [go_sem])
              have hu := Try.underlying58
              have HWw : Aside0 (Wr r2 wr w2) := ⟨(Wr.ofUp ((Up.refl wr).alloc _)).then HWX.out⟩
              have HO4 : Aside0 (w2.ownsRow wm.heap.size 3 1 u4 ys.length (nums .i64 ys)) := ⟨own_mc hO3.out hMC3.out HWw.out⟩
              have HW4 : Aside0 (Wr r2 wm w2) := ⟨hW3.out.then HWw.out⟩
              clear hmx hzx hMC3 hO3 hW3
              go_wp2_with fail
              go_region
              by_cases hneg : f (rdDue ds k).c (rdDue ds k).a - 1 < 0
              · have hdn : decide (f (rdDue ds k).c (rdDue ds k).a - 1 < 0) = true := by simpa using hneg
                have HS : Aside0 (missTo g ds (k + 1) = ⟨updF f (rdDue ds k).c (rdDue ds k).a (f (rdDue ds k).c (rdDue ds k).a - 1), ys ++ [(k : Int)]⟩) := ⟨HST.out.trans (by simp only [missStep]; rw [if_pos hneg])⟩
                clear HST
                go_wp2_with (at_builtin; go_loud (refine print_append_cells (w0 := w2) wm.heap.size rfl _ _ 35 3 _ 1 8 rfl Try.underlying35 info_int rfl (by decide) (by decide) u4 ys.length _ [.int .i64 (k : Int)] rfl (by first | rfl | go_simp) rfl ?q1 HO4.out (Below.refl _ _) HW4.out.size ?q2 ?_))
                case q1 => intro u hu; simp at hu; subst hu; rfl
                case q2 => omega
                intro v3 w3 hown3 hb3 hgrow3 hat3
                have HO5 : Aside0 (w3.ownsRow wm.heap.size 3 1 v3 (ys ++ [(k : Int)]).length (nums .i64 (ys ++ [(k : Int)]))) := ⟨by simpa [nums] using hown3⟩
                have HB5 := Aside0.mk hb3
                clear hown3 hb3 hgrow3 hat3
                go_wp2_with fail
                go_roundw
                case rel => exact ⟨k + 1, v3, by omega, rfl, by go_num, ⟨by rw [HS.out]; exact HM2.out.below hzm HB5.out⟩, ⟨by rw [HS.out]; exact HO5.out⟩, ⟨HW4.out.then2 HB5.out⟩⟩
                case measure => simp [intOf]; omega
              · have hdn : decide (f (rdDue ds k).c (rdDue ds k).a - 1 < 0) = false := by simpa using hneg
                have HS : Aside0 (missTo g ds (k + 1) = ⟨updF f (rdDue ds k).c (rdDue ds k).a (f (rdDue ds k).c (rdDue ds k).a - 1), ys⟩) := ⟨HST.out.trans (by simp only [missStep]; rw [if_neg hneg])⟩
                clear HST
                go_wp2_with fail
                go_roundw
                case rel => exact ⟨k + 1, _, by omega, rfl, by go_num, ⟨by rw [HS.out]; exact HM2.out⟩, ⟨by rw [HS.out]; exact HO4.out⟩, HW4⟩
                case measure => simp [intOf]; omega
            · obtain rfl : k = ds.length := by omega
              have hzw := HUm.out.le
              have hzb2 := HUB.out.le
              go_wp2_with fail
              go_ret3
              exact ⟨_, _, rfl, by rw [HBS.out]; exact own_mono hO3.out hzw, by rw [HBS.out]; exact own_mono (own_mc hO.out hMC.out hW3.out) hzb2, hUw, fun k h1 h2 => by have h3 := own_base hO3.out k h1; have h4 := own_lt hO.out k h2; omega⟩
theorem booked_ (A : Option Addr) (c : Nat) (ds : List Due) (A2 : Option Addr) (c2 : Nat) (l : List Ent) (w : World) (hr : Kd.C kDue w A ds.length ds) (hc : ds.length ≤ c) (hr2 : Kd.C kEnt w A2 l.length l) (hc2 : l.length ≤ c2) :
    Calls Try.prog 33 #[.slice A ds.length c, .slice A2 l.length c2] w fun e w' => ∃ v u, e = .returned (.tuple #[v, u, .int .i64 (bookE ds l)]) ∧ w'.ownsRow w.heap.size 3 1 v (bookM ds l).length (nums .i64 (bookM ds l)) ∧ w'.ownsRow w.heap.size 3 1 u (bookX ds l).length (nums .i64 (bookX ds l)) ∧ Up w w' ∧ (∀ k, v.ownBlock = some k → u.ownBlock ≠ some k) := by
  by_cases h0 : bookE ds l = 0
  · have h1 : bookM ds l = (missTo (bookS ds l).g ds ds.length).x := by simp [bookM, h0]
    have h2 : bookX ds l = (bookS ds l).x := by simp [bookX, h0]
    rw [h0, h1, h2]
    exact booked_ok A c ds A2 c2 l w hr hc hr2 hc2 h0
  · have hM : bookM ds l = [] := by simp [bookM, h0]
    have hX : bookX ds l = [] := by simp [bookX, h0]
    have HR := Aside0.mk hr
    have HR2 := Aside0.mk hr2
    have hm := CF_len hr
    rw [hM, hX]
    clear hr hr2 hM hX
    suffices H : Calls Try.prog 33 #[.slice A ds.length c, .slice A2 l.length c2] w fun e w' => e = .returned (.tuple #[.slice none 0 0, .slice none 0 0, .int .i64 (bookE ds l)]) ∧ Up w w' from
      H.mono fun e w' h => ⟨_, _, h.1, ⟨rfl, .inl ⟨rfl, rfl⟩⟩, ⟨rfl, .inl ⟨rfl, rfl⟩⟩, h.2, fun k h => by simp [Value.ownBlock] at h⟩
    by_cases h1 : readE l = 0
    · have hb1 : (readE l != 0) = false := by simp [h1]
      by_cases h2 : ds.length > 12
      · have hE : bookE ds l = 8 := by simp [bookE, h1, h2]
        rw [hE]
        clear h0 hE h1
        go_enter Try.func33, Try.ntmps33
        go_wp2_with (go_at_call 69; (with_reducible refine (read_ _ _ _ _ (C_up HR2.out upA) hc2).mono ?_); rintro e w' ⟨rfl, hb⟩; have hbA := Aside0.mk hb; obtain ⟨hcA, hfA⟩ := hb.old; have hz := hb.le; (try simp at hz); (try have hz0 : w.heap.size < w'.heap.size := by omega); (try have hzb : w.heap.size + 1 < w'.heap.size := by omega); (try have hzc : w.heap.size + 2 < w'.heap.size := by omega); clear hb)
        go_ret3
        exact ⟨rfl, upA⟩
      · cases h3 : (ds.any fun x => !dueB x)
        · simp [bookE, h1, h2, h3] at h0
        · have hE : bookE ds l = 3 := by simp [bookE, h1, h2, h3]
          have H3 := Aside0.mk h3
          rw [hE]
          clear h0 hE h1 h3
          go_enter Try.func33, Try.ntmps33
          go_wp2_with (first | (go_at_call 69; (with_reducible refine (read_ _ _ _ _ (C_up HR2.out upA) hc2).mono ?_); rintro e w' ⟨rfl, hb⟩; have hbA := Aside0.mk hb; obtain ⟨hcA, hfA⟩ := hb.old; have hz := hb.le; (try simp at hz); (try have hz0 : w.heap.size < w'.heap.size := by omega); (try have hzb : w.heap.size + 1 < w'.heap.size := by omega); (try have hzc : w.heap.size + 2 < w'.heap.size := by omega); clear hb) | (go_at_call 72; (with_reducible refine ((H3.out ▸ containsDue _ _ _ _ (C_up HR.out upA) hc)).mono ?_); rintro e w' ⟨rfl, hb⟩; have hbA := Aside0.mk hb; obtain ⟨hcA, hfA⟩ := hb.old; have hz := hb.le; (try simp at hz); (try have hz0 : w.heap.size < w'.heap.size := by omega); (try have hzb : w.heap.size + 1 < w'.heap.size := by omega); (try have hzc : w.heap.size + 2 < w'.heap.size := by omega); clear hb))
          go_ret3
          exact ⟨rfl, upA⟩
    · have hb1 : (readE l != 0) = true := by simp [h1]
      have hE : bookE ds l = readE l := by simp [bookE, h1]
      rw [hE]
      clear h0 hE h1
      go_enter Try.func33, Try.ntmps33
      go_wp2_with (go_at_call 69; (with_reducible refine (read_ _ _ _ _ (C_up HR2.out upA) hc2).mono ?_); rintro e w' ⟨rfl, hb⟩; have hbA := Aside0.mk hb; obtain ⟨hcA, hfA⟩ := hb.old; have hz := hb.le; (try simp at hz); (try have hz0 : w.heap.size < w'.heap.size := by omega); (try have hzb : w.heap.size + 1 < w'.heap.size := by omega); (try have hzc : w.heap.size + 2 < w'.heap.size := by omega); clear hb)
      go_ret3
      exact ⟨rfl, upA⟩
end Go.Proofs.Ytdlekcdedahbhaa
namespace Go.Proofs.Ytdlekcdedahbhaa
open Go.RowKit Go.Shelf Go.Proofs.YtdlekcdedahbhaaW.PrintWords
set_option linter.unusedVariables false
set_option linter.unusedSimpArgs false
attribute [local go_sem] Oper.semAt_some
structure Slp where
  e : Int
  k : Int
  m : Int
  deriving DecidableEq
def z_Slp : Slp := ⟨0, 0, 0⟩
def kSlp : Kd Slp := Kd.iso (Kd.pair (Kd.int .i64) (Kd.pair (Kd.int .i64) (Kd.int .i64))) (fun x : Slp => (x.e, x.k, x.m))
theorem kSlp_open {w : World} {x : Slp} {cs : List Value} (h : kSlp.K w x cs) : cs = [.int .i64 x.e, .int .i64 x.k, .int .i64 x.m] := by
  obtain ⟨_, _, rfl, rfl, _, _, rfl, rfl, rfl⟩ := h
  exact rfl
theorem kSlp_mk (w : World) (x : Slp) : kSlp.K w x [.int .i64 x.e, .int .i64 x.k, .int .i64 x.m] := ⟨[.int .i64 x.e], [.int .i64 x.k, .int .i64 x.m], rfl, rfl, [.int .i64 x.k], [.int .i64 x.m], rfl, rfl, rfl⟩
theorem kSlp_mkM (w : World) (base : Nat) (ok : Nat → Prop) (x : Slp) : kSlp.M w base ok x [.int .i64 x.e, .int .i64 x.k, .int .i64 x.m] := ⟨[.int .i64 x.e], [.int .i64 x.k, .int .i64 x.m], rfl, rfl, [.int .i64 x.k], [.int .i64 x.m], rfl, rfl, rfl⟩
def rdSlp (xs : List Slp) (i : Int) : Slp := xs.getD i.toNat z_Slp
theorem at_Slp {w : World} {A : Option Addr} {n : Nat} {xs : List Slp} (h : Kd.C kSlp w A n xs) (i : Int) (h0 : 0 ≤ i) (h1 : i < n) : ∃ ad, A = some ad ∧ w.cell? (ad.add (i.toNat * 3)) = some (.int .i64 (rdSlp xs i).e) ∧ w.cell? ⟨(ad.add (i.toNat * 3)).block, (ad.add (i.toNat * 3)).off + 1, none⟩ = some (.int .i64 (rdSlp xs i).k) ∧ w.cell? ⟨(ad.add (i.toNat * 3)).block, (ad.add (i.toNat * 3)).off + 2, none⟩ = some (.int .i64 (rdSlp xs i).m) := by
  obtain ⟨ad, c, e, _, hK, hc0⟩ := Kd.C_get h z_Slp i h0 h1
  have hc : ∀ j u, c[j]? = some u → w.cell? (ad.add (i.toNat * 3 + j)) = some u := hc0
  obtain rfl := kSlp_open hK
  exact ⟨ad, e, hc 0 _ rfl, by rw [← add_field _ _ 1 (by omega)]; exact hc 1 _ rfl, by rw [← add_field _ _ 2 (by omega)]; exact hc 2 _ rfl⟩
theorem rdSlp_mem (xs : List Slp) (i : Int) (h0 : 0 ≤ i) (h1 : i < xs.length) : rdSlp xs i ∈ xs := by
  have h2 : i.toNat < xs.length := by omega
  simp [rdSlp, List.getD_eq_getElem?_getD, h2]
abbrev Chg := Slp × Ent
def encG (p : Chg) : Array Value := #[.agg #[.int .i64 p.1.e, .int .i64 p.1.k, .int .i64 p.1.m], .agg #[.int .i64 p.2.f, .int .i64 p.2.t, .int .i64 p.2.a]]
def chA (x : Ent) : Nat → Nat → List Chg
  | 0, _ => []
  | m + 1, k => if (k : Int) ≠ x.a then (⟨0, 1, k⟩, ⟨x.f, x.t, k⟩) :: chA x m (k + 1) else chA x m (k + 1)
def chF (x : Ent) : Nat → Nat → List Chg
  | 0, _ => []
  | m + 1, k => if (k : Int) ≠ x.f ∧ (k : Int) ≠ x.t then (⟨0, 3, k⟩, ⟨k, x.t, x.a⟩) :: chF x m (k + 1) else chF x m (k + 1)
def chT (x : Ent) : Nat → Nat → List Chg
  | 0, _ => []
  | m + 1, k => if (k : Int) ≠ x.f ∧ (k : Int) ≠ x.t then (⟨0, 4, k⟩, ⟨x.f, k, x.a⟩) :: chT x m (k + 1) else chT x m (k + 1)
def changesL (x : Ent) : List Chg := chA x 101 0 ++ ((⟨0, 2, 0⟩, ⟨x.t, x.f, x.a⟩) :: (chF x 6 0 ++ chT x 6 0))
def chP (base b : Nat) (k : Nat) : Prop := k < base ∨ k = b
set_option maxRecDepth 100000 in
set_option maxHeartbeats 4000000 in
theorem changes1_in (x : Ent) (lp b : Nat) (w : World) (hb : w.heap.size ≤ b)
    (J Jx : List Chg → World → Prop) (W : World) (hW : Up w W) (hJ : AbidesFrom W.heap.size J)
    (hY : ∀ pre y W1, J pre W1 → pre.length < (changesL x).length → pre ++ [y] <+: changesL x → YieldAt Fence.wide 4 Try.prog lp (encG y) W1 fun e W' =>
      (e = .returned (.bool true) ∧ J (pre ++ [y]) W' ∧ Sv (chP w.heap.size b) W1 W') ∨ (e = .returned (.bool false) ∧ Jx (pre ++ [y]) W'))
    (hB : Bx W b #[.int .i64 (x).f, .int .i64 (x).t, .int .i64 (x).a] 101) (hj : J [] W) :
    CallsIn Fence.wide 5 Try.prog 90 #[.func (.yield lp) #[] #[], .pointer (some ⟨b, 0, none⟩)] W fun e W' => (∃ v, e = .returned v) ∧
      ((∃ ys, ys = changesL x ∧ J ys W') ∨ (∃ pre, pre <+: changesL x ∧ Jx pre W')) := by
  have HY := Aside0.mk hY
  have HJ := Aside0.mk hJ
  have HB := Aside0.mk hB
  have hbW := hB.lt
  clear hY hJ hB
  refine callsIn_of_wp Try.func90 rfl trivial ?_ rfl
  simp only [Try.ntmps90, List.size_toArray, List.length_cons, List.length_nil, Nat.reduceAdd, Nat.reduceSub, Array.replicate_succ, Array.replicate_zero, List.push_toArray, List.append_toArray, List.nil_append, List.cons_append]
  gi_wp2_with fail
  gi_loopw [9] (fun i wr => ∃ (k : Nat) (pre : List Chg), k ≤ 101 ∧ i = .int .i64 k ∧ Aside0 (pre ++ (chA x (101 - k) k ++ ((⟨0, 2, 0⟩, ⟨x.t, x.f, x.a⟩) :: (chF x 6 0 ++ chT x 6 0))) = changesL x) ∧ Aside0 (J pre wr) ∧ Aside0 (Sv (chP w.heap.size b) W wr)) (fun i _ => 101 - (intOf i).toNat)
  case atStart => exact ⟨0, [], by omega, rfl, ⟨rfl⟩, ⟨hj⟩, ⟨Sv.refl _ _⟩⟩
  case round =>
    obtain ⟨k, pre, hk, rfl, HP, HJP, HS⟩ := hrel
    have hBr : Bx wr b #[.int .i64 (x).f, .int .i64 (x).t, .int .i64 (x).a] 101 := (HS.out.block b (.inr rfl)).trans HB.out
    have hq := hBr.cell
    have hbz := hBr.lt
    have HBR := Aside0.mk hBr
    clear hBr
    by_cases hlt : k < 101
    · have hdl : decide ((k : Int) < 101) = true := by simp; omega
      have hsub : 101 - k = (101 - (k + 1)) + 1 := by omega
      by_cases hne : (k : Int) = x.a
      · have hnb : ((k : Int) != x.a) = false := by simp [hne]
        have HPN : Aside0 (pre ++ (chA x (101 - (k + 1)) (k + 1) ++ ((⟨0, 2, 0⟩, ⟨x.t, x.f, x.a⟩) :: (chF x 6 0 ++ chT x 6 0))) = changesL x) := ⟨by have h := HP.out; rw [hsub, chA, if_neg (by simpa using hne)] at h; exact h⟩
        clear HP hsub hne
        have hJ2 : J pre (wr.alloc (.cells #[.int .i64 x.f, .int .i64 x.t, .int .i64 (k : Int)] 101)) := HJ.out _ _ _ none HJP.out (grown_of_below ((Up.refl wr).alloc _) none) (fun r e => by cases e)
        have HJ2 := Aside0.mk hJ2
        have HS2 : Aside0 (Sv (chP w.heap.size b) W (wr.alloc (.cells #[.int .i64 x.f, .int .i64 x.t, .int .i64 (k : Int)] 101))) := ⟨HS.out.alloc _ (fun q hq => by have h8 := HS.out.size; have h9 := hW.le; rcases hq with h | h <;> omega)⟩
        clear hJ2 HJP HS
        gi_wp2_with fail
        refine ⟨(fun f hf => nomatch hf), ?_⟩
        gi_wp2_with fail
        go_roundw
        case rel => exact ⟨k + 1, pre, by omega, by go_num, HPN, HJ2, HS2⟩
        case measure => simp [intOf]; omega
      · have hnb : ((k : Int) != x.a) = true := by simp [hne]
        have HPN : Aside0 (pre ++ ((⟨0, 1, k⟩, ⟨x.f, x.t, k⟩) :: (chA x (101 - (k + 1)) (k + 1) ++ ((⟨0, 2, 0⟩, ⟨x.t, x.f, x.a⟩) :: (chF x 6 0 ++ chT x 6 0)))) = changesL x) := ⟨by have h := HP.out; rw [hsub, chA, if_pos hne] at h; exact h⟩
        clear HP hsub hne
        have hJ2 : J pre (wr.alloc (.cells #[.int .i64 x.f, .int .i64 x.t, .int .i64 (k : Int)] 101)) := HJ.out _ _ _ none HJP.out (grown_of_below ((Up.refl wr).alloc _) none) (fun r e => by cases e)
        have HS2 : Aside0 (Sv (chP w.heap.size b) W (wr.alloc (.cells #[.int .i64 x.f, .int .i64 x.t, .int .i64 (k : Int)] 101))) := ⟨HS.out.alloc _ (fun q hq => by have h8 := HS.out.size; have h9 := hW.le; rcases hq with h | h <;> omega)⟩
        obtain ⟨fn, tmps, assign, body, hy, hR⟩ := HY.out pre (((⟨0, 1, k⟩, ⟨x.f, x.t, k⟩) : Chg)) _ hJ2 (by rw [← HPN.out]; simp) ⟨_, by rw [List.append_assoc]; exact HPN.out⟩
        dsimp only [encG] at hy
        clear hJ2 HJP HS
        gi_wp2_with fail
        refine hR.mono ?_
        rintro e W3 (⟨rfl, hJ3, hS3⟩ | ⟨rfl, hJx3⟩)
        · have HJ3 := Aside0.mk hJ3
          have HS3 := Aside0.mk (HS2.out.trans hS3)
          clear hJ3 hS3
          gi_wp2_with fail
          go_roundw
          case rel => exact ⟨k + 1, pre ++ [((⟨0, 1, k⟩, ⟨x.f, x.t, k⟩) : Chg)], by omega, by go_num, ⟨by rw [List.append_assoc]; exact HPN.out⟩, HJ3, HS3⟩
          case measure => simp [intOf]; omega
        · have HJX := Aside0.mk hJx3
          clear hJx3
          gi_wp2_with fail
          refine bodyPost_ret (results_none rfl _ _ _) rfl ?_
          exact ⟨⟨_, rfl⟩, .inr ⟨_, ⟨_, by rw [List.append_assoc]; exact HPN.out⟩, HJX.out⟩⟩
    · obtain rfl : k = 101 := by omega
      have hdl : decide (((101 : Nat) : Int) < 101) = false := by simp
      have HPN : Aside0 (pre ++ ((⟨0, 2, 0⟩, ⟨x.t, x.f, x.a⟩) :: (chF x 6 0 ++ chT x 6 0)) = changesL x) := ⟨HP.out⟩
      obtain ⟨fn, tmps, assign, body, hy, hR⟩ := HY.out pre ((⟨0, 2, 0⟩, ⟨x.t, x.f, x.a⟩) : Chg) _ HJP.out (by rw [← HPN.out]; simp) ⟨_, by rw [List.append_assoc]; exact HPN.out⟩
      dsimp only [encG] at hy
      clear HP HJP
      gi_wp2_with fail
      refine hR.mono ?_
      rintro e W3 (⟨rfl, hJ3, hS3⟩ | ⟨rfl, hJx3⟩)
      · have HJ3 := Aside0.mk hJ3
        have HS3 := Aside0.mk (HS.out.trans hS3)
        clear hJ3 hS3 HS
        gi_wp2_with fail
        gi_loopw [39] (fun i wr => ∃ (k : Nat) (pre : List Chg), k ≤ 6 ∧ i = .int .i64 k ∧ Aside0 (pre ++ (chF x (6 - k) k ++ chT x 6 0) = changesL x) ∧ Aside0 (J pre wr) ∧ Aside0 (Sv (chP w.heap.size b) W wr)) (fun i _ => 6 - (intOf i).toNat)
        case atStart => exact ⟨0, pre ++ [((⟨0, 2, 0⟩, ⟨x.t, x.f, x.a⟩) : Chg)], by omega, rfl, ⟨by rw [List.append_assoc]; exact HPN.out⟩, HJ3, HS3⟩
        case round =>
          clear HPN HJ3 HS3 hq
          obtain ⟨k, pre, hk, rfl, HP, HJP, HS⟩ := hrel
          have hBr : Bx wr b #[.int .i64 (x).f, .int .i64 (x).t, .int .i64 (x).a] 101 := (HS.out.block b (.inr rfl)).trans HB.out
          have hq := hBr.cell
          have hbz := hBr.lt
          have HBR := Aside0.mk hBr
          clear hBr
          by_cases hlt : k < 6
          · have hdl : decide ((k : Int) < 6) = true := by simp; omega
            have hsub : 6 - k = (6 - (k + 1)) + 1 := by omega
            by_cases hnf : (k : Int) = x.f
            · have hnb : ((k : Int) != x.f) = false := by simp [hnf]
              have HPN : Aside0 (pre ++ (chF x (6 - (k + 1)) (k + 1) ++ chT x 6 0) = changesL x) := ⟨by have h := HP.out; rw [hsub, chF, if_neg (by simp [hnf])] at h; exact h⟩
              clear HP hsub hnf
              have hJ2 : J pre (wr.alloc (.cells #[.int .i64 (k : Int), .int .i64 x.t, .int .i64 x.a] 101)) := HJ.out _ _ _ none HJP.out (grown_of_below ((Up.refl wr).alloc _) none) (fun r e => by cases e)
              have HJ2 := Aside0.mk hJ2
              have HS2 : Aside0 (Sv (chP w.heap.size b) W (wr.alloc (.cells #[.int .i64 (k : Int), .int .i64 x.t, .int .i64 x.a] 101))) := ⟨HS.out.alloc _ (fun q hq => by have h8 := HS.out.size; have h9 := hW.le; rcases hq with h | h <;> omega)⟩
              clear hJ2 HJP HS
              gi_wp2_with fail
              refine ⟨(fun f hf => nomatch hf), ?_⟩
              gi_wp2_with fail
              go_roundw
              case rel => exact ⟨k + 1, pre, by omega, by go_num, HPN, HJ2, HS2⟩
              case measure => simp [intOf]; omega
            · have hnb : ((k : Int) != x.f) = true := by simp [hnf]
              by_cases hnt : (k : Int) = x.t
              · have hnb2 : ((k : Int) != x.t) = false := by simp [hnt]
                have HPN : Aside0 (pre ++ (chF x (6 - (k + 1)) (k + 1) ++ chT x 6 0) = changesL x) := ⟨by have h := HP.out; rw [hsub, chF, if_neg (by simp [hnt])] at h; exact h⟩
                clear HP hsub hnf hnt
                have hJ2 : J pre (wr.alloc (.cells #[.int .i64 (k : Int), .int .i64 x.t, .int .i64 x.a] 101)) := HJ.out _ _ _ none HJP.out (grown_of_below ((Up.refl wr).alloc _) none) (fun r e => by cases e)
                have HJ2 := Aside0.mk hJ2
                have HS2 : Aside0 (Sv (chP w.heap.size b) W (wr.alloc (.cells #[.int .i64 (k : Int), .int .i64 x.t, .int .i64 x.a] 101))) := ⟨HS.out.alloc _ (fun q hq => by have h8 := HS.out.size; have h9 := hW.le; rcases hq with h | h <;> omega)⟩
                clear hJ2 HJP HS
                gi_wp2_with fail
                refine ⟨(fun f hf => nomatch hf), ?_⟩
                gi_wp2_with fail
                go_roundw
                case rel => exact ⟨k + 1, pre, by omega, by go_num, HPN, HJ2, HS2⟩
                case measure => simp [intOf]; omega
              · have hnb2 : ((k : Int) != x.t) = true := by simp [hnt]
                have HPN : Aside0 (pre ++ ((⟨0, 3, k⟩, ⟨k, x.t, x.a⟩) :: (chF x (6 - (k + 1)) (k + 1) ++ chT x 6 0)) = changesL x) := ⟨by have h := HP.out; rw [hsub, chF, if_pos ⟨hnf, hnt⟩] at h; exact h⟩
                clear HP hsub hnf hnt
                have hJ2 : J pre (wr.alloc (.cells #[.int .i64 (k : Int), .int .i64 x.t, .int .i64 x.a] 101)) := HJ.out _ _ _ none HJP.out (grown_of_below ((Up.refl wr).alloc _) none) (fun r e => by cases e)
                have HS2 : Aside0 (Sv (chP w.heap.size b) W (wr.alloc (.cells #[.int .i64 (k : Int), .int .i64 x.t, .int .i64 x.a] 101))) := ⟨HS.out.alloc _ (fun q hq => by have h8 := HS.out.size; have h9 := hW.le; rcases hq with h | h <;> omega)⟩
                obtain ⟨fn, tmps, assign, body, hy, hR⟩ := HY.out pre (((⟨0, 3, k⟩, ⟨k, x.t, x.a⟩) : Chg)) _ hJ2 (by rw [← HPN.out]; simp) ⟨_, by rw [List.append_assoc]; exact HPN.out⟩
                dsimp only [encG] at hy
                clear hJ2 HJP HS
                gi_wp2_with fail
                refine hR.mono ?_
                rintro e W3 (⟨rfl, hJ3, hS3⟩ | ⟨rfl, hJx3⟩)
                · have HJ3 := Aside0.mk hJ3
                  have HS3 := Aside0.mk (HS2.out.trans hS3)
                  clear hJ3 hS3
                  gi_wp2_with fail
                  go_roundw
                  case rel => exact ⟨k + 1, pre ++ [((⟨0, 3, k⟩, ⟨k, x.t, x.a⟩) : Chg)], by omega, by go_num, ⟨by rw [List.append_assoc]; exact HPN.out⟩, HJ3, HS3⟩
                  case measure => simp [intOf]; omega
                · have HJX := Aside0.mk hJx3
                  clear hJx3
                  gi_wp2_with fail
                  refine bodyPost_ret (results_none rfl _ _ _) rfl ?_
                  exact ⟨⟨_, rfl⟩, .inr ⟨_, ⟨_, by rw [List.append_assoc]; exact HPN.out⟩, HJX.out⟩⟩
          · obtain rfl : k = 6 := by omega
            have hdl : decide (((6 : Nat) : Int) < 6) = false := by simp
            have hdl2 : decide ((6 : Int) < 6) = false := by simp
            have HPN : Aside0 (pre ++ chT x 6 0 = changesL x) := ⟨HP.out⟩
            clear HP
            gi_wp2_with fail
            rw [show (((6 : Nat) : Int)) = (6 : Int) from rfl]
            gi_loopw [64] (fun i wr => ∃ (k : Nat) (pre : List Chg), k ≤ 6 ∧ i = .int .i64 k ∧ Aside0 (pre ++ chT x (6 - k) k = changesL x) ∧ Aside0 (J pre wr) ∧ Aside0 (Sv (chP w.heap.size b) W wr)) (fun i _ => 6 - (intOf i).toNat)
            case atStart => exact ⟨0, pre, by omega, rfl, HPN, HJP, HS⟩
            case round =>
              clear HPN HJP HS hq HBR hbz
              obtain ⟨k, pre, hk, rfl, HP, HJP, HS⟩ := hrel
              have hBr : Bx wr b #[.int .i64 (x).f, .int .i64 (x).t, .int .i64 (x).a] 101 := (HS.out.block b (.inr rfl)).trans HB.out
              have hq := hBr.cell
              have hbz := hBr.lt
              have HBR := Aside0.mk hBr
              clear hBr
              by_cases hlt : k < 6
              · have hdl : decide ((k : Int) < 6) = true := by simp; omega
                have hsub : 6 - k = (6 - (k + 1)) + 1 := by omega
                by_cases hnf : (k : Int) = x.f
                · have hnb : ((k : Int) != x.f) = false := by simp [hnf]
                  have HPN : Aside0 (pre ++ chT x (6 - (k + 1)) (k + 1) = changesL x) := ⟨by have h := HP.out; rw [hsub, chT, if_neg (by simp [hnf])] at h; exact h⟩
                  clear HP hsub hnf
                  have hJ2 : J pre (wr.alloc (.cells #[.int .i64 x.f, .int .i64 (k : Int), .int .i64 x.a] 101)) := HJ.out _ _ _ none HJP.out (grown_of_below ((Up.refl wr).alloc _) none) (fun r e => by cases e)
                  have HJ2 := Aside0.mk hJ2
                  have HS2 : Aside0 (Sv (chP w.heap.size b) W (wr.alloc (.cells #[.int .i64 x.f, .int .i64 (k : Int), .int .i64 x.a] 101))) := ⟨HS.out.alloc _ (fun q hq => by have h8 := HS.out.size; have h9 := hW.le; rcases hq with h | h <;> omega)⟩
                  clear hJ2 HJP HS
                  gi_wp2_with fail
                  refine ⟨(fun f hf => nomatch hf), ?_⟩
                  gi_wp2_with fail
                  go_roundw
                  case rel => exact ⟨k + 1, pre, by omega, by go_num, HPN, HJ2, HS2⟩
                  case measure => simp [intOf]; omega
                · have hnb : ((k : Int) != x.f) = true := by simp [hnf]
                  by_cases hnt : (k : Int) = x.t
                  · have hnb2 : ((k : Int) != x.t) = false := by simp [hnt]
                    have HPN : Aside0 (pre ++ chT x (6 - (k + 1)) (k + 1) = changesL x) := ⟨by have h := HP.out; rw [hsub, chT, if_neg (by simp [hnt])] at h; exact h⟩
                    clear HP hsub hnf hnt
                    have hJ2 : J pre (wr.alloc (.cells #[.int .i64 x.f, .int .i64 (k : Int), .int .i64 x.a] 101)) := HJ.out _ _ _ none HJP.out (grown_of_below ((Up.refl wr).alloc _) none) (fun r e => by cases e)
                    have HJ2 := Aside0.mk hJ2
                    have HS2 : Aside0 (Sv (chP w.heap.size b) W (wr.alloc (.cells #[.int .i64 x.f, .int .i64 (k : Int), .int .i64 x.a] 101))) := ⟨HS.out.alloc _ (fun q hq => by have h8 := HS.out.size; have h9 := hW.le; rcases hq with h | h <;> omega)⟩
                    clear hJ2 HJP HS
                    gi_wp2_with fail
                    refine ⟨(fun f hf => nomatch hf), ?_⟩
                    gi_wp2_with fail
                    go_roundw
                    case rel => exact ⟨k + 1, pre, by omega, by go_num, HPN, HJ2, HS2⟩
                    case measure => simp [intOf]; omega
                  · have hnb2 : ((k : Int) != x.t) = true := by simp [hnt]
                    have HPN : Aside0 (pre ++ ((⟨0, 4, k⟩, ⟨x.f, k, x.a⟩) :: chT x (6 - (k + 1)) (k + 1)) = changesL x) := ⟨by have h := HP.out; rw [hsub, chT, if_pos ⟨hnf, hnt⟩] at h; exact h⟩
                    clear HP hsub hnf hnt
                    have hJ2 : J pre (wr.alloc (.cells #[.int .i64 x.f, .int .i64 (k : Int), .int .i64 x.a] 101)) := HJ.out _ _ _ none HJP.out (grown_of_below ((Up.refl wr).alloc _) none) (fun r e => by cases e)
                    have HS2 : Aside0 (Sv (chP w.heap.size b) W (wr.alloc (.cells #[.int .i64 x.f, .int .i64 (k : Int), .int .i64 x.a] 101))) := ⟨HS.out.alloc _ (fun q hq => by have h8 := HS.out.size; have h9 := hW.le; rcases hq with h | h <;> omega)⟩
                    obtain ⟨fn, tmps, assign, body, hy, hR⟩ := HY.out pre (((⟨0, 4, k⟩, ⟨x.f, k, x.a⟩) : Chg)) _ hJ2 (by rw [← HPN.out]; simp) ⟨_, by rw [List.append_assoc]; exact HPN.out⟩
                    dsimp only [encG] at hy
                    clear hJ2 HJP HS
                    gi_wp2_with fail
                    refine hR.mono ?_
                    rintro e W3 (⟨rfl, hJ3, hS3⟩ | ⟨rfl, hJx3⟩)
                    · have HJ3 := Aside0.mk hJ3
                      have HS3 := Aside0.mk (HS2.out.trans hS3)
                      clear hJ3 hS3
                      gi_wp2_with fail
                      go_roundw
                      case rel => exact ⟨k + 1, pre ++ [((⟨0, 4, k⟩, ⟨x.f, k, x.a⟩) : Chg)], by omega, by go_num, ⟨by rw [List.append_assoc]; exact HPN.out⟩, HJ3, HS3⟩
                      case measure => simp [intOf]; omega
                    · have HJX := Aside0.mk hJx3
                      clear hJx3
                      gi_wp2_with fail
                      refine bodyPost_ret (results_none rfl _ _ _) rfl ?_
                      exact ⟨⟨_, rfl⟩, .inr ⟨_, ⟨_, by rw [List.append_assoc]; exact HPN.out⟩, HJX.out⟩⟩
              · obtain rfl : k = 6 := by omega
                have HPN : Aside0 (pre = changesL x) := ⟨by have h := HP.out; simpa [chT] using h⟩
                clear HP
                gi_wp2_with fail
                go_end0
                exact ⟨⟨_, rfl⟩, .inl ⟨_, HPN.out, HJP.out⟩⟩
      · have HJX := Aside0.mk hJx3
        clear hJx3
        gi_wp2_with fail
        refine bodyPost_ret (results_none rfl _ _ _) rfl ?_
        exact ⟨⟨_, rfl⟩, .inr ⟨_, ⟨_, by rw [List.append_assoc]; exact HPN.out⟩, HJX.out⟩⟩
end Go.Proofs.Ytdlekcdedahbhaa
namespace Go.Proofs.Ytdlekcdedahbhaa
open Go.RowKit Go.Shelf Go.Proofs.YtdlekcdedahbhaaW.PrintWords
set_option linter.unusedVariables false
set_option linter.unusedSimpArgs false
attribute [local go_sem] Oper.semAt_some
theorem acc_ext (a b : Acc) : a = b ↔ a.get 0 = b.get 0 ∧ a.get 1 = b.get 1 ∧ a.get 2 = b.get 2 ∧ a.get 3 = b.get 3 ∧ a.get 4 = b.get 4 ∧ a.get 5 = b.get 5 := by
  obtain ⟨a0, a1, a2, a3, a4, a5⟩ := a
  obtain ⟨b0, b1, b2, b3, b4, b5⟩ := b
  simp [Acc.get]
set_option maxRecDepth 100000 in
theorem eqB_acc (a b : Acc) (w : World) : (Op.equal 135 (.agg #[.int .i64 (a).a0, .int .i64 (a).a1, .int .i64 (a).a2, .int .i64 (a).a3, .int .i64 (a).a4, .int .i64 (a).a5]) (.agg #[.int .i64 (b).a0, .int .i64 (b).a1, .int .i64 (b).a2, .int .i64 (b).a3, .int .i64 (b).a4, .int .i64 (b).a5])).run Try.prog w = .ok (decide (a = b)) w := by
  obtain ⟨i0, hi, hz0, hz1, hz2⟩ := info_parts info_int
  have hu := Try.underlying135
  show (Op.equalIn (9999 + 1) 135 (.agg #[.int .i64 (a).a0, .int .i64 (a).a1, .int .i64 (a).a2, .int .i64 (a).a3, .int .i64 (a).a4, .int .i64 (a).a5]) (.agg #[.int .i64 (b).a0, .int .i64 (b).a1, .int .i64 (b).a2, .int .i64 (b).a3, .int .i64 (b).a4, .int .i64 (b).a5])).run Try.prog w = _
  rw [run_equalIn_array (P := Try.prog) w 9999 #[.int .i64 (a).a0, .int .i64 (a).a1, .int .i64 (a).a2, .int .i64 (a).a3, .int .i64 (a).a4, .int .i64 (a).a5] #[.int .i64 (b).a0, .int .i64 (b).a1, .int .i64 (b).a2, .int .i64 (b).a3, .int .i64 (b).a4, .int .i64 (b).a5] hu hi]
  have hp : ∀ (c : Acc) (i : Nat), i < 6 → ∀ w : World, (part 3 #[.int .i64 (c).a0, .int .i64 (c).a1, .int .i64 (c).a2, .int .i64 (c).a3, .int .i64 (c).a4, .int .i64 (c).a5] (i * Try.prog.cellsOf 3)).run Try.prog w = .ok (.int .i64 (c.get i)) w := by
    intro c i hi w
    obtain rfl | rfl | rfl | rfl | rfl | rfl : i = 0 ∨ i = 1 ∨ i = 2 ∨ i = 3 ∨ i = 4 ∨ i = 5 := by omega
    all_goals kernel_rfl
  have he : ∀ (x y : Int) (w : World), (Op.equalIn 9999 3 (.int .i64 x) (.int .i64 y)).run Try.prog w = .ok (x == y) w := by
    intro x y w
    go_simp
  have hr : List.range 6 = [0, 1, 2, 3, 4, 5] := by decide
  have hs : ∀ (i : Nat) (is : List Nat) (w : World), i < 6 → (Op.eqItems 9999 3 (Try.prog.cellsOf 3) #[.int .i64 (a).a0, .int .i64 (a).a1, .int .i64 (a).a2, .int .i64 (a).a3, .int .i64 (a).a4, .int .i64 (a).a5] #[.int .i64 (b).a0, .int .i64 (b).a1, .int .i64 (b).a2, .int .i64 (b).a3, .int .i64 (b).a4, .int .i64 (b).a5] (i :: is)).run Try.prog w = if a.get i = b.get i then (Op.eqItems 9999 3 (Try.prog.cellsOf 3) #[.int .i64 (a).a0, .int .i64 (a).a1, .int .i64 (a).a2, .int .i64 (a).a3, .int .i64 (a).a4, .int .i64 (a).a5] #[.int .i64 (b).a0, .int .i64 (b).a1, .int .i64 (b).a2, .int .i64 (b).a3, .int .i64 (b).a4, .int .i64 (b).a5] is).run Try.prog w else .ok false w := by
    intro i is w hi
    simp only [Op.eqItems, Sem.run_bind, hp a i hi, hp b i hi, he, Result.andThen_ok]
    by_cases h : a.get i = b.get i
    · simp [h]
    · simp [h]
  have hd := acc_ext a b
  rw [hr, hs 0 _ _ (by omega), hs 1 _ _ (by omega), hs 2 _ _ (by omega), hs 3 _ _ (by omega), hs 4 _ _ (by omega), hs 5 _ _ (by omega)]
  simp only [Op.eqItems, Sem.run_pure]
  by_cases h0 : a = b
  · subst h0; simp
  · rw [decide_eq_false h0]
    have hn := fun h => h0 (hd.2 h)
    simp only [Int.natCast_zero, Int.natCast_one] at *
    (repeat' split) <;> first | rfl | (exfalso; apply hn; refine ⟨?_, ?_, ?_, ?_, ?_, ?_⟩ <;> assumption)
theorem eq_acc (a b : Acc) (w : World) : (binOp .eql 135 (.agg #[.int .i64 (a).a0, .int .i64 (a).a1, .int .i64 (a).a2, .int .i64 (a).a3, .int .i64 (a).a4, .int .i64 (a).a5]) (.agg #[.int .i64 (b).a0, .int .i64 (b).a1, .int .i64 (b).a2, .int .i64 (b).a3, .int .i64 (b).a4, .int .i64 (b).a5])).run Try.prog w = .ok (.bool (decide (a = b))) w := by
  simp [binOp, go_sem, eqB_acc a b w]
theorem changes_ (x : Ent) (w : World) :
    Calls Try.prog 75 #[.agg #[.int .i64 x.f, .int .i64 x.t, .int .i64 x.a]] w fun e w' => e = .returned (.func (.func 90) #[] #[.pointer (some ⟨w.heap.size, 0, none⟩)]) ∧ w' = w.alloc (.cells #[.int .i64 (x).f, .int .i64 (x).t, .int .i64 (x).a] 101) := by
  go_enter Try.func75, Try.ntmps75
  go_wp2_with fail
  go_ret
  exact ⟨rfl, rfl⟩
abbrev CG (x : Ent) : Type := { p : Chg // p ∈ changesL x }
theorem changes_stops (x : Ent) (b : Nat) (w : World) (hb : w.heap.size ≤ b) (W : World) (hW : Up w W) (hB : Bx W b #[.int .i64 (x).f, .int .i64 (x).t, .int .i64 (x).a] 101) :
    SeqStopsK Fence.wide 5 Try.prog 90 #[.pointer (some ⟨b, 0, none⟩)] (fun p : CG x => encG p.1) (Sv (chP w.heap.size b)) (fun ys => ys.map (·.1) = changesL x) (fun pre => True) (changesL x).length W := fun lp J Jx W' hW' hJ hJx hY hj => by
  refine (changes1_in x lp b w hb (fun pre W => ∃ q, q.map (·.1) = pre ∧ J q W) (fun pre W => ∃ q, q.map (·.1) = pre ∧ Jx q W) W' (hW.then hW') ?_ ?_ (hB.up hW') ⟨[], rfl, hj⟩).mono ?_
  · rintro s X Y row ⟨q, h1, h2⟩ hg2 hr2
    exact ⟨q, h1, hJ q X Y row h2 hg2 hr2⟩
  · rintro pre x W1 ⟨q, rfl, h2⟩ hlen hpre
    obtain ⟨fn, tmps, assign, body, hy, hR⟩ := hY q ⟨x, hpre.subset (by simp)⟩ W1 h2 (by simpa using hlen)
    refine ⟨fn, tmps, assign, body, hy, hR.mono ?_⟩
    rintro e W3 (⟨rfl, h3, h4⟩ | ⟨rfl, h3⟩)
    · exact .inl ⟨rfl, ⟨q ++ [⟨x, _⟩], by simp, h3⟩, h4⟩
    · exact .inr ⟨rfl, q ++ [⟨x, _⟩], by simp, h3⟩
  · rintro e W3 ⟨hv3, h⟩
    refine ⟨hv3, h.imp ?_ ?_⟩
    · rintro ⟨ys, rfl, q, h3, h4⟩
      exact ⟨q, h3, h4⟩
    · rintro ⟨pre, _, q, _, h4⟩
      exact ⟨q, trivial, h4⟩
theorem changes_bd (x : Ent) (hx : entB x = true) (p : Chg) (hp : p ∈ changesL x) : (0 ≤ p.2.f ∧ p.2.f ≤ 5) ∧ (0 ≤ p.2.t ∧ p.2.t ≤ 5) ∧ (-1 ≤ p.2.a ∧ p.2.a ≤ 100) := by
  have hb := (entB_iff x).1 hx
  have hA : ∀ (m k : Nat), k + m ≤ 101 → ∀ p ∈ chA x m k, (0 ≤ p.2.f ∧ p.2.f ≤ 5) ∧ (0 ≤ p.2.t ∧ p.2.t ≤ 5) ∧ (-1 ≤ p.2.a ∧ p.2.a ≤ 100) := by
    intro m
    induction m with
    | zero => intro k _ p hp; simp [chA] at hp
    | succ m ih =>
      intro k hk p hp
      rw [chA] at hp
      split at hp
      · rcases List.mem_cons.1 hp with rfl | hp
        · simp only; omega
        · exact ih (k + 1) (by omega) p hp
      · exact ih (k + 1) (by omega) p hp
  have hF : ∀ (m k : Nat), k + m ≤ 6 → ∀ p ∈ chF x m k, (0 ≤ p.2.f ∧ p.2.f ≤ 5) ∧ (0 ≤ p.2.t ∧ p.2.t ≤ 5) ∧ (-1 ≤ p.2.a ∧ p.2.a ≤ 100) := by
    intro m
    induction m with
    | zero => intro k _ p hp; simp [chF] at hp
    | succ m ih =>
      intro k hk p hp
      rw [chF] at hp
      split at hp
      · rcases List.mem_cons.1 hp with rfl | hp
        · simp only; omega
        · exact ih (k + 1) (by omega) p hp
      · exact ih (k + 1) (by omega) p hp
  have hT : ∀ (m k : Nat), k + m ≤ 6 → ∀ p ∈ chT x m k, (0 ≤ p.2.f ∧ p.2.f ≤ 5) ∧ (0 ≤ p.2.t ∧ p.2.t ≤ 5) ∧ (-1 ≤ p.2.a ∧ p.2.a ≤ 100) := by
    intro m
    induction m with
    | zero => intro k _ p hp; simp [chT] at hp
    | succ m ih =>
      intro k hk p hp
      rw [chT] at hp
      split at hp
      · rcases List.mem_cons.1 hp with rfl | hp
        · simp only; omega
        · exact ih (k + 1) (by omega) p hp
      · exact ih (k + 1) (by omega) p hp
  unfold changesL at hp
  rcases List.mem_append.1 hp with hp | hp
  · exact hA 101 0 (by omega) p hp
  · rcases List.mem_cons.1 hp with rfl | hp
    · simp only; omega
    · rcases List.mem_append.1 hp with hp | hp
      · exact hF 6 0 (by omega) p hp
      · exact hT 6 0 (by omega) p hp
def okS (want rest : Acc) (i : Nat) (ps : List Chg) : List Slp := (ps.filter fun p => decide (afterA rest p.2 = want)).map fun p => ⟨(i : Int), p.1.k, p.1.m⟩
def encSlp (p : Slp) : List Value := [.int .i64 p.e, .int .i64 p.k, .int .i64 p.m]
def turnE (x : Ent) : Ent := ⟨x.t, x.f, x.a⟩
def slipsTo (l : List Ent) (want : Acc) : Nat → List Slp
  | 0 => []
  | k + 1 => slipsTo l want k ++ okS want (afterA (allA l) (turnE (rdEnt l k))) k (changesL (rdEnt l k))
def slipsE (l : List Ent) (b : List Int) : Int := if readE l = 0 then (if balB b then (if allA l = balA b then 6 else if slipsTo l (balA b) l.length = [] then 7 else 0) else 4) else readE l
def slipsL (l : List Ent) (b : List Int) : List Slp := if slipsE l b = 0 then slipsTo l (balA b) l.length else []
theorem info_slip : (Try.prog.info? 70).map (fun i => (i.zero, i.size, i.bytes)) = some (some (.agg #[.int .i64 0, .int .i64 0, .int .i64 0]), 3, 24) := by kernel_rfl
structure SlipI (w : World) (B4 B7 B9 : Nat) (want now : Acc) (Ds : List Nat) (ss : List Slp) (W : World) : Prop where
  b4 : ∃ v, Boxed W B4 63 v ∧ W.ownsRow w.heap.size 70 3 v ss.length (ss.flatMap encSlp) ∧ (ss = [] → v = .slice none 0 0)
  b7 : Bx W B7 #[.int .i64 (want).a0, .int .i64 (want).a1, .int .i64 (want).a2, .int .i64 (want).a3, .int .i64 (want).a4, .int .i64 (want).a5] 135
  b9 : Bx W B9 #[.int .i64 (now).a0, .int .i64 (now).a1, .int .i64 (now).a2, .int .i64 (now).a3, .int .i64 (now).a4, .int .i64 (now).a5] 135
  up : Up w W
  h7 : w.heap.size < B7
  h9 : w.heap.size < B9
  ds : ∀ D ∈ Ds, w.heap.size < D ∧ W.heap[D]? = some (.deferred (some []))
theorem SlipI.dlt {w B4 B7 B9 want now Ds ss W} (h : SlipI w B4 B7 B9 want now Ds ss W) : ∀ D ∈ Ds, D < W.heap.size := fun D hD => (Array.getElem?_eq_some_iff.1 (h.ds D hD).2).1
theorem SlipI.more {w B4 B7 B9 want now Ds ss W W'} (h : SlipI w B4 B7 B9 want now Ds ss W) (hu : Up W W') : SlipI w B4 B7 B9 want now Ds ss W' := by
  obtain ⟨v, h1, h2, h3⟩ := h.b4
  exact ⟨⟨v, (show Bx W B4 #[v] _ from h1).up hu, own_up h2 hu, h3⟩, h.b7.up hu, h.b9.up hu, h.up.then hu, h.h7, h.h9, fun D hD => ⟨(h.ds D hD).1, (hu.block D (h.dlt D hD)).trans (h.ds D hD).2⟩⟩
theorem SlipI.own {w B4 B7 B9 want now Ds ss A B row} (B1 : Nat) (hd : ∀ D ∈ Ds, D < B1) (hB : w.heap.size ≤ B1) (h : SlipI w B4 B7 B9 want now Ds ss A) (hg : A.grownBy B row) (hr : ∀ r, row = some r → B1 ≤ r ∧ ∃ o : Obj, A.heap[r]? = some o ∧ o.isCells = false) : SlipI w B4 B7 B9 want now Ds ss B := by
  obtain ⟨v, h1, h2, h3⟩ := h.b4
  have hr2 : ∀ r, row = some r → ∃ o : Obj, A.heap[r]? = some o ∧ o.isCells = false := fun r e => (hr r e).2
  refine ⟨⟨v, Bx.own (show Bx A B4 #[v] _ from h1) hg hr2, ?_, h3⟩, h.b7.own hg hr2, h.b9.own hg hr2, Below.grown h.up hg h.up.size (fun k e => Nat.le_trans hB (hr k e).1), h.h7, h.h9, fun D hD => ⟨(h.ds D hD).1, ?_⟩⟩
  · refine h2.kept hg ?_
    rcases h2.2 with ⟨rfl, _⟩ | ⟨g, cap, cur, rfl, _, hgb, _⟩
    · exact .inl rfl
    · refine .inr fun e => ?_
      obtain ⟨o, ho, hc⟩ := hr2 g (by simpa [Value.ownBlock] using e.symm)
      rw [hgb] at ho
      cases ho
      cases hc
  · refine (hg.block D (h.dlt D hD) (fun e => ?_)).trans (h.ds D hD).2
    have h5 := (hr D e.symm).1
    have h6 := hd D hD
    omega
theorem Sv.grown {p : Nat → Prop} {W W' : World} {row : Option Nat} (hg : W.grownBy W' row) (hlt : ∀ k, p k → k < W.heap.size) (hne : ∀ k, p k → some k ≠ row) : Sv p W W' :=
  ⟨hg.os, hg.tape, hg.output, hg.size, fun k hk => hg.block k (hlt k hk) (hne k hk)⟩
theorem Bx.not_row {W : World} {B : Nat} {C : Array Value} {T : TypeId} (h : Bx W B C T) {base e s k : Nat} {v : Value} {xs : List Value} (ht : e ≠ T) (hr : W.ownsRow base e s v k xs) : v.ownBlock ≠ some B := by
  rcases hr.2 with ⟨rfl, _⟩ | ⟨g, cap, cur, rfl, _, hgb, _⟩
  · simp [Value.ownBlock]
  · intro e'
    obtain rfl : g = B := by simpa [Value.ownBlock] using e'
    have h9 := (show W.heap[g]? = _ from h).symm.trans hgb
    simp at h9
    exact ht h9.2.symm
theorem upKeeps {X X' : World} (h : Up X X') : KeepsOthers X X' := ⟨h.size, fun k o hk _ => (h.block k (Array.getElem?_eq_some_iff.1 hk).1).trans hk⟩
theorem own_miss {W : World} {base e size n : Nat} {v : Value} {xs : List Value} (h : W.ownsRow base e size v n xs) (B : Nat) (hne : v.ownBlock ≠ some B) (o : Nat) (u : Value) : (W.setCell ⟨B, o, none⟩ u).ownsRow base e size v n xs := by
  have hg : W.grownBy (W.setCell ⟨B, o, none⟩ u) (some B) := by
    have hb0 := Below.setCell (B := 0) (Below.refl 0 W) (p := ⟨B, o, none⟩) (Nat.zero_le _) u
    exact ⟨hb0.os, hb0.tape, hb0.output, hb0.size, fun k _ hk => Below.heap_setCell W ⟨B, o, none⟩ u k (fun e => hk (by rw [e]))⟩
  refine h.kept hg ?_
  rcases h.2 with ⟨rfl, _⟩ | ⟨g, cap, cur, rfl, _, hgb, _⟩
  · exact .inl rfl
  · exact .inr hne
theorem SlipI.set {w B4 B7 B9 want now Ds ss W} (h : SlipI w B4 B7 B9 want now Ds ss W) (B : Nat) (hB : w.heap.size ≤ B) (h4 : B4 ≠ B) (h7 : B7 ≠ B) (h9 : B9 ≠ B) (hne : ∀ v, Boxed W B4 63 v → v.ownBlock ≠ some B) (o : Nat) (u : Value) : SlipI w B4 B7 B9 want now Ds ss (W.setCell ⟨B, o, none⟩ u) := by
  obtain ⟨v, h1, h2, h3⟩ := h.b4
  exact ⟨⟨v, Bx.far (show Bx W B4 #[v] _ from h1) h4 _ _, own_miss h2 B (hne v h1) o u, h3⟩, h.b7.far h7 _ _, h.b9.far h9 _ _, h.up.set _ _ hB, h.h7, h.h9, fun D hD => ⟨(h.ds D hD).1, (KeepsOthers.setCell W ⟨B, o, none⟩ u).same D _ (h.ds D hD).2 rfl⟩⟩
theorem slipI_app {w V1 w3 : World} {B4 B7 B9 : Nat} {want now : Acc} {Ds : List Nat} {ss : List Slp} {v v' : Value} (h : SlipI w B4 B7 B9 want now Ds ss V1) (p : Slp) (tmp : Obj) (hv : Boxed V1 B4 63 v) (hrow : V1.ownsRow w.heap.size 70 3 v ss.length (ss.flatMap encSlp))
    (hgrow : (V1.alloc tmp).grownBy w3 v.ownBlock) (hown : w3.ownsRow w.heap.size 70 3 v' (ss.length + 1) (ss.flatMap encSlp ++ encSlp p)) (hB4 : w.heap.size = B4) :
    SlipI w B4 B7 B9 want now Ds (ss ++ [p]) (w3.setCell ⟨B4, 0, none⟩ v') ∧ KeepsOthers V1 (w3.setCell ⟨B4, 0, none⟩ v') ∧ (∀ B C T, Bx V1 B C T → 70 ≠ T → B ≠ B4 → Bx (w3.setCell ⟨B4, 0, none⟩ v') B C T) ∧ V1.heap.size ≤ (w3.setCell ⟨B4, 0, none⟩ v').heap.size ∧ Boxed w3 B4 63 v := by
  obtain ⟨hA1, hA2, hA3, hA4, hA5⟩ := Boxed.appended (n₀ := w.heap.size) hv (by decide) hrow h.up.size (by omega) hown hgrow
  have hbx : ∀ B C T, Bx V1 B C T → 70 ≠ T → B ≠ B4 → Bx (w3.setCell ⟨B4, 0, none⟩ v') B C T := fun B C T hb ht hn =>
    ((hb.up ((Up.refl V1).alloc tmp)).grown (own_up hrow ((Up.refl V1).alloc tmp)) ht hgrow).far hn _ _
  refine ⟨⟨⟨v', hA2, by rw [List.length_append, List.flatMap_append]; simpa using hA3, fun h => by simp at h⟩, hbx _ _ _ h.b7 (by decide) (by have := h.h7; omega), hbx _ _ _ h.b9 (by decide) (by have := h.h9; omega), ?_, h.h7, h.h9, fun D hD => ⟨(h.ds D hD).1, hA4.same D _ (h.ds D hD).2 rfl⟩⟩, hA4, hbx, hA4.size, hA1⟩
  exact Below.trans h.up hA5
theorem okS_snoc (want rest : Acc) (i : Nat) (ps : List Chg) (p : Chg) : okS want rest i (ps ++ [p]) = okS want rest i ps ++ if afterA rest p.2 = want then [⟨(i : Int), p.1.k, p.1.m⟩] else [] := by
  unfold okS
  rw [List.filter_append, List.map_append]
  by_cases h : afterA rest p.2 = want
  · simp [h]
  · simp [h]
theorem okS_len (want rest : Acc) (i : Nat) (ps : List Chg) : (okS want rest i ps).length ≤ ps.length := by
  unfold okS
  rw [List.length_map]
  exact List.length_filter_le _ _
theorem changesL_len (x : Ent) : (changesL x).length ≤ 114 := by
  have hA : ∀ (m k : Nat), (chA x m k).length ≤ m := by
    intro m
    induction m with
    | zero => intro k; simp [chA]
    | succ m ih =>
      intro k
      have := ih (k + 1)
      rw [chA]
      split <;> (try simp only [List.length_cons]) <;> omega
  have hF : ∀ (m k : Nat), (chF x m k).length ≤ m := by
    intro m
    induction m with
    | zero => intro k; simp [chF]
    | succ m ih =>
      intro k
      have := ih (k + 1)
      rw [chF]
      split <;> (try simp only [List.length_cons]) <;> omega
  have hT : ∀ (m k : Nat), (chT x m k).length ≤ m := by
    intro m
    induction m with
    | zero => intro k; simp [chT]
    | succ m ih =>
      intro k
      have := ih (k + 1)
      rw [chT]
      split <;> (try simp only [List.length_cons]) <;> omega
  have h1 := hA 101 0
  have h2 := hF 6 0
  have h3 := hT 6 0
  unfold changesL
  simp only [List.length_append, List.length_cons]
  omega
theorem slipsTo_len (l : List Ent) (want : Acc) : ∀ k, (slipsTo l want k).length ≤ 114 * k
  | 0 => by simp [slipsTo]
  | k + 1 => by
    have h1 := slipsTo_len l want k
    have h2 := okS_len want (afterA (allA l) (turnE (rdEnt l k))) k (changesL (rdEnt l k))
    have h3 := changesL_len (rdEnt l k)
    rw [slipsTo, List.length_append]
    omega
theorem leaves_coll {F : Fence} {n B : Nat} {P : Program} {fn : Func} {tmps : Array Value} {R : Ending → World → Prop} (Pr : World → Prop) (hP : ∀ (W : World) (D : Nat), B ≤ D → Pr W → W.heap[D]? = some (.deferred (some [])) → Pr (W.putObj D (.deferred none))) (hfin : ∀ W, Pr W → LeavesInM F n P fn tmps R [] .returning W) :
    ∀ (Ds : List Nat) (W : World), (∀ D ∈ Ds, B ≤ D ∧ W.heap[D]? = some (.deferred (some []))) → Ds.Nodup → Pr W → LeavesInM F n P fn tmps R (Ds.map fun D => { target := .collected D, args := #[] }) .returning W
  | [], W, _, _, h => hfin W h
  | D :: Ds, W, hD, hn, h => by
    have h0 := hD D (List.mem_cons_self ..)
    refine ⟨by simp, .inl ⟨D, _, rfl, run_takeDeferred h0.2, ?_⟩⟩
    refine leaves_coll Pr hP hfin Ds _ (fun D' h' => ?_) (List.nodup_cons.1 hn).2 (hP W D h0.1 h h0.2)
    have hne : D' ≠ D := fun e => (List.nodup_cons.1 hn).1 (e ▸ h')
    have h1 := hD D' (List.mem_cons_of_mem _ h')
    exact ⟨h1.1, (World.putObj_heap_other hne).trans h1.2⟩
theorem slips_fin {w W : World} {B7 B9 : Nat} {want now : Acc} {Ds : List Nat} {ss : List Slp} {val : Value} {n : Nat} {fn : Func} {tmps : Array Value} {R : Ending → World → Prop} (h : SlipI w w.heap.size B7 B9 want now Ds ss W) (hb : Boxed W w.heap.size 63 val) (hnd : Ds.Nodup)
    (hres : ∀ W' : World, W'.cell? ⟨w.heap.size, 0, none⟩ = some val → W'.ownsRow w.heap.size 70 3 val ss.length (ss.flatMap encSlp) → Up w W' → ∃ v, (results fn tmps).run Try.prog W' = .ok v W' ∧ R (.returned v) W') :
    LeavesInM Fence.wide n Try.prog fn tmps R (Ds.map fun D => { target := .collected D, args := #[] }) .returning (W.setCell ⟨w.heap.size, 0, none⟩ val) := by
  obtain ⟨v, g1, g2, g3⟩ := h.b4
  have e : v = val := by
    have h8 := (show W.heap[w.heap.size]? = _ from g1).symm.trans hb
    simpa using h8
  subst e
  have hne := Boxed.not_row g1 (by decide) g2
  have hb' : Boxed (W.setCell ⟨w.heap.size, 0, none⟩ v) w.heap.size 63 v := Bx.set (show Bx W w.heap.size #[v] _ from g1) 0 v
  have hI' : SlipI w w.heap.size B7 B9 want now [] ss (W.setCell ⟨w.heap.size, 0, none⟩ v) := ⟨⟨v, hb', own_miss g2 _ (fun e => hne e.symm) 0 v, g3⟩, h.b7.far (by have := h.h7; omega) _ _, h.b9.far (by have := h.h9; omega) _ _, h.up.set _ _ (Nat.le_refl _), h.h7, h.h9, fun D hD => by simp at hD⟩
  refine leaves_coll (B := w.heap.size) (fun W' => SlipI w w.heap.size B7 B9 want now [] ss W' ∧ Boxed W' w.heap.size 63 v) ?_ ?_ Ds _ ?_ hnd ⟨hI', hb'⟩
  · rintro W' D hBD ⟨a1, a2⟩ hD
    have hO : OwnFrom w.heap.size (fun (_ : Unit) (W' : World) => SlipI w w.heap.size B7 B9 want now [] ss W' ∧ Boxed W' w.heap.size 63 v) := fun s A B row hs hg hr => ⟨hs.1.own w.heap.size (fun D hD => by simp at hD) (Nat.le_refl _) hg hr, Bx.own (show Bx A w.heap.size #[v] _ from hs.2) hg (fun r e => (hr r e).2)⟩
    exact hO.putObj (s := ()) _ ⟨a1, a2⟩ hBD hD rfl
  · rintro W' ⟨a1, a2⟩
    obtain ⟨v2, k1, k2, _⟩ := a1.b4
    have e2 : v2 = v := by
      have h8 := (show W'.heap[w.heap.size]? = _ from k1).symm.trans a2
      simpa using h8
    subst e2
    exact hres W' a2.cell k2 a1.up
  · intro D hD
    exact ⟨Nat.le_of_lt (h.ds D hD).1, (KeepsOthers.setCell W ⟨w.heap.size, 0, none⟩ v).same D _ (h.ds D hD).2 rfl⟩
set_option maxRecDepth 100000 in
set_option maxHeartbeats 4000000 in
theorem slips_ok (A : Option Addr) (c : Nat) (l : List Ent) (A2 : Option Addr) (c2 : Nat) (b : List Int) (w : World) (hr : Kd.C kEnt w A l.length l) (hc : l.length ≤ c) (hr2 : Kd.C (Kd.int .i64) w A2 b.length b) (hc2 : b.length ≤ c2)
    (h1 : readE l = 0) (h2 : balB b = true) (h3 : allA l ≠ balA b) :
    Calls Try.prog 36 #[.slice A l.length c, .slice A2 b.length c2] w fun e w' => ∃ v, e = .returned (.tuple #[v, .int .i64 (slipsE l b)]) ∧ w'.ownsRow w.heap.size 70 3 v (slipsTo l (balA b) l.length).length ((slipsTo l (balA b) l.length).flatMap encSlp) ∧ Up w w' := by
  refine (callsIn_wide (n := 6)).1 ?_
  refine callsIn_of_wp_marks Try.func36 rfl trivial ?_ rfl
  simp only [Try.ntmps36, List.size_toArray, List.length_cons, List.length_nil, Nat.reduceAdd, Nat.reduceSub, Array.replicate_succ, Array.replicate_zero, List.push_toArray, List.append_toArray, List.nil_append, List.cons_append]
  have hm := CF_len hr
  have HR := Aside0.mk hr
  have HR2 := Aside0.mk hr2
  have hb1 : (readE l != 0) = false := by simp [h1]
  have HL := Aside0.mk (chk_of l (read_of l h1).1).2
  have hn := (chk_of l (read_of l h1).1).1
  have HBD := Aside0.mk (balA_bd b h2)
  have H2 := Aside0.mk h2
  have hae := eq_acc
  obtain ⟨want, hw⟩ : ∃ a, a = balA b := ⟨_, rfl⟩
  have hneq : decide (allA l = want) = false := by rw [hw]; exact decide_eq_false h3
  rw [← hw] at HBD
  have HW := Aside0.mk hw
  have H1 := Aside0.mk h1
  clear hr hr2 h1 h2 h3 hw
  gi_wp2_with fail
  refine ⟨trivial, (callsIn_wide.2 (read_ A c l _ (C_up HR.out upA) hc)).mono ?_⟩
  rintro e w1 ⟨rfl, hu1⟩
  have HU1 := Aside0.mk hu1
  clear hu1
  gi_wp2_with fail
  refine ⟨trivial, (callsIn_wide.2 (HW.out ▸ H2.out ▸ bal_ A2 c2 b _ (C_up HR2.out upA) hc2)).mono ?_⟩
  rintro e w2 ⟨rfl, hu2⟩
  have HU2 := Aside0.mk hu2
  clear hu2
  gi_wp2_with fail
  refine ⟨trivial, (callsIn_wide.2 (all_ A c l _ (C_up HR.out upA) hc HL.out (by omega))).mono ?_⟩
  rintro e w3 ⟨rfl, hu3⟩
  have HU3 := Aside0.mk hu3
  have hB7 : Bx w3 w2.heap.size #[.int .i64 (want).a0, .int .i64 (want).a1, .int .i64 (want).a2, .int .i64 (want).a3, .int .i64 (want).a4, .int .i64 (want).a5] 135 := (Bx.new w2 _ _).up hu3
  have hq7 : ∀ (C : Obj) o, (w3.alloc C).cell? ⟨w2.heap.size, o, none⟩ = (#[.int .i64 (want).a0, .int .i64 (want).a1, .int .i64 (want).a2, .int .i64 (want).a3, .int .i64 (want).a4, .int .i64 (want).a5] : Array Value)[o]? := fun C o => (hB7.up ((Up.refl _).alloc C)).cell o
  have HB7 := Aside0.mk hB7
  clear hu3 hB7
  obtain ⟨now, hnow⟩ : ∃ a, a = allA l := ⟨_, rfl⟩
  rw [← hnow] at hneq
  have HNOW := Aside0.mk hnow
  rw [← hnow]
  clear hnow
  gi_wp2_with fail
  have hI0 : SlipI w w.heap.size w2.heap.size w3.heap.size want now [] [] (w3.alloc (.cells #[.int .i64 (now).a0, .int .i64 (now).a1, .int .i64 (now).a2, .int .i64 (now).a3, .int .i64 (now).a4, .int .i64 (now).a5] 135)) := by
    refine ⟨⟨.slice none 0 0, ?_, own_nil _ _ _ _, fun _ => rfl⟩, HB7.out.up ((Up.refl _).alloc _), Bx.new w3 _ _, ?_, ?_, ?_, fun D hD => by simp at hD⟩
    · exact (((((Bx.new w #[.slice none 0 0] 63).up HU1.out).up HU2.out).up ((Up.refl _).alloc _)).up HU3.out).up ((Up.refl _).alloc _)
    · exact (((((Up.refl w).alloc _).then HU1.out).then HU2.out).alloc _ |>.then HU3.out).alloc _
    · have q1 := HU1.out.le; have q2 := HU2.out.le; simp at q1; omega
    · have q1 := HU1.out.le; have q2 := HU2.out.le; have q3 := HU3.out.le; simp at q1 q3; omega
  have HI0 := Aside0.mk hI0
  obtain ⟨B7, hB7e⟩ : ∃ B7, w2.heap.size = B7 := ⟨_, rfl⟩
  obtain ⟨B9, hB9e⟩ : ∃ B9, w3.heap.size = B9 := ⟨_, rfl⟩
  rw [hB7e, hB9e] at HI0
  rw [hB7e, hB9e]
  clear hI0 hB7e hB9e hq7 HB7
  refine wpIn_loop (fun a' W => ∃ (k : Nat) (Ds : List Nat), ∃ u0 u1 u2 u3 u5 u6 u8 u10 u11 u12 u13 u14 u15 u16 u17 u18 u19 u20 u21 u22 u23 u24 u25 u26 u27 u28 u29 u30 u31 u32 u33 u37 u38 u39 u40 u41 u42 u43 u44 u45 u46 u47 u48 u49 u50 u51 u52 u53 u54 u55 u56 u57 u58 u59 u60 u61 u62 u63 u64 u65 u66 u67 u68 : Value, (k ≤ l.length ∧ Aside0 (SlipI w w.heap.size B7 B9 want now Ds (slipsTo l want k) W) ∧ Aside0 Ds.Nodup) ∧ a' = { tmps := #[u0, u1, u2, u3, .pointer (some ⟨w.heap.size, 0, none⟩), u5, u6, .pointer (some ⟨B7, 0, none⟩), u8, .pointer (some ⟨B9, 0, none⟩), u10, u11, u12, u13, u14, u15, u16, u17, u18, u19, u20, u21, u22, u23, u24, u25, u26, u27, u28, u29, u30, u31, u32, u33, .slice A l.length c, .int .i64 (l.length : Int), .int .i64 (k : Int), u37, u38, u39, u40, u41, u42, u43, u44, u45, u46, u47, u48, u49, u50, u51, u52, u53, u54, u55, u56, u57, u58, u59, u60, u61, u62, u63, u64, u65, u66, u67, u68], defers := Ds.map (fun D => { target := .collected D, args := #[] }) }) (fun a' _ => l.length - (intOf (a'.tmps.getD 36 undef)).toNat) ?_ ?_
  · refine ⟨0, [], ?_⟩
    (repeat apply Exists.intro)
    refine ⟨?_, rfl⟩
    exact ⟨Nat.zero_le _, HI0, ⟨List.nodup_nil⟩⟩
  · rintro a' W ⟨k, Ds, u0, u1, u2, u3, u5, u6, u8, u10, u11, u12, u13, u14, u15, u16, u17, u18, u19, u20, u21, u22, u23, u24, u25, u26, u27, u28, u29, u30, u31, u32, u33, u37, u38, u39, u40, u41, u42, u43, u44, u45, u46, u47, u48, u49, u50, u51, u52, u53, u54, u55, u56, u57, u58, u59, u60, u61, u62, u63, u64, u65, u66, u67, u68, ⟨hk, hI, hnd⟩, rfl⟩
    dsimp only
    have hup := hI.out.up
    by_cases hlt : k < l.length
    · obtain ⟨ad, e, hx0, hx1, hx2⟩ := at_Ent (C_up HR.out hup) k (by omega) (by omega)
      cases e
      simp only [Int.toNat_natCast] at hx0 hx1 hx2
      have hi0 : (0 : Int) ≤ (k : Int) := by omega
      have hi1 : (k : Int) < (l.length : Int) := by omega
      have hdl : decide ((k : Int) < (l.length : Int)) = true := by simp; omega
      have HX := Aside0.mk (List.all_eq_true.1 HL.out _ (rdEnt_mem l k (by omega) (by omega)))
      have hxb := (entB_iff _).1 HX.out
      have hnb : AccB 2400 now := by
        have h9 := allA_bd l HL.out l.length (Nat.le_refl _)
        rw [List.take_length] at h9
        rw [HNOW.out]
        exact h9.mono (by omega)
      have HNB := Aside0.mk hnb
      have hST : slipsTo l want (k + 1) = slipsTo l want k ++ okS want (afterA now (turnE (rdEnt l k))) k (changesL (rdEnt l k)) := by rw [HNOW.out]; rfl
      have HST := Aside0.mk hST
      obtain ⟨ss, hss⟩ : ∃ ss, ss = slipsTo l want k := ⟨_, rfl⟩
      rw [← hss] at HST hI
      have HSS := Aside0.mk hss
      generalize rdEnt l k = x at *
      have hcall := after_ now (turnE x) ((W.alloc (.cells #[.int .i64 (k : Int)] 3)).alloc (.cells #[.int .i64 (x).f, .int .i64 (x).t, .int .i64 (x).a] 101)) (hnb.mono (by omega)) hxb.2.1 hxb.1 (by simp only [turnE]; omega)
      simp only [turnE] at hcall
      have hq9 : ∀ (C D : Obj) o, ((W.alloc C).alloc D).cell? ⟨B9, o, none⟩ = (#[.int .i64 (now).a0, .int .i64 (now).a1, .int .i64 (now).a2, .int .i64 (now).a3, .int .i64 (now).a4, .int .i64 (now).a5] : Array Value)[o]? := fun C D o => ((hI.out.b9.up ((Up.refl W).alloc C)).up ((Up.refl _).alloc D)).cell o
      have hu2 := Try.underlying101
      clear hST hss hnb
      gi_wp2_with fail
      refine ⟨trivial, (callsIn_wide.2 hcall).mono ?_⟩
      clear hcall
      rintro e w4 ⟨rfl, hu4⟩
      have hq11 : ∀ (C : Obj) o, (w4.alloc C).cell? ⟨W.heap.size + 1, o, none⟩ = (#[.int .i64 (x).f, .int .i64 (x).t, .int .i64 (x).a] : Array Value)[o]? := fun C o => by
        have h9 := Bx.new (W.alloc (.cells #[.int .i64 (k : Int)] 3)) #[.int .i64 (x).f, .int .i64 (x).t, .int .i64 (x).a] 101
        simp only [World.size_alloc] at h9
        exact ((h9.up hu4).up ((Up.refl _).alloc C)).cell o
      have HU4 : Aside0 (Up W w4) := ⟨(((Up.refl W).alloc _).alloc _).then hu4⟩
      have HB10 : Aside0 (Bx w4 W.heap.size #[.int .i64 (k : Int)] 3) := ⟨((Bx.new W _ _).up ((Up.refl _).alloc _)).up hu4⟩
      clear hu4 hx0 hx1 hx2 hq9
      rw [show afterA now ⟨x.t, x.f, x.a⟩ = afterA now (turnE x) from rfl]
      obtain ⟨rest, hrest⟩ : ∃ a, a = afterA now (turnE x) := ⟨_, rfl⟩
      rw [← hrest] at HST
      rw [← hrest]
      have HREST := Aside0.mk hrest
      clear hrest
      gi_wp2_with fail
      refine ⟨trivial, (callsIn_wide.2 (changes_ x _)).mono ?_⟩
      rintro e w5 ⟨rfl, rfl⟩
      gi_wp2_with fail
      have hww := HU4.out.le
      have hwW := hup.le
      have hdlt : ∀ D ∈ Ds, D < w4.heap.size := fun D hD => Nat.lt_of_lt_of_le (hI.out.dlt D hD) hww
      have hWR : Up W ((w4.alloc (.cells #[.int .i64 (rest).a0, .int .i64 (rest).a1, .int .i64 (rest).a2, .int .i64 (rest).a3, .int .i64 (rest).a4, .int .i64 (rest).a5] 135)).alloc (.cells #[.int .i64 (x).f, .int .i64 (x).t, .int .i64 (x).a] 101)) := (HU4.out.alloc _).alloc _
      have hR0 : Bx ((w4.alloc (.cells #[.int .i64 (rest).a0, .int .i64 (rest).a1, .int .i64 (rest).a2, .int .i64 (rest).a3, .int .i64 (rest).a4, .int .i64 (rest).a5] 135)).alloc (.cells #[.int .i64 (x).f, .int .i64 (x).t, .int .i64 (x).a] 101)) w4.heap.size #[.int .i64 (rest).a0, .int .i64 (rest).a1, .int .i64 (rest).a2, .int .i64 (rest).a3, .int .i64 (rest).a4, .int .i64 (rest).a5] 135 := (Bx.new w4 _ _).up ((Up.refl _).alloc _)
      have hX0 : Bx ((w4.alloc (.cells #[.int .i64 (rest).a0, .int .i64 (rest).a1, .int .i64 (rest).a2, .int .i64 (rest).a3, .int .i64 (rest).a4, .int .i64 (rest).a5] 135)).alloc (.cells #[.int .i64 (x).f, .int .i64 (x).t, .int .i64 (x).a] 101)) (w4.heap.size + 1) #[.int .i64 (x).f, .int .i64 (x).t, .int .i64 (x).a] 101 := by
        have h9 := Bx.new (w4.alloc (.cells #[.int .i64 (rest).a0, .int .i64 (rest).a1, .int .i64 (rest).a2, .int .i64 (rest).a3, .int .i64 (rest).a4, .int .i64 (rest).a5] 135)) #[.int .i64 (x).f, .int .i64 (x).t, .int .i64 (x).a] 101
        simpa using h9
      have h10 : Bx ((w4.alloc (.cells #[.int .i64 (rest).a0, .int .i64 (rest).a1, .int .i64 (rest).a2, .int .i64 (rest).a3, .int .i64 (rest).a4, .int .i64 (rest).a5] 135)).alloc (.cells #[.int .i64 (x).f, .int .i64 (x).t, .int .i64 (x).a] 101)) W.heap.size #[.int .i64 (k : Int)] 3 := (HB10.out.up ((Up.refl _).alloc _)).up ((Up.refl _).alloc _)
      have hIR := hI.out.more hWR
      have hszR : ((w4.alloc (.cells #[.int .i64 (rest).a0, .int .i64 (rest).a1, .int .i64 (rest).a2, .int .i64 (rest).a3, .int .i64 (rest).a4, .int .i64 (rest).a5] 135)).alloc (.cells #[.int .i64 (x).f, .int .i64 (x).t, .int .i64 (x).a] 101)).heap.size = w4.heap.size + 2 := by simp
      generalize hWRe : (w4.alloc (.cells #[.int .i64 (rest).a0, .int .i64 (rest).a1, .int .i64 (rest).a2, .int .i64 (rest).a3, .int .i64 (rest).a4, .int .i64 (rest).a5] 135)).alloc (.cells #[.int .i64 (x).f, .int .i64 (x).t, .int .i64 (x).a] 101) = WR at *
      obtain ⟨i0, hi0, hk0, hk1, hk2⟩ := info_parts info_slip
      clear hq11
      refine wpIn_rangeFunc_ownH (F := Fence.wide) rfl (by decide) (gf := 90) (lb := #[.pointer (some ⟨w4.heap.size + 1, 0, none⟩)]) rfl trivial (enters_of Try.func90 (by kernel_rfl) rfl)
        (changes_stops x (w4.heap.size + 1) w (by omega) WR (hup.then hWR) hX0) Sv.trans
        (fun X q o o' hq _ _ _ => Sv.put X q o' (by simp only [chP]; omega)) (Below.refl _ _) (fun _ => rfl)
        (fun pre X => SlipI w w.heap.size B7 B9 want now Ds (ss ++ okS want rest k (pre.map (·.1))) X ∧ (Bx X W.heap.size #[.int .i64 (k : Int)] 3 ∧ Bx X w4.heap.size #[.int .i64 (rest).a0, .int .i64 (rest).a1, .int .i64 (rest).a2, .int .i64 (rest).a3, .int .i64 (rest).a4, .int .i64 (rest).a5] 135 ∧ Bx X (w4.heap.size + 1) #[.int .i64 (x).f, .int .i64 (x).t, .int .i64 (x).a] 101) ∧ w4.heap.size + 2 ≤ X.heap.size)
        (fun q pre X => False)
        (fun s A B row hs hg hr => ⟨hs.1.own WR.heap.size (fun D hD => by have := hdlt D hD; omega) (by omega) hg hr, ⟨hs.2.1.1.own hg (fun r e => (hr r e).2), hs.2.1.2.1.own hg (fun r e => (hr r e).2), hs.2.1.2.2.own hg (fun r e => (hr r e).2)⟩, Nat.le_trans hs.2.2 hg.size⟩)
        (fun q s A B row hs _ _ => hs.elim)
        ⟨by simpa [okS] using hIR, ⟨h10, hR0, hX0⟩, by omega⟩
        (fun y a' X => ∃ (Bq : Nat), ∃ v0 v1 v2 v3 v5 v6 v8 v11 v15 v16 v17 v18 v19 v20 v21 v22 v23 v24 v25 v26 v27 v28 v29 v30 v31 v32 v33 v34 v35 v36 v37 v38 v39 v40 v41 v42 v43 v44 v45 v46 v47 v48 v49 v50 v51 v52 v53 v54 v55 v56 v57 v58 v59 v60 v61 v62 v63 v64 v65 v66 v67 v68 : Value, a' = { tmps := #[v0, v1, v2, v3, .pointer (some ⟨w.heap.size, 0, none⟩), v5, v6, .pointer (some ⟨B7, 0, none⟩), v8, .pointer (some ⟨B9, 0, none⟩), .pointer (some ⟨W.heap.size, 0, none⟩), v11, .pointer (some ⟨w4.heap.size, 0, none⟩), .pointer (some ⟨Bq, 0, none⟩), .pointer (some ⟨Bq + 1, 0, none⟩), v15, v16, v17, v18, v19, v20, v21, v22, v23, v24, v25, v26, v27, v28, v29, v30, v31, v32, v33, v34, v35, v36, v37, v38, v39, v40, v41, v42, v43, v44, v45, v46, v47, v48, v49, v50, v51, v52, v53, v54, v55, v56, v57, v58, v59, v60, v61, v62, v63, v64, v65, v66, v67, v68], defers := [] } ∧ w4.heap.size + 2 ≤ Bq ∧ Bx X Bq #[.int .i64 y.1.1.e, .int .i64 y.1.1.k, .int .i64 y.1.1.m] 70 ∧ Bx X (Bq + 1) #[.int .i64 (y.1.2).f, .int .i64 (y.1.2).t, .int .i64 (y.1.2).a] 101 ∧ ∀ v, Boxed X w.heap.size 63 v → v.ownBlock ≠ some Bq)
        (fun y a' => (fun s A B row hs hg hr => by obtain ⟨Bq, v0, v1, v2, v3, v5, v6, v8, v11, v15, v16, v17, v18, v19, v20, v21, v22, v23, v24, v25, v26, v27, v28, v29, v30, v31, v32, v33, v34, v35, v36, v37, v38, v39, v40, v41, v42, v43, v44, v45, v46, v47, v48, v49, v50, v51, v52, v53, v54, v55, v56, v57, v58, v59, v60, v61, v62, v63, v64, v65, v66, v67, v68, h1, h2, h3, h4, h5⟩ := hs; exact ⟨Bq, v0, v1, v2, v3, v5, v6, v8, v11, v15, v16, v17, v18, v19, v20, v21, v22, v23, v24, v25, v26, v27, v28, v29, v30, v31, v32, v33, v34, v35, v36, v37, v38, v39, v40, v41, v42, v43, v44, v45, v46, v47, v48, v49, v50, v51, v52, v53, v54, v55, v56, v57, v58, v59, v60, v61, v62, v63, v64, v65, v66, v67, v68, h1, h2, h3.own hg (fun r e => (hr r e).2), h4.own hg (fun r e => (hr r e).2), fun v hv => h5 v ((hg.block w.heap.size (by have := h3.lt; omega) (fun e => by have := (hr w.heap.size e.symm).1; omega)).symm.trans hv)⟩))
        ?assign ?body ?done ?stop
      case stop =>
        rintro D q pre X hD hpre h
        exact h.elim
      case assign =>
        rintro q pre y X K ⟨hIx, hBs, hz⟩ hK
        dsimp only [encG]
        gi_wp2_with fail
        refine hK _ _ ?k1 ?k2 ?k3 ?k4
        case k1 => exact ((KeepsOthers.alloc _ _).trans (KeepsOthers.alloc _ _)).from _
        case k2 => exact ((Sv.refl _ X).alloc _ (fun q hq => by simp only [chP] at hq; omega)).alloc _ (fun q hq => by simp only [chP] at hq; simp; omega)
        case k3 => exact ⟨hIx.more (((Up.refl X).alloc _).alloc _), ⟨hBs.1.up (((Up.refl X).alloc _).alloc _), hBs.2.1.up (((Up.refl X).alloc _).alloc _), hBs.2.2.up (((Up.refl X).alloc _).alloc _)⟩, by simp; omega⟩
        case k4 =>
          refine ⟨X.heap.size, ?_⟩
          (repeat apply Exists.intro)
          refine ⟨rfl, hz, (Bx.new X _ _).up ((Up.refl _).alloc _), ?_, fun v hv => ?_⟩
          rotate_left
          · obtain ⟨v0, g1, g2, _⟩ := hIx.b4
            have g3 := (show Bx X w.heap.size #[v0] _ from g1).up (((Up.refl X).alloc (.cells #[.int .i64 y.1.1.e, .int .i64 y.1.1.k, .int .i64 y.1.1.m] 70)).alloc (.cells #[.int .i64 (y.1.2).f, .int .i64 (y.1.2).t, .int .i64 (y.1.2).a] 101))
            have g4 : v0 = v := by
              have h8 := (show _ = some (Obj.cells #[v0] 63 (0, 0)) from g3).symm.trans hv
              simpa using h8
            subst g4
            rcases g2.2 with ⟨rfl, _⟩ | ⟨g, cap, cur, rfl, _, hgb, _⟩
            · simp [Value.ownBlock]
            · have := (Array.getElem?_eq_some_iff.1 hgb).1
              simp [Value.ownBlock]
              omega
          have h9 := Bx.new (X.alloc (.cells #[.int .i64 y.1.1.e, .int .i64 y.1.1.k, .int .i64 y.1.1.m] 70)) #[.int .i64 (y.1.2).f, .int .i64 (y.1.2).t, .int .i64 (y.1.2).a] 101
          simpa using h9
      case body =>
        rintro q pre y a' X hq _ ⟨hIx, hBs, hz⟩ ⟨Bq, v0, v1, v2, v3, v5, v6, v8, v11, v15, v16, v17, v18, v19, v20, v21, v22, v23, v24, v25, v26, v27, v28, v29, v30, v31, v32, v33, v34, v35, v36, v37, v38, v39, v40, v41, v42, v43, v44, v45, v46, v47, v48, v49, v50, v51, v52, v53, v54, v55, v56, v57, v58, v59, v60, v61, v62, v63, v64, v65, v66, v67, v68, rfl, hBq, hS, hE, hvq⟩ hN
        dsimp only
        have hyb := changes_bd x HX.out y.1 y.2
        have hrb : AccB 2600 rest := by rw [HREST.out]; exact (HNB.out.after (m := 100) _ (by simp only [turnE]; omega)).mono (by omega)
        have HRB := Aside0.mk (hrb.mono (m := 1000000) (by omega))
        have hr1 := hBs.2.1.cell
        have hr2 := hE.cell
        have hr3 := hIx.b7.cell
        have hl1 := hBs.2.1.lt
        have hl5 := hBs.2.2.lt
        have hl2 := hE.lt
        have hl3 := hIx.b7.lt
        have hl4 := hS.lt
        obtain ⟨sq, hsq⟩ : ∃ s, s = ss ++ okS want rest k (pre.map (·.1)) := ⟨_, rfl⟩
        rw [← hsq] at hIx
        have HSQ := Aside0.mk hsq
        clear hsq
        have HIX := Aside0.mk hIx
        have HBS := Aside0.mk hBs
        have HS := Aside0.mk hS
        have HVQ := Aside0.mk hvq
        have HHE := Aside0.mk hE
        clear hrb hIx hBs hS hE hvq
        gi_wp2_with fail
        gi_region_with (refine ⟨trivial, (CallsIn.inRound _ (callsIn_wide.2 (after_ rest y.1.2 _ HRB.out hyb.1 hyb.2.1 (by omega)))).mono ?_⟩; rintro e w' ⟨rfl, hb⟩; have hr3' : ∀ o, w'.cell? ⟨B7, o, none⟩ = (#[.int .i64 (want).a0, .int .i64 (want).a1, .int .i64 (want).a2, .int .i64 (want).a3, .int .i64 (want).a4, .int .i64 (want).a5] : Array Value)[o]? := (fun o => (hb.old.1 _ o (by simp; omega)).trans (hr3 o)); have hbA := Aside0.mk hb; clear hb)
        all_goals
          have HUX : Aside0 (Up X w') := ⟨((Up.refl X).drew).then hbA.out⟩
          obtain ⟨v, hv0, hrow0, hnil0⟩ := HIX.out.b4
          have hvne := HVQ.out v hv0
          have hI2 := HIX.out.more HUX.out
          have hsz2 := HUX.out.le
          have hqw := hI2.h7
          have hqw9 := hI2.h9
          have hb7l := HIX.out.b7.lt
          have hb9l := HIX.out.b9.lt
          have HI2 := Aside0.mk hI2
          clear hr1 hr2 hr3 hr3' hI2
          have hln : sq.length ≤ 10000 := by
            rw [HSQ.out]
            have q1 := slipsTo_len l want k
            rw [← HSS.out] at q1
            have q2 := okS_len want rest k (pre.map (·.1))
            have q3 := changesL_len x
            rw [List.length_map] at q2
            rw [List.length_append]
            omega
          by_cases hc : afterA rest y.1.2 = want
          · have HC := Aside0.mk hc
            have hI1 := HI2.out.set Bq (by omega) (by omega) (by have := hI.out.b7.lt; omega) (by have := hI.out.b9.lt; omega) (fun v' hv' => by
              have h8 := (Bx.up (show Bx X w.heap.size #[v] _ from hv0) HUX.out).symm.trans hv'
              have h7 : v = v' := by simpa using h8
              rw [← h7]; exact hvne) 0 (.int .i64 (k : Int))
            have hv1 : Boxed (w'.setCell ⟨Bq, 0, none⟩ (.int .i64 (k : Int))) w.heap.size 63 v := Bx.far (Bx.up (show Bx X w.heap.size #[v] _ from hv0) HUX.out) (by omega) _ _
            have hrow1 := own_miss (own_up hrow0 HUX.out) Bq hvne 0 (.int .i64 (k : Int))
            have hxrow := (Bx.not_row HBS.out.2.2 (by decide) hrow0)
            have hqS1 : ∀ o, (w'.setCell ⟨Bq, 0, none⟩ (.int .i64 (k : Int))).cell? ⟨Bq, o, none⟩ = (#[.int .i64 (k : Int), .int .i64 y.1.1.k, .int .i64 y.1.1.m] : Array Value)[o]? := fun o => ((HS.out.up HUX.out).set 0 (.int .i64 (k : Int))).cell o
            have hqS := (HS.out.up HUX.out).cell
            have hfS := (HS.out.up HUX.out).frozen
            have hq10 := (HBS.out.1.up HUX.out).cell
            have hq4 : (w'.setCell ⟨Bq, 0, none⟩ (.int .i64 (k : Int))).cell? ⟨w.heap.size, 0, none⟩ = some v := hv1.cell
            have HI1 := Aside0.mk hI1
            have HV1 := Aside0.mk hv1
            have HROW1 := Aside0.mk hrow1
            clear hI1 hv1 hrow1 hv0 hrow0
            gi_wp2_with (gi_at_builtin; refine wpListIn_append_own _ rfl _ _ 63 rfl w.heap.size 70 i0 _ 3 24 Try.underlying63 hi0 hk0 hk1 hk2 rfl (by decide) v sq.length (sq.flatMap encSlp) rfl (own_up HROW1.out ((Up.refl _).alloc _)) ⟨w'.heap.size, 0, none⟩ 1 1 [.int .i64 (k : Int), .int .i64 y.1.1.k, .int .i64 y.1.1.m] (by first | rfl | go_simp) rfl ?qc2 ?qc3 ?qc4 ?qc5 ?qc6 ?_)
            case qc2 =>
              intro j u hu
              match j, hu with
              | 0, hu => simp at hu; subst hu; simp [go_sem]
              | 1, hu => simp at hu; subst hu; simp [go_sem]
              | 2, hu => simp at hu; subst hu; simp [go_sem]
            case qc3 => intro u hu; simp at hu; rcases hu with rfl | rfl | rfl <;> rfl
            case qc4 => unfold maxLen; omega
            case qc5 => omega
            case qc6 => have q1 := HIX.out.up.le; simp; omega
            intro v' w3 hown hgrow _
            obtain ⟨g, cap, rfl⟩ := ownsRow_succ hown
            have hqW1 := hI.out.h7
            have hqW2 := hI.out.b7.lt
            obtain ⟨hA1, hA2, hA3, hA4, hA5⟩ := slipI_app HI1.out ⟨(k : Int), y.1.1.k, y.1.1.m⟩ _ HV1.out HROW1.out hgrow hown rfl
            have hsv : Sv (chP w.heap.size (w4.heap.size + 1)) X (w3.setCell ⟨w.heap.size, 0, none⟩ (.slice (some ⟨g, 0, none⟩) (sq.length + 1) cap)) := by
              refine Sv.set ((((HUX.out.sv ?_).set _ _ ?_).alloc _ ?_).trans (Sv.grown hgrow ?_ ?_)) _ _ ?_
              · intro q hq; simp only [chP] at hq; omega
              · simp only [chP]; omega
              · intro q hq; simp only [chP] at hq; simp; omega
              · intro q hq; simp only [chP] at hq; simp; omega
              · intro q hq e
                have q1 := own_base HROW1.out q e.symm
                simp only [chP] at hq
                rcases hq with hq | hq
                · omega
                · exact hxrow (e.symm.trans (by rw [hq]))
              · simp only [chP]; omega
            have hK9 : KeepsOthers X (w3.setCell ⟨w.heap.size, 0, none⟩ (.slice (some ⟨g, 0, none⟩) (sq.length + 1) cap)) := ((upKeeps HUX.out).trans (KeepsOthers.setCell w' ⟨Bq, 0, none⟩ _)).trans hA2
            have hb1 := hA3 _ _ _ ((HBS.out.1.up HUX.out).far (B' := Bq) (by omega) 0 (.int .i64 (k : Int))) (by decide) (by omega)
            have hb2 := hA3 _ _ _ ((HBS.out.2.1.up HUX.out).far (B' := Bq) (by omega) 0 (.int .i64 (k : Int))) (by decide) (by omega)
            have hb3 := hA3 _ _ _ ((HBS.out.2.2.up HUX.out).far (B' := Bq) (by omega) 0 (.int .i64 (k : Int))) (by decide) (by omega)
            have hcv := hA5.cell
            have hfv := hA5.frozen
            simp only [World.size_setCell] at hA4
            have H1 := Aside0.mk hA1
            have H2' := Aside0.mk hK9
            have H3 := Aside0.mk hsv
            have HB1 := Aside0.mk hb1
            have HB2 := Aside0.mk hb2
            have HB3 := Aside0.mk hb3
            clear hA1 hA2 hA3 hA5 hown hgrow hsv hK9 hb1 hb2 hb3 hqS1 hqS hfS hq10 hq4
            gi_wp2_with fail
            refine ⟨H2'.out.from _, H3.out, ?_, ⟨HB1.out, HB2.out, HB3.out⟩, by simp only [World.size_setCell]; omega⟩
            have h9 := H1.out
            rw [List.map_append, List.map_cons, List.map_nil, okS_snoc, if_pos HC.out, ← List.append_assoc, ← HSQ.out]
            exact h9
          · have HC := Aside0.mk hc
            clear hv0 hrow0
            gi_wp2_with fail
            refine ⟨(upKeeps HUX.out).from _, HUX.out.sv (fun q hq => by simp only [chP] at hq; omega), ?_, ⟨HBS.out.1.up HUX.out, HBS.out.2.1.up HUX.out, HBS.out.2.2.up HUX.out⟩, by omega⟩
            have h9 := HI2.out
            rw [List.map_append, List.map_cons, List.map_nil, okS_snoc, if_neg HC.out, List.append_nil, ← HSQ.out]
            exact h9
      case done =>
        rintro D ys X hD hys ⟨hIx, hBs, hz⟩ hK
        have HIX := Aside0.mk hIx
        have HYS := Aside0.mk hys
        have HK := Aside0.mk hK
        clear hIx hys hK hBs
        gi_wp2_with fail
        refine ⟨⟨k + 1, D :: Ds, ?_⟩, ?_⟩
        · (repeat apply Exists.intro)
          refine ⟨⟨by omega, ⟨?slip⟩, ⟨?nodup⟩⟩, ?eq⟩
          rotate_left 2
          case slip =>
            have h9 := HIX.out
            rw [HYS.out, ← HST.out] at h9
            refine ⟨h9.b4, h9.b7, h9.b9, h9.up, h9.h7, h9.h9, fun D' h' => ?_⟩
            rcases List.mem_cons.1 h' with rfl | h'
            · exact ⟨by omega, HK.out⟩
            · exact h9.ds D' h'
          case nodup => exact List.nodup_cons.2 ⟨fun h' => by have q1 := hdlt D h'; omega, hnd.out⟩
          case eq =>
            rw [show ((k : Int) + 1) = ((k + 1 : Nat) : Int) from by omega]
            rfl
        · simp [intOf]; omega
    · obtain rfl : k = l.length := by omega
      have hdl : decide ((l.length : Int) < (l.length : Int)) = false := by simp
      obtain ⟨v, g1, g2, g3⟩ := hI.out.b4
      have hq4 : W.cell? ⟨w.heap.size, 0, none⟩ = some v := g1.cell
      have hf4 : W.frozen? ⟨w.heap.size, 0, none⟩ = false := g1.frozen
      have q63 : ∀ (w : World) (a : Option Addr) (n c n' c' : Nat), (binOp .eql 63 (.slice a n c) (.slice none n' c')).run Try.prog w = .ok (.bool a.isNone) w := fun w a n c n' c' => Lib.run_eql_slice_nil w _ _ a n c n' c' Try.underlying63
      have hsE : slipsE l b = if slipsTo l want l.length = [] then 7 else 0 := by
        unfold slipsE
        rw [if_pos H1.out, if_pos H2.out, if_neg (by rw [← HNOW.out, ← HW.out]; exact of_decide_eq_false hneq), ← HW.out]
      have HSE := Aside0.mk hsE
      by_cases hz : slipsTo l want l.length = []
      · obtain rfl := g3 hz
        have HZ := Aside0.mk hz
        have G1 := Aside0.mk g1
        have G2 := Aside0.mk g2
        clear hz g1 g2 g3 hsE
        gi_wp2_with fail
        refine slips_fin hI.out G1.out hnd.out ?_
        intro W' hc' ho' hu'
        refine ⟨.tuple #[_, .int .i64 (slipsE l b)], ?_, _, rfl, by rw [← HW.out]; exact ho', hu'⟩
        rw [HSE.out, if_pos HZ.out]
        simp [results, Try.results36, go_sem, hc']
      · have hv : ∃ g cap, v = .slice (some ⟨g, 0, none⟩) (slipsTo l want l.length).length cap := by
          rcases g2.2 with ⟨rfl, h0⟩ | ⟨g, cap, cur, rfl, _⟩
          · exact absurd (List.eq_nil_of_length_eq_zero h0) hz
          · exact ⟨g, cap, rfl⟩
        obtain ⟨g, cap, rfl⟩ := hv
        have HZ := Aside0.mk hz
        have G1 := Aside0.mk g1
        have G2 := Aside0.mk g2
        clear hz g1 g2 g3 hsE
        gi_wp2_with fail
        refine slips_fin hI.out G1.out hnd.out ?_
        intro W' hc' ho' hu'
        refine ⟨.tuple #[_, .int .i64 (slipsE l b)], ?_, _, rfl, by rw [← HW.out]; exact ho', hu'⟩
        rw [HSE.out, if_neg HZ.out]
        simp [results, Try.results36, go_sem, hc']
end Go.Proofs.Ytdlekcdedahbhaa
namespace Go.Proofs.Ytdlekcdedahbhaa
open Go.RowKit Go.Shelf Go.Proofs.YtdlekcdedahbhaaW.PrintWords
set_option linter.unusedVariables false
set_option linter.unusedSimpArgs false
attribute [local go_sem] Oper.semAt_some
set_option maxRecDepth 100000 in
set_option maxHeartbeats 4000000 in
theorem slips_err (A : Option Addr) (c : Nat) (l : List Ent) (A2 : Option Addr) (c2 : Nat) (b : List Int) (w : World) (hr : Kd.C kEnt w A l.length l) (hc : l.length ≤ c) (hr2 : Kd.C (Kd.int .i64) w A2 b.length b) (hc2 : b.length ≤ c2)
    (h : readE l ≠ 0 ∨ balB b = false ∨ allA l = balA b) :
    Calls Try.prog 36 #[.slice A l.length c, .slice A2 b.length c2] w fun e w' => e = .returned (.tuple #[.slice none 0 0, .int .i64 (slipsE l b)]) ∧ Up w w' := by
  refine (callsIn_wide (n := 6)).1 ?_
  refine callsIn_of_wp_marks Try.func36 rfl trivial ?_ rfl
  simp only [Try.ntmps36, List.size_toArray, List.length_cons, List.length_nil, Nat.reduceAdd, Nat.reduceSub, Array.replicate_succ, Array.replicate_zero, List.push_toArray, List.append_toArray, List.nil_append, List.cons_append]
  have HR := Aside0.mk hr
  have HR2 := Aside0.mk hr2
  have hae := eq_acc
  clear hr hr2
  by_cases h1 : readE l = 0
  · skip
    have hb1 : (readE l != 0) = false := by simp [h1]
    have HL := Aside0.mk (chk_of l (read_of l h1).1).2
    have hn := (chk_of l (read_of l h1).1).1
    have H1 := Aside0.mk h1
    obtain ⟨want, hw⟩ : ∃ a, a = balA b := ⟨_, rfl⟩
    have HW := Aside0.mk hw
    cases h2 : balB b
    · have HE := Aside0.mk (show slipsE l b = 4 by simp [slipsE, h1, h2])
      have H2 := Aside0.mk h2
      clear h1 h2 hw h
      gi_wp2_with fail
      refine ⟨trivial, (callsIn_wide.2 (read_ A c l _ (C_up HR.out upA) hc)).mono ?_⟩
      rintro e w1 ⟨rfl, hu1⟩
      have HU1 := Aside0.mk hu1
      clear hu1
      gi_wp2_with fail
      refine ⟨trivial, (callsIn_wide.2 (HW.out ▸ H2.out ▸ bal_ A2 c2 b _ (C_up HR2.out upA) hc2)).mono ?_⟩
      rintro e w2 ⟨rfl, hu2⟩
      have HU2 := Aside0.mk hu2
      clear hu2
      gi_wp2_with fail
      refine ⟨trivial, (callsIn_wide.2 (all_ A c l _ (C_up HR.out upA) hc HL.out (by omega))).mono ?_⟩
      rintro e w3 ⟨rfl, hu3⟩
      have HU3 := Aside0.mk hu3
      clear hu3
      obtain ⟨now, hnow⟩ : ∃ a, a = allA l := ⟨_, rfl⟩
      have HNOW := Aside0.mk hnow
      rw [← hnow]
      clear hnow
      have HB4 : Aside0 (Bx w3 w.heap.size #[.slice none 0 0] 63) := ⟨((((Bx.new w #[.slice none 0 0] 63).up HU1.out).up HU2.out).up ((Up.refl _).alloc (.cells #[.int .i64 (want).a0, .int .i64 (want).a1, .int .i64 (want).a2, .int .i64 (want).a3, .int .i64 (want).a4, .int .i64 (want).a5] 135))).up HU3.out⟩
      have hq4 : ∀ (C : Obj) o, (w3.alloc C).cell? ⟨w.heap.size, o, none⟩ = (#[.slice none 0 0] : Array Value)[o]? := fun C o => (HB4.out.up ((Up.refl _).alloc C)).cell o
      have hf4 : ∀ (C : Obj) o, (w3.alloc C).frozen? ⟨w.heap.size, o, none⟩ = false := fun C o => (HB4.out.up ((Up.refl _).alloc C)).frozen o
      gi_wp2_with fail
      have hb4 := (Bx.set (((((((Bx.new w #[.slice none 0 0] 63).up HU1.out).up HU2.out).up ((Up.refl _).alloc (.cells #[.int .i64 (want).a0, .int .i64 (want).a1, .int .i64 (want).a2, .int .i64 (want).a3, .int .i64 (want).a4, .int .i64 (want).a5] 135))).up HU3.out).up ((Up.refl _).alloc (.cells #[.int .i64 (now).a0, .int .i64 (now).a1, .int .i64 (now).a2, .int .i64 (now).a3, .int .i64 (now).a4, .int .i64 (now).a5] 135)))) 0 (.slice none 0 0)).cell
      have hup4 := ((((((((Up.refl w).alloc (.cells #[.slice none 0 0] 63)).then HU1.out).then HU2.out).alloc (.cells #[.int .i64 (want).a0, .int .i64 (want).a1, .int .i64 (want).a2, .int .i64 (want).a3, .int .i64 (want).a4, .int .i64 (want).a5] 135)).then HU3.out).alloc (.cells #[.int .i64 (now).a0, .int .i64 (now).a1, .int .i64 (now).a2, .int .i64 (now).a3, .int .i64 (now).a4, .int .i64 (now).a5] 135)).set ⟨w.heap.size, 0, none⟩ (.slice none 0 0) (Nat.le_refl _))
      refine ⟨.tuple #[.slice none 0 0, .int .i64 (slipsE l b)], ?_, rfl, hup4⟩
      rw [HE.out]
      have h0 := hb4 0
      simp [results, Try.results36, go_sem, h0]
    · have h3 : allA l = balA b := by simpa [h1, h2] using h
      have HE := Aside0.mk (show slipsE l b = 6 by simp [slipsE, h1, h2, h3])
      have H2 := Aside0.mk h2
      have hneq : decide (allA l = want) = true := by rw [hw]; exact decide_eq_true h3
      clear h1 h2 hw h h3
      gi_wp2_with fail
      refine ⟨trivial, (callsIn_wide.2 (read_ A c l _ (C_up HR.out upA) hc)).mono ?_⟩
      rintro e w1 ⟨rfl, hu1⟩
      have HU1 := Aside0.mk hu1
      clear hu1
      gi_wp2_with fail
      refine ⟨trivial, (callsIn_wide.2 (HW.out ▸ H2.out ▸ bal_ A2 c2 b _ (C_up HR2.out upA) hc2)).mono ?_⟩
      rintro e w2 ⟨rfl, hu2⟩
      have HU2 := Aside0.mk hu2
      clear hu2
      gi_wp2_with fail
      refine ⟨trivial, (callsIn_wide.2 (all_ A c l _ (C_up HR.out upA) hc HL.out (by omega))).mono ?_⟩
      rintro e w3 ⟨rfl, hu3⟩
      have HU3 := Aside0.mk hu3
      clear hu3
      have hB7 : Bx w3 w2.heap.size #[.int .i64 (want).a0, .int .i64 (want).a1, .int .i64 (want).a2, .int .i64 (want).a3, .int .i64 (want).a4, .int .i64 (want).a5] 135 := (Bx.new w2 _ _).up HU3.out
      have hq7 : ∀ (C : Obj) o, (w3.alloc C).cell? ⟨w2.heap.size, o, none⟩ = (#[.int .i64 (want).a0, .int .i64 (want).a1, .int .i64 (want).a2, .int .i64 (want).a3, .int .i64 (want).a4, .int .i64 (want).a5] : Array Value)[o]? := fun C o => (hB7.up ((Up.refl _).alloc C)).cell o
      clear hB7
      obtain ⟨now, hnow⟩ : ∃ a, a = allA l := ⟨_, rfl⟩
      rw [← hnow] at hneq
      have HNOW := Aside0.mk hnow
      rw [← hnow]
      clear hnow
      have HB4 : Aside0 (Bx w3 w.heap.size #[.slice none 0 0] 63) := ⟨((((Bx.new w #[.slice none 0 0] 63).up HU1.out).up HU2.out).up ((Up.refl _).alloc (.cells #[.int .i64 (want).a0, .int .i64 (want).a1, .int .i64 (want).a2, .int .i64 (want).a3, .int .i64 (want).a4, .int .i64 (want).a5] 135))).up HU3.out⟩
      have hq4 : ∀ (C : Obj) o, (w3.alloc C).cell? ⟨w.heap.size, o, none⟩ = (#[.slice none 0 0] : Array Value)[o]? := fun C o => (HB4.out.up ((Up.refl _).alloc C)).cell o
      have hf4 : ∀ (C : Obj) o, (w3.alloc C).frozen? ⟨w.heap.size, o, none⟩ = false := fun C o => (HB4.out.up ((Up.refl _).alloc C)).frozen o
      gi_wp2_with fail
      have hb4 := (Bx.set (((((((Bx.new w #[.slice none 0 0] 63).up HU1.out).up HU2.out).up ((Up.refl _).alloc (.cells #[.int .i64 (want).a0, .int .i64 (want).a1, .int .i64 (want).a2, .int .i64 (want).a3, .int .i64 (want).a4, .int .i64 (want).a5] 135))).up HU3.out).up ((Up.refl _).alloc (.cells #[.int .i64 (now).a0, .int .i64 (now).a1, .int .i64 (now).a2, .int .i64 (now).a3, .int .i64 (now).a4, .int .i64 (now).a5] 135)))) 0 (.slice none 0 0)).cell
      have hup4 := ((((((((Up.refl w).alloc (.cells #[.slice none 0 0] 63)).then HU1.out).then HU2.out).alloc (.cells #[.int .i64 (want).a0, .int .i64 (want).a1, .int .i64 (want).a2, .int .i64 (want).a3, .int .i64 (want).a4, .int .i64 (want).a5] 135)).then HU3.out).alloc (.cells #[.int .i64 (now).a0, .int .i64 (now).a1, .int .i64 (now).a2, .int .i64 (now).a3, .int .i64 (now).a4, .int .i64 (now).a5] 135)).set ⟨w.heap.size, 0, none⟩ (.slice none 0 0) (Nat.le_refl _))
      refine ⟨.tuple #[.slice none 0 0, .int .i64 (slipsE l b)], ?_, rfl, hup4⟩
      rw [HE.out]
      have h0 := hb4 0
      simp [results, Try.results36, go_sem, h0]
  · have hb1 : (readE l != 0) = true := by simp [h1]
    have HE := Aside0.mk (show slipsE l b = readE l by simp [slipsE, h1])
    clear h1 h
    gi_wp2_with fail
    refine ⟨trivial, (callsIn_wide.2 (read_ A c l _ (C_up HR.out upA) hc)).mono ?_⟩
    rintro e w1 ⟨rfl, hu1⟩
    have HU1 := Aside0.mk hu1
    clear hu1
    have hq4 := ((Bx.new w #[.slice none 0 0] 63).up HU1.out).cell
    have hf4 := ((Bx.new w #[.slice none 0 0] 63).up HU1.out).frozen
    gi_wp2_with fail
    have hb4 := (Bx.set ((Bx.new w #[.slice none 0 0] 63).up HU1.out) 0 (.slice none 0 0)).cell
    have hup4 := (((Up.refl w).alloc (.cells #[.slice none 0 0] 63)).then HU1.out).set ⟨w.heap.size, 0, none⟩ (.slice none 0 0) (Nat.le_refl _)
    refine ⟨.tuple #[.slice none 0 0, .int .i64 (slipsE l b)], ?_, rfl, hup4⟩
    rw [HE.out]
    have h0 := hb4 0
    simp [results, Try.results36, go_sem, h0]
theorem slips_ (A : Option Addr) (c : Nat) (l : List Ent) (A2 : Option Addr) (c2 : Nat) (b : List Int) (w : World) (hr : Kd.C kEnt w A l.length l) (hc : l.length ≤ c) (hr2 : Kd.C (Kd.int .i64) w A2 b.length b) (hc2 : b.length ≤ c2) :
    Calls Try.prog 36 #[.slice A l.length c, .slice A2 b.length c2] w fun e w' => ∃ v, e = .returned (.tuple #[v, .int .i64 (slipsE l b)]) ∧ w'.ownsRow w.heap.size 70 3 v (slipsL l b).length ((slipsL l b).flatMap encSlp) ∧ Up w w' := by
  by_cases h : readE l ≠ 0 ∨ balB b = false ∨ allA l = balA b
  · refine (slips_err A c l A2 c2 b w hr hc hr2 hc2 h).mono ?_
    rintro e w' ⟨rfl, hu⟩
    have he : slipsL l b = [] := by
      unfold slipsL
      rw [if_neg]
      unfold slipsE
      rcases h with h | h | h
      · rw [if_neg h]; exact h
      · by_cases h1 : readE l = 0
        · simp [h1, h]
        · rw [if_neg h1]; exact h1
      · by_cases h1 : readE l = 0
        · cases h2 : balB b
          · simp [h1]
          · simp [h1, h]
        · rw [if_neg h1]; exact h1
    refine ⟨_, rfl, ?_, hu⟩
    rw [he]
    exact own_nil _ _ _ _
  · simp only [ne_eq, not_or, Decidable.not_not, Bool.not_eq_false] at h
    obtain ⟨h1, h2, h3⟩ := h
    refine (slips_ok A c l A2 c2 b w hr hc hr2 hc2 h1 h2 h3).mono ?_
    rintro e w' ⟨v, rfl, ho, hu⟩
    have he : slipsL l b = slipsTo l (balA b) l.length := by
      unfold slipsL slipsE
      rw [if_pos h1, if_pos h2, if_neg h3]
      by_cases hz : slipsTo l (balA b) l.length = []
      · simp [hz]
      · simp [hz]
    refine ⟨_, rfl, ?_, hu⟩
    rw [he]
    exact ho
end Go.Proofs.Ytdlekcdedahbhaa
namespace Go.Proofs.Ytdlekcdedahbhaa
open Go.RowKit Go.Shelf Go.Proofs.YtdlekcdedahbhaaW.PrintWords
set_option linter.unusedVariables false
set_option linter.unusedSimpArgs false
structure Kt (lo : Nat → Prop) (W W' : World) : Prop where
  os : W'.os = W.os
  tape : W'.tape = W.tape
  output : W'.output = W.output
  size : W.heap.size ≤ W'.heap.size
  same : ∀ (k : Nat) (o : Obj), W.heap[k]? = some o → (∀ C T z, o = Obj.cells C T z → ¬ lo T) → W'.heap[k]? = some o
theorem Kt.refl (lo : Nat → Prop) (W : World) : Kt lo W W := ⟨rfl, rfl, rfl, Nat.le_refl _, fun _ _ h _ => h⟩
theorem Kt.trans {lo : Nat → Prop} {A B C : World} (h : Kt lo A B) (k : Kt lo B C) : Kt lo A C := ⟨k.os.trans h.os, k.tape.trans h.tape, k.output.trans h.output, Nat.le_trans h.size k.size, fun i o hi hl => k.same i o (h.same i o hi hl) hl⟩
theorem Kt.up {lo : Nat → Prop} {A B : World} (h : Up A B) : Kt lo A B := ⟨h.os, h.tape, h.output, h.size, fun k o hk _ => (h.block k (Array.getElem?_eq_some_iff.1 hk).1).trans hk⟩
theorem Kt.bx {lo : Nat → Prop} {A B : World} (h : Kt lo A B) {b : Nat} {C : Array Value} {T : TypeId} (hb : Bx A b C T) (hT : ¬ lo T) : Bx B b C T :=
  h.same b _ hb (fun C' T' z e => by cases e; exact hT)
def Stays {β : Type} (ow : Nat → Prop) (B : Nat) (J : β → World → Prop) : Prop :=
  ∀ s W W' row, J s W → W.grownBy W' row → (∀ r, row = some r → B ≤ r ∧ ∃ o : Obj, W.heap[r]? = some o ∧ (o.isCells = false ∨ ∃ C T z, o = Obj.cells C T z ∧ ow T)) → J s W'
theorem Stays.putObj {β : Type} {ow : Nat → Prop} {B : Nat} {J : β → World → Prop} (h : Stays ow B J) {s : β} {W : World} {l : Nat} {o : Obj} (o' : Obj) (hs : J s W) (hB : B ≤ l) (hl : W.heap[l]? = some o) (ho : o.isCells = false) : J s (W.putObj l o') :=
  h s W _ (some l) hs (grownBy_putObj' W l o') (fun r e => by cases e; exact ⟨hB, o, hl, .inl ho⟩)
theorem Stays.alloc {β : Type} {ow : Nat → Prop} {B : Nat} {J : β → World → Prop} (h : Stays ow B J) {s : β} {W : World} (o : Obj) (hs : J s W) : J s (W.alloc o) :=
  h s W _ none hs (World.grownBy_alloc W o none) (fun r e => by cases e)
theorem Stays.up {β : Type} {ow : Nat → Prop} {B : Nat} {J : β → World → Prop} (h : Stays ow B J) {s : β} {W W' : World} (hs : J s W) (hu : Up W W') : J s W' :=
  h s W _ none hs (grown_of_below hu none) (fun r e => by cases e)
theorem Stays.set {β : Type} {ow : Nat → Prop} {B : Nat} {J : β → World → Prop} (h : Stays ow B J) {s : β} {W : World} {b : Nat} {C : Array Value} {T : TypeId} (hs : J s W) (hB : B ≤ b) (hb : Bx W b C T) (hT : ow T) (o : Nat) (u : Value) : J s (W.setCell ⟨b, o, none⟩ u) := by
  have hb0 := Below.setCell (B := 0) (Below.refl 0 W) (p := ⟨b, o, none⟩) (Nat.zero_le _) u
  refine h s W _ (some b) hs ⟨hb0.os, hb0.tape, hb0.output, hb0.size, fun k _ hk => Below.heap_setCell W ⟨b, o, none⟩ u k (fun e => hk (by rw [e]))⟩ (fun r e => ?_)
  cases e
  exact ⟨hB, _, hb, .inr ⟨_, _, _, rfl, hT⟩⟩
def givesPost {α : Type} (lo : Nat → Prop) (I : List α → World → Prop) (xs : List α) (W : World) : Exit → Act → World → Prop
  | .normal, _, W' => Kt lo W W' ∧ I xs W'
  | _, _, _ => False
def Gives {α : Type} (F : Fence) (n : Nat) (P : Program) (g : Nat) (lb : Array Value) (G : World → Value → α → Prop) (lo ow : Nat → Prop) (L : List α) (w : World) : Prop :=
  ∀ (lp : Nat) (J : List α → World → Prop) (W : World), Up w W → Stays ow W.heap.size J →
    (∀ pre x post v W1, pre ++ x :: post = L → J pre W1 → Kt lo w W1 → G W1 v x → YieldAt F (n - 1) P lp #[v] W1 fun e W' => e = .returned (.bool true) ∧ J (pre ++ [x]) W' ∧ Kt lo W1 W') →
    J [] W →
    CallsIn F n P g (#[.func (.yield lp) #[] #[]] ++ lb) W fun e W' => (∃ v, e = .returned v) ∧ J L W'
theorem range_gives {α : Type} {F : Fence} {n : Nat} {P : Program} {g : Operand} {ps : Array Tmp} {assign body : Code} {Q : Exit → Act → World → Prop} {a : Act} {w : World}
    (hro : F.round = none) (h1 : 1 ≤ n) {gf : Nat} {lb : Array Value} (hg : a.eval g = .func (.func gf) #[] lb) (hFg : F.fn gf) (eg : ∀ args w, (callFunc gf args).run P w = .ok (.enter gf args) w)
    {G : World → Value → α → Prop} {lo ow : Nat → Prop} {L : List α} {w0 : World} (hseq : Gives F (n - 1) P gf lb G lo ow L w0) (hb0 : Up w0 w) (hps : ps.size = 1)
    (hG : ∀ (W : World) (l : Nat) (o o' : Obj) v x, W.heap[l]? = some o → o.isCells = false → G W v x → G (W.putObj l o') v x)
    (I : List α → World → Prop) (hI : Stays ow w.heap.size I) (h0 : I [] w) (Ax : Value → Act → Prop)
    (hassign : ∀ (l : Nat) (v : Value) (W : World) (K : Act → World → Prop), (∀ a', Ax v a' → K a' W) →
      assign.wpIn (F.inRound l) (n - 1 - 1) P (Exit.then K (fun _ _ _ => False)) { tmps := (ps.zip #[v]).foldl (fun t (p, v) => t.setIfInBounds p v) a.tmps, defers := [] } W)
    (hbody : ∀ (l : Nat) (pre : List α) (x : α) (post : List α) (v : Value) (a' : Act) (W : World), w.heap.size ≤ l → (∃ r, W.heap[l]? = some (.loop r)) → pre ++ x :: post = L → I pre W → G W v x → Ax v a' → body.wpIn (F.inRound l) (n - 1 - 1) P (givesPost lo I (pre ++ [x]) W) a' W)
    (hdone : ∀ (D : Nat) (W : World), w.heap.size ≤ D → I L W → W.heap[D]? = some (.deferred (some [])) → Q .normal { a with defers := { target := .collected D, args := #[] } :: a.defers } W) :
    (Code.rangeFunc g ps assign body).wpIn F n P Q a w := by
  refine wpIn_rangeFunc fun fn hfn => ?_
  rw [hro]
  obtain ⟨rec, hrec⟩ : ∃ rec : LoopState → Loop, rec = fun st => { state := st, pending := none, fn, tmps := a.tmps, params := ps, assign, body, defers := w.heap.size } := ⟨_, rfl⟩
  obtain ⟨W1, hW1⟩ : ∃ W1, W1 = (w.alloc (.deferred (some []))).alloc (.loop (rec .ready)) := ⟨_, rfl⟩
  have hL1 : W1.heap[w.heap.size + 1]? = some (.loop (rec .ready)) := by
    have h := World.alloc_heap_new (w.alloc (.deferred (some []))) (.loop (rec .ready))
    rw [World.size_alloc] at h
    rw [hW1]
    exact h
  have hu1 : Up w W1 := by rw [hW1]; exact ((Up.refl w).alloc _).alloc _
  have hD1 : W1.heap[w.heap.size]? = some (.deferred (some [])) := by
    rw [hW1]
    exact (((Up.refl (w.alloc (.deferred (some [])))).alloc _).block _ (by simp)).trans (World.alloc_heap_new w _)
  have hs1 : W1.heap.size = w.heap.size + 2 := by rw [hW1]; simp
  have hI1 : I [] W1 := by rw [hW1]; exact hI.alloc _ (hI.alloc _ h0)
  refine ⟨w.heap.size + 1, [{ target := .collected w.heap.size, args := #[] }], W1, { target := .fn (.func gf) lb, args := #[.func (.yield (w.heap.size + 1)) #[] #[]] }, W1, gf,
    #[.func (.yield (w.heap.size + 1)) #[] #[]] ++ lb, W1, ?_, ?_, ?_, ?_, fun _ => h1, ?_⟩
  · rw [hW1, hrec]; exact run_enterLoop_outer _ _ _ _ _
  · simp only [resolve, hg]
    simp [go_sem]
  · intro f' hf'
    simp [Target.leads] at hf'
    subst hf'
    exact hFg
  · simp [invoke, go_sem, eg]
  have hJ : Stays ow W1.heap.size (fun (pre : List α) (W : World) => I pre W ∧ W.heap[w.heap.size + 1]? = some (.loop (rec .ready)) ∧ W.heap[w.heap.size]? = some (.deferred (some []))) := by
    rintro s A B row ⟨k1, k2, k3⟩ hg' hr
    have hn : ∀ k, k < W1.heap.size → some k ≠ row := fun k hk e => by have := (hr k e.symm).1; omega
    exact ⟨hI s A B row k1 hg' (fun r e => ⟨by have := (hr r e).1; omega, (hr r e).2⟩), (hg'.block _ (Array.getElem?_eq_some_iff.1 k2).1 (hn _ (by omega))).trans k2, (hg'.block _ (Array.getElem?_eq_some_iff.1 k3).1 (hn _ (by omega))).trans k3⟩
  refine (hseq (w.heap.size + 1) _ W1 (hb0.then hu1) hJ ?_ ⟨hI1, hL1, hD1⟩).mono ?_
  · rintro pre x post v W hL ⟨k1, k2, k3⟩ hup hGv
    have hy := run_yield (P := P) (args := #[v]) k2 (by rw [hrec]; simp [hps])
    rw [hrec] at hy
    refine ⟨fn, _, assign, body, hy, roundIn_of_wpIn hfn (hassign _ v W _ fun a' hax => ?_)⟩
    refine ⟨_, run_beginRound k2 (by rw [hrec]), ?_⟩
    have hlt := (Array.getElem?_eq_some_iff.1 k2).1
    have hb2 : (W.putObj (w.heap.size + 1) (.loop { rec .ready with state := .busy })).heap[w.heap.size + 1]? = some (.loop { rec .ready with state := .busy }) := World.putObj_heap_same hlt
    refine wpIn_mono (hbody _ pre x post v a' _ (by omega) ⟨_, hb2⟩ hL (hI.putObj _ k1 (by omega) k2 rfl) (hG _ _ _ _ _ _ k2 rfl hGv) hax) ?_
    rintro e a3 W3 hp
    cases e with
    | normal =>
      obtain ⟨q1, q2⟩ := hp
      have hl3 := q1.same _ _ hb2 (fun C T z e => by cases e)
      have hr3 := run_endRound (P := P) none hl3
      have hlt3 := (Array.getElem?_eq_some_iff.1 hl3).1
      have hback : ({ ({ rec .ready with state := .busy } : Loop) with state := .ready, pending := none } : Loop) = rec .ready := by rw [hrec]
      refine ⟨_, _, hr3, rfl, ⟨hI.putObj _ q2 (by omega) hl3 rfl, ?_, ?_⟩, ⟨?_, ?_, ?_, ?_, ?_⟩⟩
      · refine (World.putObj_heap_same hlt3).trans ?_
        simp only [Option.isNone_none, if_true]
        rw [hback]
      · refine (World.putObj_heap_other (by omega)).trans (q1.same _ _ ((World.putObj_heap_other (by omega)).trans k3) (fun C T z e => by cases e))
      · exact q1.os
      · exact q1.tape
      · exact q1.output
      · have := q1.size; simpa using this
      · intro k o hk hlo
        by_cases hkl : k = w.heap.size + 1
        · subst hkl
          have he : o = .loop (rec .ready) := by rw [k2] at hk; exact (Option.some.inj hk).symm
          subst he
          refine (World.putObj_heap_same hlt3).trans ?_
          simp only [Option.isNone_none, if_true]
          rw [hback]
        · exact (World.putObj_heap_other hkl).trans (q1.same k o ((World.putObj_heap_other hkl).trans hk) hlo)
    | _ => exact hp.elim
  · rintro e W2 ⟨⟨v, rfl⟩, k1, k2, k3⟩
    have he := run_endLoop (P := P) k2 (by rw [hrec]; simp)
    rw [hrec] at he
    exact ⟨none, _, he, hdone _ _ (Nat.le_refl _) (hI.putObj _ k1 (by omega) k2 rfl) ((World.putObj_heap_other (by omega)).trans k3)⟩
theorem roundIn_any {P : Program} {l : Nat} {f : FuncId} {tmps : Array Value} {assign body : Code} {w : World} {R : Ending → World → Prop} {n : Nat} (h : RoundIn Fence.wide n P l f tmps assign body w R) (m q : Nat) : RoundIn (Fence.wide.inRound q) m P l f tmps assign body w R :=
  ⟨h.1, fun c cs _ => h.2 c cs (room_wide _)⟩
theorem roundIn_wide {P : Program} {l : Nat} {f : FuncId} {tmps : Array Value} {assign body : Code} {w : World} {R : Ending → World → Prop} {n : Nat} (h : RoundIn Fence.wide n P l f tmps assign body w R) (m : Nat) : RoundIn Fence.wide m P l f tmps assign body w R :=
  ⟨h.1, fun c cs _ => h.2 c cs (room_wide _)⟩
theorem yieldAt_wide {P : Program} {l n : Nat} {args : Array Value} {W : World} {R : Ending → World → Prop} (h : YieldAt Fence.wide n P l args W R) (m : Nat) : YieldAt Fence.wide m P l args W R := by
  obtain ⟨fn, tmps, assign, body, h1, h2⟩ := h
  exact ⟨fn, tmps, assign, body, h1, roundIn_wide h2 m⟩
theorem Gives.any {α : Type} {n : Nat} {P : Program} {g : Nat} {lb : Array Value} {G : World → Value → α → Prop} {lo ow : Nat → Prop} {L : List α} {w : World} (h : Gives Fence.wide n P g lb G lo ow L w) (m : Nat) : Gives Fence.wide m P g lb G lo ow L w :=
  fun lp J W hu hJ hY h0 => callsIn_wide.2 (callsIn_wide.1 (h lp J W hu hJ (fun pre x post v W1 e k1 k2 k3 => yieldAt_wide (hY pre x post v W1 e k1 k2 k3) _) h0))
end Go.Proofs.Ytdlekcdedahbhaa
